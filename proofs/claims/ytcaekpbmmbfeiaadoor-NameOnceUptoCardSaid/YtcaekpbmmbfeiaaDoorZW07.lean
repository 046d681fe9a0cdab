/- Texts of a verified walk, led together: NamxA, NamxW, Law12tA, Law12tW, Law12gA, Law12gW, Glok12A, Glok12W. -/
import Derived.Test.YtcaekpbmmbfeiaaDoorZW06
import Derived.Test.YtcaekpbmmbfeiaaDoorZV12
import Derived.Test.YtcaekpbmmbfeiaaDoorZShelf
import Derived.Test.YtcaekpbmmbfeiaaDoorRows
set_option linter.unusedVariables false
set_option linter.unusedSimpArgs false
section
/- Contracts. -/
namespace Go.Proofs.YtcaekpbmmbfeiaaDoor
open Go Go.Vc Go.Pl Go.Proofs
def c_strings_ReplaceAll : Con := { args := [Kd.str, Kd.str, Kd.str].map .dat, res := [Kd.str].map .dat, pre := fun x => x.1.length ≤ 1000000 ∧ x.2.1.length = 1 ∧ x.2.2.1.length = 2, post := fun x y => y.1 = repD (x.2.1.getD 0 0) x.2.2.1 x.1 }
def c_strings_Join : Con := { args := [Kd.sl .str, Kd.str].map .dat, res := [Kd.str].map .dat, pre := fun x => (x.1 : List (List Int)).length ≤ 1000000 ∧ (joinO x.1 x.2.1).length ≤ 1000000000, post := fun x y => y.1 = joinO x.1 x.2.1 }
def c_name_escaped : Con := { args := [.dat .str], res := [.dat .str], pre := fun x => x.1.length ≤ 100000, post := fun x y => y.1 = escD x.1 }
def c_name_Text : Con := { args := [.dat (.sl AT)], res := [.dat .str, .dat I64], pre := fun x => x.1.length ≤ 1000000000, post := fun x y => (y.1, y.2.1) = TextN x.1 }

end Go.Proofs.YtcaekpbmmbfeiaaDoor
end
section
/- Walks. -/
namespace Go.Proofs.YtcaekpbmmbfeiaaDoor
open Go Go.Vc Go.Pl Go.Proofs
set_option linter.unusedVariables false
set_option linter.unusedSimpArgs false
set_option maxRecDepth 20000
theorem adft_eq5 : Kd.dft (Kd.pair (Kd.int IntKind.i64) Kd.str) = adft := rfl
theorem h77 : c_strings_ReplaceAll.ok Tryd.prog GL 77 := by
  refine lib_ok (ks := [Kd.str, Kd.str, Kd.str]) (rs := [Kd.str]) Tryd.func77 (by kernel_rfl) (by decide) ?_
  rintro w F ⟨l, m, q, u⟩ vs h hg hp
  obtain ⟨v1, r1, rfl, h1, v2, r2, rfl, h2, v3, r3, rfl, h3, rfl⟩ := h
  obtain ⟨s, rfl, rfl, hs⟩ := VRep_str.1 h1
  obtain ⟨t, rfl, rfl, ht⟩ := VRep_str.1 h2
  obtain ⟨n, rfl, rfl, hn⟩ := VRep_str.1 h3
  obtain ⟨_, _, k, hk⟩ := hg 0 (.num .i64) rfl
  obtain ⟨p1, p2, p3⟩ := hp
  simp only at p1 p2 p3
  rw [bs_length] at p1
  have hb : ∀ s : ByteArray, Bys (bs s) := bs_range
  have et : bs t = [(bs t).getD 0 0] := by
    generalize bs t = l at p2
    match l, p2 with
    | [a], _ => rfl
  have hc := bys_get (hb t) 0
  have t1 : t.size = 1 := by rw [← bs_length]; exact p2
  have n2 : n.size = 2 := by rw [← bs_length]; exact p3
  have hcnt := Lib.countB_le t (by omega) s.size s (Nat.le_refl _)
  refine Calls.mono (Tryd.strings_ReplaceAll s t n k w (by omega) hk (by omega) (by rw [n2]; omega)) ?_
  rintro e w' ⟨rfl, hbl⟩
  have hr : bs ⟨(Lib.replaceAll s.data.toList t.data.toList n.data.toList).toArray⟩ = repD ((bs t).getD 0 0) (bs n) (bs s) := by
    rw [← u8s_bs s, ← u8s_bs t, ← u8s_bs n, et]
    refine replAll hc (hb s) (hb n) fun h => ?_
    have := congrArg List.length h
    unfold u8s at this
    rw [List.length_map, List.length_map] at this
    simp at this
    omega
  have hlen := rep_len ((bs t).getD 0 0) (bs n) (by omega) (bs s)
  have hl2 := congrArg List.length hr
  rw [bs_length] at hl2
  rw [bs_length] at hlen
  exact ⟨below_kept hbl, [_], (repD ((bs t).getD 0 0) (bs n) (bs s), ()), rfl, rfl, _, [], rfl, VRep_str.2 ⟨_, rfl, hr, by omega⟩, rfl⟩
theorem h55 : c_strings_Join.ok Tryd.prog GL 55 := by
  refine lib_ok (ks := [Kd.sl .str, Kd.str]) (rs := [Kd.str]) Tryd.func55 (by kernel_rfl) (by decide) ?_
  rintro w F ⟨l, m, u⟩ vs h hg hp
  obtain ⟨v1, r1, rfl, h1, v2, r2, rfl, h2, rfl⟩ := h
  obtain ⟨A, c, rfl, hc1, hc2, hA⟩ := VRep_sl.1 h1
  obtain ⟨t, rfl, rfl, ht⟩ := VRep_str.1 h2
  obtain ⟨p1, p2⟩ := hp
  simp only at p1 p2 hA hc1
  by_cases hl : l = []
  · subst hl
    refine Calls.mono (Tryd.strings_Join_none A c t w) ?_
    rintro e w' ⟨rfl, rfl⟩
    exact ⟨Kept.refl _ _, [_], ([], ()), rfl, rfl, _, [], rfl, VRep_str.2 ⟨⟨#[]⟩, rfl, rfl, by decide⟩, rfl⟩
  · obtain ⟨ad, rfl, hb, _, hE⟩ := hA hl
    obtain ⟨hs, xs, rfl, hx⟩ := texts_of hE
    obtain ⟨bk, o, sp⟩ := ad
    have hs : sp = none := hs hl
    subst hs
    have hlen : xs.length = (xs.map bs).length := (List.length_map ..).symm
    have hj := congrArg List.length (join_bs xs t)
    rw [bs_u8s, List.length_map] at hj
    have hc : ∀ (j : Nat) (x : ByteArray), xs[j]? = some x → w.cell? ⟨bk, o + j, none⟩ = some (.string x) := fun j x hx2 => by
      have := hx j x hx2
      rwa [addr_add] at this
    have hJ := Tryd.strings_Join bk o c xs t w hc hb (by omega) (by omega) (by omega)
    rw [hlen] at hJ
    refine Calls.mono hJ ?_
    rintro e w' ⟨rfl, hbl⟩
    refine ⟨below_kept hbl, [_], (joinO (xs.map bs) (bs t), ()), rfl, rfl, _, [], rfl, VRep_str.2 ⟨_, rfl, join_bs xs t, ?_⟩, rfl⟩
    show (Lib.join (xs.map (·.data.toList)) t.data.toList).toArray.size ≤ _
    simp only [List.size_toArray]
    omega
def t54 : Prop :=
  ∀ (x : List Int × Unit), Kd.wf Kd.str x.fst ∧ True → List.length x.fst ≤ (100000 : Nat) → (List.length x.fst ≤ (1000000 : Nat) ∧ List.length (bs { data := #[(92 : UInt8)] }) = (1 : Nat) ∧
  List.length (bs { data := #[(92 : UInt8), (92 : UInt8)] }) = (2 : Nat)) ∧ (∀ (y : List Int × Unit), Kd.wf Kd.str y.fst ∧ True → y.fst = repD (List.getD (bs { data := #[(92 : UInt8)] }) (0 :
  Nat) (0 : Int)) (bs { data := #[(92 : UInt8), (92 : UInt8)] }) x.fst → (List.length y.fst ≤ (1000000 : Nat) ∧ List.length (bs { data := #[(44 : UInt8)] }) = (1 : Nat) ∧ List.length (bs {
  data := #[(92 : UInt8), (44 : UInt8)] }) = (2 : Nat)) ∧ (∀ (y_1 : List Int × Unit), Kd.wf Kd.str y_1.fst ∧ True → y_1.fst = repD (List.getD (bs { data := #[(44 : UInt8)] }) (0 : Nat) (0 :
  Int)) (bs { data := #[(92 : UInt8), (44 : UInt8)] }) y.fst → y_1.fst = escD x.fst) ∧ True) ∧ True
theorem e54 : t54 = Con.vc c_name_escaped GL (mkEnv ty [(77, conSem c_strings_ReplaceAll)] [] [] [0, 2]) {} Tryd.f54.ntmps Tryd.f54.results.toList (bodyOf Tryd.f54) := by kernel_rfl
theorem k54 : t54 := by
  unfold t54
  rintro ⟨v, _⟩ hx hp
  have hp : v.length ≤ 100000 := hp
  try dsimp +instances only [dft_int, dft_sl, dft_str]
  simp only [true_and, and_true, eq_self_iff_true, implies_true, reduceCtorEq, false_implies, true_implies, decide_eq_true_eq, decide_eq_false_iff_not, beq_self_eq_true, Bool.not_eq_true', ne_eq, Decidable.not_not, List.nil_append, List.length_singleton, List.length_cons, List.length_nil, Nat.zero_add, Nat.add_zero, Nat.mul_one, and_self, beq_iff_eq, Bool.not_true, Bool.not_false, Bool.not_eq_false', Bool.cond_false_right, Bool.and_eq_true, imp_self, Bool.not_eq_true, Bool.cond_true_left, Bool.or_eq_true]
  rw [show bs { data := #[92] } = [92] by decide, show bs { data := #[92, 92] } = [92, 92] by decide, show bs { data := #[44] } = [44] by decide, show bs { data := #[92, 44] } = [92, 44] by decide]
  refine ⟨⟨by omega, rfl, rfl⟩, ?_⟩
  rintro ⟨y, _⟩ _ ey
  have ey : y = repD 92 [92, 92] v := ey
  have hl := rep_len 92 [92, 92] (by decide) v
  simp only
  rw [ey]
  refine ⟨⟨by omega, rfl, rfl⟩, ?_⟩
  rintro ⟨z, _⟩ _ ez
  have ez : z = repD 44 [92, 44] (repD 92 [92, 92] v) := ez
  rw [rep_esc] at ez
  exact ez
theorem h54 : c_name_escaped.ok Tryd.prog GL 54 := con_ok (H := {}) (mkEnv_ok (gl := GL) (l := [(77, conSem c_strings_ReplaceAll)]) (q := []) (d := []) _ tyOk (by kernel_rfl) ⟨h77.call, trivial⟩ trivial trivial) (by kernel_rfl) (by kernel_rfl) (Eq.mp e54 k54)

def t27 : Prop :=
  ∀ (x : List (Int × List Int) × Unit), Kd.wf (Kd.sl (Kd.pair (Kd.int IntKind.i64) Kd.str)) x.fst ∧ True → List.length x.fst ≤ (1000000000 : Nat) → True ∧ (∀ (y : Bool × Unit), Kd.wf Kd.bool
  y.fst ∧ True → y.fst = mayN x.fst → ((!y.fst) = true → (bs { data := #[] }, (120 : Int)) = TextN x.fst) ∧ ((!y.fst) = false → ∃ (I : Int × Unit → List (List Int) × Unit → Prop), ∃ (μ : Int
  × Unit → List (List Int) × Unit → Nat), ((↑(List.length x.fst) : Int) = (↑(List.length x.fst) : Int) ∧ x.fst = x.fst ∧ Value.bool false = Value.bool false ∧ (0 : Int) = (0 : Int) ∧ bs {
  data := #[] } = bs { data := #[] } ∧ x.fst = x.fst ∧ I ((0 : Int), ()) ([], ())) ∧ ∀ (y : Int × Unit) (z : List (List Int) × Unit), Kd.wf (Kd.int IntKind.i64) y.fst ∧ True → Kd.wf (Kd.sl
  Kd.str) z.fst ∧ True → I y z → (decide (y.fst < (↑(List.length x.fst) : Int)) = true → ((0 : Int) ≤ y.fst ∧ y.fst < (↑(List.length x.fst) : Int)) ∧ (2 : Nat) ≤ (65536 : Nat) ∧ ((True ∧ (∀
  (y_1 : List Int × Unit), Kd.wf Kd.str y_1.fst ∧ True → y_1.fst = labelK (List.getD x.fst (Int.toNat y.fst) (Kd.dft (Kd.pair (Kd.int IntKind.i64) Kd.str))).fst → (List.length y_1.fst + (1 :
  Nat) ≤ (9223372036854775807 : Nat) ∧ ((List.length (List.getD x.fst (Int.toNat y.fst) (Kd.dft (Kd.pair (Kd.int IntKind.i64) Kd.str))).snd ≤ (100000 : Nat) ∧ (∀ (y_2 : List Int × Unit),
  Kd.wf Kd.str y_2.fst ∧ True → y_2.fst = escD (List.getD x.fst (Int.toNat y.fst) (Kd.dft (Kd.pair (Kd.int IntKind.i64) Kd.str))).snd → (List.length (y_1.fst ++ bs { data := #[(61 : UInt8)]
  }) + List.length y_2.fst ≤ (9223372036854775807 : Nat) ∧ (((0 : Nat) < (1 : Nat) ∧ (List.length z.fst + List.length [y_1.fst ++ bs { data := #[(61 : UInt8)] } ++ y_2.fst]) * (16 : Nat) ≤
  (140737488355328 : Nat) ∧ List.length z.fst + List.length [y_1.fst ++ bs { data := #[(61 : UInt8)] } ++ y_2.fst] ≤ (9223372036854775807 : Nat) ∧ (↑(List.length x.fst) : Int) =
  (↑(List.length x.fst) : Int) ∧ x.fst = x.fst ∧ Value.bool false = Value.bool false ∧ (0 : Int) = (0 : Int) ∧ bs { data := #[] } = bs { data := #[] } ∧ x.fst = x.fst ∧ I (IntKind.wrap
  IntKind.i64 (y.fst + (1 : Int)), ()) (z.fst ++ [y_1.fst ++ bs { data := #[(61 : UInt8)] } ++ y_2.fst], ()) ∧ μ (IntKind.wrap IntKind.i64 (y.fst + (1 : Int)), ()) (z.fst ++ [y_1.fst ++ bs {
  data := #[(61 : UInt8)] } ++ y_2.fst], ()) < μ y z) ∧ True) ∧ True) ∧ True) ∧ True) ∧ True) ∧ True) ∧ ((List.length y_1.fst + (1 : Nat) ≤ (9223372036854775807 : Nat) ∧ (List.length
  (List.getD x.fst (Int.toNat y.fst) (Kd.dft (Kd.pair (Kd.int IntKind.i64) Kd.str))).snd ≤ (100000 : Nat) ∧ (∀ (y_2 : List Int × Unit), Kd.wf Kd.str y_2.fst ∧ True → y_2.fst = escD (List.getD
  x.fst (Int.toNat y.fst) (Kd.dft (Kd.pair (Kd.int IntKind.i64) Kd.str))).snd → (List.length (y_1.fst ++ bs { data := #[(61 : UInt8)] }) + List.length y_2.fst ≤ (9223372036854775807 : Nat) ∧
  (((0 : Nat) < (1 : Nat) ∧ (List.length z.fst + List.length [y_1.fst ++ bs { data := #[(61 : UInt8)] } ++ y_2.fst]) * (16 : Nat) ≤ (140737488355328 : Nat) ∧ List.length z.fst + List.length
  [y_1.fst ++ bs { data := #[(61 : UInt8)] } ++ y_2.fst] ≤ (9223372036854775807 : Nat) ∧ (↑(List.length x.fst) : Int) = (↑(List.length x.fst) : Int) ∧ x.fst = x.fst ∧ Value.bool false =
  Value.bool false ∧ (0 : Int) = (0 : Int) ∧ bs { data := #[] } = bs { data := #[] } ∧ x.fst = x.fst ∧ I (IntKind.wrap IntKind.i64 (y.fst + (1 : Int)), ()) (z.fst ++ [y_1.fst ++ bs { data :=
  #[(61 : UInt8)] } ++ y_2.fst], ()) ∧ μ (IntKind.wrap IntKind.i64 (y.fst + (1 : Int)), ()) (z.fst ++ [y_1.fst ++ bs { data := #[(61 : UInt8)] } ++ y_2.fst], ()) < μ y z) ∧ True) ∧ True) ∧
  True) ∧ True) ∧ True) ∧ (List.length (List.getD x.fst (Int.toNat y.fst) (Kd.dft (Kd.pair (Kd.int IntKind.i64) Kd.str))).snd ≤ (100000 : Nat) ∧ (∀ (y_2 : List Int × Unit), Kd.wf Kd.str
  y_2.fst ∧ True → y_2.fst = escD (List.getD x.fst (Int.toNat y.fst) (Kd.dft (Kd.pair (Kd.int IntKind.i64) Kd.str))).snd → (List.length y_1.fst + (1 : Nat) ≤ (9223372036854775807 : Nat) ∧
  (List.length (y_1.fst ++ bs { data := #[(61 : UInt8)] }) + List.length y_2.fst ≤ (9223372036854775807 : Nat) ∧ (((0 : Nat) < (1 : Nat) ∧ (List.length z.fst + List.length [y_1.fst ++ bs {
  data := #[(61 : UInt8)] } ++ y_2.fst]) * (16 : Nat) ≤ (140737488355328 : Nat) ∧ List.length z.fst + List.length [y_1.fst ++ bs { data := #[(61 : UInt8)] } ++ y_2.fst] ≤ (9223372036854775807
  : Nat) ∧ (↑(List.length x.fst) : Int) = (↑(List.length x.fst) : Int) ∧ x.fst = x.fst ∧ Value.bool false = Value.bool false ∧ (0 : Int) = (0 : Int) ∧ bs { data := #[] } = bs { data := #[] }
  ∧ x.fst = x.fst ∧ I (IntKind.wrap IntKind.i64 (y.fst + (1 : Int)), ()) (z.fst ++ [y_1.fst ++ bs { data := #[(61 : UInt8)] } ++ y_2.fst], ()) ∧ μ (IntKind.wrap IntKind.i64 (y.fst + (1 :
  Int)), ()) (z.fst ++ [y_1.fst ++ bs { data := #[(61 : UInt8)] } ++ y_2.fst], ()) < μ y z) ∧ True) ∧ True) ∧ True) ∧ True) ∧ True) ∧ True) ∧ True) ∧ True) ∧ ((True ∧ (∀ (y_1 : List Int ×
  Unit), Kd.wf Kd.str y_1.fst ∧ True → y_1.fst = labelK (List.getD x.fst (Int.toNat y.fst) (Kd.dft (Kd.pair (Kd.int IntKind.i64) Kd.str))).fst → (List.length y_1.fst + (1 : Nat) ≤
  (9223372036854775807 : Nat) ∧ (List.length (List.getD x.fst (Int.toNat y.fst) (Kd.dft (Kd.pair (Kd.int IntKind.i64) Kd.str))).snd ≤ (100000 : Nat) ∧ (∀ (y_2 : List Int × Unit), Kd.wf Kd.str
  y_2.fst ∧ True → y_2.fst = escD (List.getD x.fst (Int.toNat y.fst) (Kd.dft (Kd.pair (Kd.int IntKind.i64) Kd.str))).snd → (List.length (y_1.fst ++ bs { data := #[(61 : UInt8)] }) +
  List.length y_2.fst ≤ (9223372036854775807 : Nat) ∧ (((0 : Nat) < (1 : Nat) ∧ (List.length z.fst + List.length [y_1.fst ++ bs { data := #[(61 : UInt8)] } ++ y_2.fst]) * (16 : Nat) ≤
  (140737488355328 : Nat) ∧ List.length z.fst + List.length [y_1.fst ++ bs { data := #[(61 : UInt8)] } ++ y_2.fst] ≤ (9223372036854775807 : Nat) ∧ (↑(List.length x.fst) : Int) =
  (↑(List.length x.fst) : Int) ∧ x.fst = x.fst ∧ Value.bool false = Value.bool false ∧ (0 : Int) = (0 : Int) ∧ bs { data := #[] } = bs { data := #[] } ∧ x.fst = x.fst ∧ I (IntKind.wrap
  IntKind.i64 (y.fst + (1 : Int)), ()) (z.fst ++ [y_1.fst ++ bs { data := #[(61 : UInt8)] } ++ y_2.fst], ()) ∧ μ (IntKind.wrap IntKind.i64 (y.fst + (1 : Int)), ()) (z.fst ++ [y_1.fst ++ bs {
  data := #[(61 : UInt8)] } ++ y_2.fst], ()) < μ y z) ∧ True) ∧ True) ∧ True) ∧ True) ∧ True) ∧ (List.length (List.getD x.fst (Int.toNat y.fst) (Kd.dft (Kd.pair (Kd.int IntKind.i64)
  Kd.str))).snd ≤ (100000 : Nat) ∧ (∀ (y_2 : List Int × Unit), Kd.wf Kd.str y_2.fst ∧ True → y_2.fst = escD (List.getD x.fst (Int.toNat y.fst) (Kd.dft (Kd.pair (Kd.int IntKind.i64)
  Kd.str))).snd → (List.length y_1.fst + (1 : Nat) ≤ (9223372036854775807 : Nat) ∧ (List.length (y_1.fst ++ bs { data := #[(61 : UInt8)] }) + List.length y_2.fst ≤ (9223372036854775807 : Nat)
  ∧ (((0 : Nat) < (1 : Nat) ∧ (List.length z.fst + List.length [y_1.fst ++ bs { data := #[(61 : UInt8)] } ++ y_2.fst]) * (16 : Nat) ≤ (140737488355328 : Nat) ∧ List.length z.fst + List.length
  [y_1.fst ++ bs { data := #[(61 : UInt8)] } ++ y_2.fst] ≤ (9223372036854775807 : Nat) ∧ (↑(List.length x.fst) : Int) = (↑(List.length x.fst) : Int) ∧ x.fst = x.fst ∧ Value.bool false =
  Value.bool false ∧ (0 : Int) = (0 : Int) ∧ bs { data := #[] } = bs { data := #[] } ∧ x.fst = x.fst ∧ I (IntKind.wrap IntKind.i64 (y.fst + (1 : Int)), ()) (z.fst ++ [y_1.fst ++ bs { data :=
  #[(61 : UInt8)] } ++ y_2.fst], ()) ∧ μ (IntKind.wrap IntKind.i64 (y.fst + (1 : Int)), ()) (z.fst ++ [y_1.fst ++ bs { data := #[(61 : UInt8)] } ++ y_2.fst], ()) < μ y z) ∧ True) ∧ True) ∧
  True) ∧ True) ∧ True) ∧ True) ∧ True) ∧ True) ∧ True) ∧ (((True ∧ (∀ (y_1 : List Int × Unit), Kd.wf Kd.str y_1.fst ∧ True → y_1.fst = labelK (List.getD x.fst (Int.toNat y.fst) (Kd.dft
  (Kd.pair (Kd.int IntKind.i64) Kd.str))).fst → (List.length y_1.fst + (1 : Nat) ≤ (9223372036854775807 : Nat) ∧ (List.length (List.getD x.fst (Int.toNat y.fst) (Kd.dft (Kd.pair (Kd.int
  IntKind.i64) Kd.str))).snd ≤ (100000 : Nat) ∧ (∀ (y_2 : List Int × Unit), Kd.wf Kd.str y_2.fst ∧ True → y_2.fst = escD (List.getD x.fst (Int.toNat y.fst) (Kd.dft (Kd.pair (Kd.int
  IntKind.i64) Kd.str))).snd → (List.length (y_1.fst ++ bs { data := #[(61 : UInt8)] }) + List.length y_2.fst ≤ (9223372036854775807 : Nat) ∧ (((0 : Nat) < (1 : Nat) ∧ (List.length z.fst +
  List.length [y_1.fst ++ bs { data := #[(61 : UInt8)] } ++ y_2.fst]) * (16 : Nat) ≤ (140737488355328 : Nat) ∧ List.length z.fst + List.length [y_1.fst ++ bs { data := #[(61 : UInt8)] } ++
  y_2.fst] ≤ (9223372036854775807 : Nat) ∧ (↑(List.length x.fst) : Int) = (↑(List.length x.fst) : Int) ∧ x.fst = x.fst ∧ Value.bool false = Value.bool false ∧ (0 : Int) = (0 : Int) ∧ bs {
  data := #[] } = bs { data := #[] } ∧ x.fst = x.fst ∧ I (IntKind.wrap IntKind.i64 (y.fst + (1 : Int)), ()) (z.fst ++ [y_1.fst ++ bs { data := #[(61 : UInt8)] } ++ y_2.fst], ()) ∧ μ
  (IntKind.wrap IntKind.i64 (y.fst + (1 : Int)), ()) (z.fst ++ [y_1.fst ++ bs { data := #[(61 : UInt8)] } ++ y_2.fst], ()) < μ y z) ∧ True) ∧ True) ∧ True) ∧ True) ∧ True) ∧ (List.length
  (List.getD x.fst (Int.toNat y.fst) (Kd.dft (Kd.pair (Kd.int IntKind.i64) Kd.str))).snd ≤ (100000 : Nat) ∧ (∀ (y_2 : List Int × Unit), Kd.wf Kd.str y_2.fst ∧ True → y_2.fst = escD (List.getD
  x.fst (Int.toNat y.fst) (Kd.dft (Kd.pair (Kd.int IntKind.i64) Kd.str))).snd → (List.length y_1.fst + (1 : Nat) ≤ (9223372036854775807 : Nat) ∧ (List.length (y_1.fst ++ bs { data := #[(61 :
  UInt8)] }) + List.length y_2.fst ≤ (9223372036854775807 : Nat) ∧ (((0 : Nat) < (1 : Nat) ∧ (List.length z.fst + List.length [y_1.fst ++ bs { data := #[(61 : UInt8)] } ++ y_2.fst]) * (16 :
  Nat) ≤ (140737488355328 : Nat) ∧ List.length z.fst + List.length [y_1.fst ++ bs { data := #[(61 : UInt8)] } ++ y_2.fst] ≤ (9223372036854775807 : Nat) ∧ (↑(List.length x.fst) : Int) =
  (↑(List.length x.fst) : Int) ∧ x.fst = x.fst ∧ Value.bool false = Value.bool false ∧ (0 : Int) = (0 : Int) ∧ bs { data := #[] } = bs { data := #[] } ∧ x.fst = x.fst ∧ I (IntKind.wrap
  IntKind.i64 (y.fst + (1 : Int)), ()) (z.fst ++ [y_1.fst ++ bs { data := #[(61 : UInt8)] } ++ y_2.fst], ()) ∧ μ (IntKind.wrap IntKind.i64 (y.fst + (1 : Int)), ()) (z.fst ++ [y_1.fst ++ bs {
  data := #[(61 : UInt8)] } ++ y_2.fst], ()) < μ y z) ∧ True) ∧ True) ∧ True) ∧ True) ∧ True) ∧ True) ∧ True) ∧ True) ∧ True) ∧ True) ∧ (decide (y.fst < (↑(List.length x.fst) : Int)) = false
  → (List.length z.fst ≤ (1000000 : Nat) ∧ List.length (joinO z.fst (bs { data := #[(44 : UInt8)] })) ≤ (1000000000 : Nat)) ∧ (∀ (y : List Int × Unit), Kd.wf Kd.str y.fst ∧ True → y.fst =
  joinO z.fst (bs { data := #[(44 : UInt8)] }) → (y.fst, (0 : Int)) = TextN x.fst) ∧ True))) ∧ True
theorem e27 : t27 = Con.vc c_name_Text GL (mkEnv ty [(29, conSem c_name_May), (53, conSem c_name_label), (54, conSem c_name_escaped), (55, conSem c_strings_Join)] [] [] [0, 2, 3, 4, 6, 9, 10, 11, 12, 13]) {} Tryd.f27.ntmps Tryd.f27.results.toList (bodyOf Tryd.f27) := by kernel_rfl
theorem k27 : t27 := by
  unfold t27
  rintro ⟨n, _⟩ hx hp
  have hp : n.length ≤ 1000000000 := hp
  try dsimp +instances only [dft_int, dft_sl, dft_str]
  simp only [true_and, and_true, eq_self_iff_true, implies_true, reduceCtorEq, false_implies, true_implies, decide_eq_true_eq, decide_eq_false_iff_not, beq_self_eq_true, Bool.not_eq_true', ne_eq, Decidable.not_not, List.nil_append, List.length_singleton, List.length_cons, List.length_nil, Nat.zero_add, Nat.add_zero, Nat.mul_one, and_self, beq_iff_eq, Bool.not_true, Bool.not_false, Bool.not_eq_false', Bool.cond_false_right, Bool.and_eq_true, imp_self, Bool.not_eq_true, Bool.cond_true_left, Bool.or_eq_true]
  simp only [adft_eq5]
  rw [show bs { data := #[61] } = [61] by decide, show bs { data := #[44] } = [44] by decide, bs_nil]
  rintro ⟨m, _⟩ _ em
  simp only at em ⊢
  subst em
  refine ⟨fun h => by rw [TextN, if_neg (by rw [h]; decide)], fun h => ?_⟩
  obtain ⟨h16, hA⟩ := mayN_args h
  refine ⟨fun y z => 0 ≤ y.1 ∧ y.1 ≤ n.length ∧ z.1 = (n.take y.1.toNat).map attrT, fun y _ => ((n.length : Int) - y.1).toNat, ⟨Int.le_refl 0, by simp only; omega, rfl⟩, ?_⟩
  rintro ⟨i, _⟩ ⟨z, _⟩ _ _ ⟨i0, i1, ez⟩
  simp only at i0 i1 ez ⊢
  have hzl : z.length ≤ n.length := by rw [ez, List.length_map, List.length_take]; omega
  refine ⟨fun hlt => ⟨⟨i0, hlt⟩, by decide, ?_⟩, fun hge => ?_⟩
  · have hm := hA _ (mem_getD adft n i.toNat (by omega))
    have hst : (n.take (i.toNat + 1)).map attrT = z ++ [attrT (n.getD i.toNat adft)] := by rw [take_snocA adft n _ (by omega), List.map_append, ← ez]; rfl
    have hv := mayA_len hm
    have hl2 := label_len (n.getD i.toNat adft).1
    have he := esc_len (n.getD i.toNat adft).2
    rw [wrapK (i + 1) (by omega) (by omega)]
    simp only [all_str]
    have F1 : (labelK (n.getD i.toNat adft).1).length + 1 ≤ 9223372036854775807 := by omega
    have F2 : (n.getD i.toNat adft).2.length ≤ 100000 := by omega
    have F3 : (labelK (n.getD i.toNat adft).1 ++ [61]).length + (escD (n.getD i.toNat adft).2).length ≤ 9223372036854775807 := by rw [List.length_append, List.length_singleton]; omega
    have F4 : (z.length + 1) * 16 ≤ 140737488355328 := by omega
    have F5 : z.length + 1 ≤ 9223372036854775807 := by omega
    have F6 : (0 ≤ i + 1 ∧ i + 1 ≤ (n.length : Int) ∧ z ++ [labelK (n.getD i.toNat adft).1 ++ [61] ++ escD (n.getD i.toNat adft).2] = (n.take (i + 1).toNat).map attrT) ∧ ((n.length : Int) - (i + 1)).toNat < ((n.length : Int) - i).toNat := by
      refine ⟨⟨by omega, by omega, ?_⟩, by omega⟩
      rw [show (i + 1).toNat = i.toNat + 1 by omega, hst, attrT, List.append_assoc]
      rfl
    have T := And.intro F3 (And.intro (show 0 < 1 by decide) (And.intro F4 (And.intro F5 F6)))
    exact ⟨⟨fun _ => ⟨⟨F1, F2, fun _ => T⟩, ⟨F1, F2, fun _ => T⟩, F2, fun _ => ⟨F1, T⟩⟩, fun _ => ⟨⟨F1, F2, fun _ => T⟩, F2, fun _ => ⟨F1, T⟩⟩⟩, fun _ => ⟨⟨F1, F2, fun _ => T⟩, F2, fun _ => ⟨F1, T⟩⟩⟩
  · have ezz : z = n.map attrT := by rw [ez, List.take_of_length_le (by omega)]
    have hlen := txtN_len hA n.length (Nat.le_refl _)
    rw [txtN_all (Nat.le_refl _)] at hlen
    rw [ezz, join_txtN]
    refine ⟨⟨by rw [List.length_map]; omega, by omega⟩, ?_⟩
    rintro ⟨y, _⟩ _ ey
    simp only at ey ⊢
    rw [ey, TextN, if_pos h]
theorem h27 : c_name_Text.ok Tryd.prog GL 27 := con_ok (H := {}) (mkEnv_ok (gl := GL) (l := [(29, conSem c_name_May), (53, conSem c_name_label), (54, conSem c_name_escaped), (55, conSem c_strings_Join)]) (q := []) (d := []) _ tyOk (by kernel_rfl) ⟨h29.call, h53.call, h54.call, h55.call, trivial⟩ trivial trivial) (by kernel_rfl) (by kernel_rfl) (Eq.mp e27 k27)

end Go.Proofs.YtcaekpbmmbfeiaaDoor
end
section
/- Contracts. -/
namespace Go.Proofs.YtcaekpbmmbfeiaaDoor
open Go Go.Vc Go.Pl Go.Proofs
def c_law12_there : Con := { args := [], res := [.dat .bool], pre := fun _ => True, post := fun _ y => y.1 = true }

end Go.Proofs.YtcaekpbmmbfeiaaDoor
end
section
/- Walks. -/
namespace Go.Proofs.YtcaekpbmmbfeiaaDoor
open Go Go.Vc Go.Pl Go.Proofs
set_option linter.unusedVariables false
set_option linter.unusedSimpArgs false
set_option maxRecDepth 20000
def t17 : Prop :=
  ∀ (x : Unit), True → True → True ∧ (∀ (y : Bool × Unit), Kd.wf Kd.bool y.fst ∧ True → y.fst = mayN [((6 : Int), bs { data := #[(68 : UInt8), (69 : UInt8)] })] → y.fst = true) ∧ True
theorem e17 : t17 = Con.vc c_law12_there GL (mkEnv ty [(29, conSem c_name_May)] [] [] [0]) {} Tryd.f17.ntmps Tryd.f17.results.toList (bodyOf Tryd.f17) := by kernel_rfl
theorem k17 : t17 := by
  unfold t17
  rintro _ hx hp
  try dsimp +instances only [dft_int, dft_sl, dft_str]
  simp only [true_and, and_true, eq_self_iff_true, implies_true, reduceCtorEq, false_implies, true_implies, decide_eq_true_eq, decide_eq_false_iff_not, beq_self_eq_true, Bool.not_eq_true', ne_eq, Decidable.not_not, List.nil_append, List.length_singleton, List.length_cons, List.length_nil, Nat.zero_add, Nat.add_zero, Nat.mul_one, and_self, beq_iff_eq, Bool.not_true, Bool.not_false, Bool.not_eq_false', Bool.cond_false_right, Bool.and_eq_true, imp_self, Bool.not_eq_true, Bool.cond_true_left, Bool.or_eq_true]
  simp only [all_bool]
  rw [show bs { data := #[68, 69] } = [68, 69] by decide]
  exact may_de
theorem h17 : c_law12_there.ok Tryd.prog GL 17 := con_ok (H := {}) (mkEnv_ok (gl := GL) (l := [(29, conSem c_name_May)]) (q := []) (d := []) _ tyOk (by kernel_rfl) ⟨h29.call, trivial⟩ trivial trivial) (by kernel_rfl) (by kernel_rfl) (Eq.mp e17 k17)

end Go.Proofs.YtcaekpbmmbfeiaaDoor
end
section
/- Contracts. -/
namespace Go.Proofs.YtcaekpbmmbfeiaaDoor
open Go Go.Vc Go.Pl Go.Proofs
def c_law12_NameOnce : Con := { args := [.dat BY, .dat .str], res := [.dat .bool], pre := fun x => ABulk [.dat BY, .dat .str] x ≤ 1048576, post := fun _ y => y.1 = true }

end Go.Proofs.YtcaekpbmmbfeiaaDoor
end
section
/- Walks. -/
namespace Go.Proofs.YtcaekpbmmbfeiaaDoor
open Go Go.Vc Go.Pl Go.Proofs
set_option linter.unusedVariables false
set_option linter.unusedSimpArgs false
set_option maxRecDepth 20000
def t8 : Prop :=
  ∀ (x : List Int × List Int × Unit), Kd.wf (Kd.sl (Kd.int IntKind.u8)) x.fst ∧ Kd.wf Kd.str x.snd.fst ∧ True → ABulk [AK.dat (Kd.sl (Kd.int IntKind.u8)), AK.dat Kd.str] x ≤ (1048576 : Nat) →
  lenB x.fst ≤ (100000000 : Nat) ∧ (∀ (y : List (Int × List Int) × Int × Unit), Kd.wf (Kd.sl (Kd.pair (Kd.int IntKind.i64) Kd.str)) y.fst ∧ Kd.wf (Kd.int IntKind.i64) y.snd.fst ∧ True → decQ
  x.fst y.fst y.snd.fst = true → (decide (y.snd.fst = (0 : Int)) = true → List.length y.fst ≤ (1000000000 : Nat) ∧ (∀ (y_1 : List Int × Int × Unit), Kd.wf (Kd.sl (Kd.int IntKind.u8)) y_1.fst
  ∧ Kd.wf (Kd.int IntKind.i64) y_1.snd.fst ∧ True → (y_1.fst, y_1.snd.fst) = EncN y.fst → (decide (y_1.snd.fst ≠ (0 : Int)) = false → True) ∧ (decide (y_1.snd.fst ≠ (0 : Int)) = false →
  (decide (y_1.snd.fst ≠ (0 : Int)) == false) = true ∧ True) ∧ (decide (y_1.snd.fst ≠ (0 : Int)) = false → True) ∧ (decide (y_1.snd.fst ≠ (0 : Int)) = false → (decide (y_1.snd.fst ≠ (0 :
  Int)) == false) = true ∧ True) ∧ (decide (y_1.snd.fst ≠ (0 : Int)) = false → (decide (y_1.snd.fst ≠ (0 : Int)) == false) = true ∧ (decide (y_1.snd.fst ≠ (0 : Int)) == false) = true ∧ True)
  ∧ (decide (y_1.snd.fst ≠ (0 : Int)) = false → (decide (y_1.snd.fst ≠ (0 : Int)) == false) = true) ∧ ((bif decide (y_1.snd.fst ≠ (0 : Int)) then true else decide (y_1.fst ≠ x.fst)) = false →
  True) ∧ ((bif decide (y_1.snd.fst ≠ (0 : Int)) then true else decide (y_1.fst ≠ x.fst)) = false → ((bif decide (y_1.snd.fst ≠ (0 : Int)) then true else decide (y_1.fst ≠ x.fst)) == false) =
  true ∧ True ∧ (∀ (y_2 : Bool × Unit), Kd.wf Kd.bool y_2.fst ∧ True → y_2.fst = mayN y.fst → ((!y_2.fst) = true → false = true) ∧ ((!y_2.fst) = false → List.length x.snd.fst ≤ (10000000 :
  Nat) ∧ (∀ (y : List (Int × List Int) × Int × Unit), Kd.wf (Kd.sl (Kd.pair (Kd.int IntKind.i64) Kd.str)) y.fst ∧ Kd.wf (Kd.int IntKind.i64) y.snd.fst ∧ True → parN x.snd.fst y.fst y.snd.fst
  = true → (decide (y.snd.fst = (0 : Int)) = true → List.length y.fst ≤ (1000000000 : Nat) ∧ (∀ (y_3 : List Int × Int × Unit), Kd.wf Kd.str y_3.fst ∧ Kd.wf (Kd.int IntKind.i64) y_3.snd.fst ∧
  True → (y_3.fst, y_3.snd.fst) = TextN y.fst → (decide (y_3.snd.fst ≠ (0 : Int)) = false → True) ∧ (decide (y_3.snd.fst ≠ (0 : Int)) = false → True) ∧ (decide (y_3.snd.fst ≠ (0 : Int)) =
  false → (decide (y_3.snd.fst ≠ (0 : Int)) == false) = true ∧ (decide (y_3.snd.fst ≠ (0 : Int)) == false) = true ∧ True) ∧ (decide (y_3.snd.fst ≠ (0 : Int)) = false → (decide (y_3.snd.fst ≠
  (0 : Int)) == false) = true) ∧ ((bif decide (y_3.snd.fst ≠ (0 : Int)) then true else decide (y_3.fst ≠ x.snd.fst)) = false → True) ∧ ((bif decide (y_3.snd.fst ≠ (0 : Int)) then true else
  decide (y_3.fst ≠ x.snd.fst)) = false → ((bif decide (y_3.snd.fst ≠ (0 : Int)) then true else decide (y_3.fst ≠ x.snd.fst)) == false) = true ∧ True ∧ (∀ (y_4 : Bool × Unit), Kd.wf Kd.bool
  y_4.fst ∧ True → y_4.fst = mayN y.fst → ((!y_4.fst) = true → false = true) ∧ ((!y_4.fst) = false → True ∧ (∀ (y : Bool × Unit), Kd.wf Kd.bool y.fst ∧ True → y.fst = true → y.fst = true) ∧
  True)) ∧ True) ∧ ((bif decide (y_3.snd.fst ≠ (0 : Int)) then true else decide (y_3.fst ≠ x.snd.fst)) = !false → false = true)) ∧ True) ∧ (decide (y.snd.fst = (0 : Int)) = false → True ∧ (∀
  (y : Bool × Unit), Kd.wf Kd.bool y.fst ∧ True → y.fst = true → y.fst = true) ∧ True)) ∧ True)) ∧ True) ∧ ((bif decide (y_1.snd.fst ≠ (0 : Int)) then true else decide (y_1.fst ≠ x.fst)) =
  !false → false = true)) ∧ True) ∧ (decide (y.snd.fst = (0 : Int)) = false → List.length x.snd.fst ≤ (10000000 : Nat) ∧ (∀ (y : List (Int × List Int) × Int × Unit), Kd.wf (Kd.sl (Kd.pair
  (Kd.int IntKind.i64) Kd.str)) y.fst ∧ Kd.wf (Kd.int IntKind.i64) y.snd.fst ∧ True → parN x.snd.fst y.fst y.snd.fst = true → (decide (y.snd.fst = (0 : Int)) = true → List.length y.fst ≤
  (1000000000 : Nat) ∧ (∀ (y_1 : List Int × Int × Unit), Kd.wf Kd.str y_1.fst ∧ Kd.wf (Kd.int IntKind.i64) y_1.snd.fst ∧ True → (y_1.fst, y_1.snd.fst) = TextN y.fst → (decide (y_1.snd.fst ≠
  (0 : Int)) = false → True) ∧ (decide (y_1.snd.fst ≠ (0 : Int)) = false → True) ∧ (decide (y_1.snd.fst ≠ (0 : Int)) = false → (decide (y_1.snd.fst ≠ (0 : Int)) == false) = true ∧ (decide
  (y_1.snd.fst ≠ (0 : Int)) == false) = true ∧ True) ∧ (decide (y_1.snd.fst ≠ (0 : Int)) = false → (decide (y_1.snd.fst ≠ (0 : Int)) == false) = true) ∧ ((bif decide (y_1.snd.fst ≠ (0 : Int))
  then true else decide (y_1.fst ≠ x.snd.fst)) = false → True) ∧ ((bif decide (y_1.snd.fst ≠ (0 : Int)) then true else decide (y_1.fst ≠ x.snd.fst)) = false → ((bif decide (y_1.snd.fst ≠ (0 :
  Int)) then true else decide (y_1.fst ≠ x.snd.fst)) == false) = true ∧ True ∧ (∀ (y_2 : Bool × Unit), Kd.wf Kd.bool y_2.fst ∧ True → y_2.fst = mayN y.fst → ((!y_2.fst) = true → false = true)
  ∧ ((!y_2.fst) = false → True ∧ (∀ (y : Bool × Unit), Kd.wf Kd.bool y.fst ∧ True → y.fst = true → y.fst = true) ∧ True)) ∧ True) ∧ ((bif decide (y_1.snd.fst ≠ (0 : Int)) then true else
  decide (y_1.fst ≠ x.snd.fst)) = !false → false = true)) ∧ True) ∧ (decide (y.snd.fst = (0 : Int)) = false → True ∧ (∀ (y : Bool × Unit), Kd.wf Kd.bool y.fst ∧ True → y.fst = true → y.fst =
  true) ∧ True)) ∧ True)) ∧ True
theorem e8 : t8 = Con.vc c_law12_NameOnce GL (mkEnv ty [(23, conSem c_name_Decode), (25, conSem c_name_Encode), (29, conSem c_name_May), (18, conSem c_name_Parse), (27, conSem c_name_Text), (17, conSem c_law12_there)] [] [] [0, 1, 4, 5, 6, 7, 8, 9, 10, 11, 18, 37, 44, 61]) {} Tryd.f8.ntmps Tryd.f8.results.toList (bodyOf Tryd.f8) := by kernel_rfl
theorem k8 : t8 := by
  unfold t8
  rintro ⟨b, s, _⟩ hx hp
  have hl : b.length ≤ 1048576 ∧ s.length ≤ 1048576 := by
    simp [ABulk, AK.bulk, Kd.bulk, sumOnes] at hp
    omega
  obtain ⟨hlb, hls⟩ := hl
  try dsimp +instances only [dft_int, dft_sl, dft_str]
  simp only [true_and, and_true, eq_self_iff_true, implies_true, reduceCtorEq, false_implies, true_implies, decide_eq_true_eq, decide_eq_false_iff_not, beq_self_eq_true, Bool.not_eq_true', ne_eq, Decidable.not_not, List.nil_append, List.length_singleton, List.length_cons, List.length_nil, Nat.zero_add, Nat.add_zero, Nat.mul_one, and_self, beq_iff_eq, Bool.not_true, Bool.not_false, Bool.not_eq_false', Bool.cond_false_right, Bool.and_eq_true, imp_self, Bool.not_eq_true, Bool.cond_true_left, Bool.or_eq_true]
  simp only [all_bool]
  have key : ∀ y : List AttrT × Int × Unit, parN s y.1 y.2.1 = true → y.2.1 = 0 → y.1.length ≤ 1000000000 ∧ ∀ z : List Int × Int × Unit, (Kd.str.wf z.1 ∧ (Kd.int IntKind.i64).wf z.2.1) → (z.1, z.2.1) = TextN y.1 → z.1 = s ∧ z.2.1 = 0 ∧ mayN y.1 = true := fun ⟨l, f, _⟩ h hf => by
    simp only at h hf ⊢
    subst hf
    obtain ⟨g1, g2⟩ := parN_ok h
    refine ⟨by have := parN_len h; omega, fun z _ hz => ?_⟩
    rw [TextN, if_pos g1, g2] at hz
    exact ⟨(Prod.mk.inj hz).1, (Prod.mk.inj hz).2, g1⟩
  refine ⟨by rw [lenB]; omega, ?_⟩
  rintro ⟨x, e, _⟩ _ h1
  simp only at h1 ⊢
  have hxl := decQ_len h1
  refine ⟨fun he => ⟨by omega, ?_⟩, fun _ => ⟨by omega, ?_⟩⟩
  · subst he
    obtain ⟨g1, g2⟩ := decQ_ok h1
    rintro ⟨c, f, _⟩ _ h2
    simp only at h2 ⊢
    rw [EncN, if_pos g1, g2] at h2
    obtain ⟨rfl, rfl⟩ := Prod.mk.inj h2
    refine ⟨fun hh => ⟨hh, fun hm => (by rw [g1] at hm; cases hm), fun _ => ⟨by omega, ?_⟩⟩, fun hh => by rcases hh with hh | hh <;> exact hh rfl⟩
    intro y _ hy hf
    obtain ⟨k0, k1⟩ := key y hy hf
    refine ⟨k0, fun z hwz hz => ?_⟩
    obtain ⟨q1, q2, q3⟩ := k1 z hwz hz
    exact ⟨fun hh => ⟨hh, fun hm => by rw [q3] at hm; cases hm⟩, fun hh => by rcases hh with hh | hh; exact hh q2; exact hh q1⟩
  · intro y _ hy hf
    obtain ⟨k0, k1⟩ := key y hy hf
    refine ⟨k0, fun z hwz hz => ?_⟩
    obtain ⟨q1, q2, q3⟩ := k1 z hwz hz
    exact ⟨fun hh => ⟨hh, fun hm => by rw [q3] at hm; cases hm⟩, fun hh => by rcases hh with hh | hh; exact hh q2; exact hh q1⟩
theorem h8 : c_law12_NameOnce.ok Tryd.prog GL 8 := con_ok (H := {}) (mkEnv_ok (gl := GL) (l := [(23, conSem c_name_Decode), (25, conSem c_name_Encode), (29, conSem c_name_May), (18, conSem c_name_Parse), (27, conSem c_name_Text), (17, conSem c_law12_there)]) (q := []) (d := []) _ tyOk (by kernel_rfl) ⟨h23.call, h25.call, h29.call, h18.call, h27.call, h17.call, trivial⟩ trivial trivial) (by kernel_rfl) (by kernel_rfl) (Eq.mp e8 k8)

end Go.Proofs.YtcaekpbmmbfeiaaDoor
end
section
/- Contracts. -/
namespace Go.Proofs.YtcaekpbmmbfeiaaDoor
open Go Go.Vc Go.Pl Go.Proofs
set_option maxRecDepth 100000 in
theorem glOk {w : World} (hL : laidMetH Tryd.prog [("unicode/utf8.acceptRanges", Rows.laid_unicode_utf8_acceptRanges), ("unicode/utf8.first", Rows.laid_unicode_utf8_first)] w) (hS : w.ShapedOpen Tryd.prog) : GlOk GL w (fun _ => False) := by
  have hL : laidMet Tryd.prog [("unicode/utf8.acceptRanges", Rows.laid_unicode_utf8_acceptRanges), ("unicode/utf8.first", Rows.laid_unicode_utf8_first)] w := hL
  have h0 := Lib.laidMet.reads hL (n := "unicode/utf8.first") (d := Rows.laid_unicode_utf8_first) (by simp)
  have h1 := Lib.laidMet.reads hL (n := "unicode/utf8.acceptRanges") (d := Rows.laid_unicode_utf8_acceptRanges) (by simp)
  obtain ⟨m, hm⟩ := Tryd.laysM219.s1_3 w hS
  have hm : w.cell? ⟨0, 0, none⟩ = some (.int .i64 m) := hm
  obtain ⟨fs, hs, hf, ho⟩ := pairB_eq (P := Tryd.prog) (e := 156) (k := .u8) (by kernel_rfl)
  have k0 := gl_ints (P := Tryd.prog) (w := w) (g := 1) (t := 154) (e := 5) (n := 256) (k := .u8) (zs := Lib.firstTab) (by kernel_rfl) (by kernel_rfl) (by kernel_rfl) (by kernel_rfl) (by kernel_rfl) (by kernel_rfl) (by kernel_rfl) (of_decide_eq_true (by kernel_rfl)) (by kernel_rfl) h0
  have k1 := gl_pairs (P := Tryd.prog) (w := w) (g := 2) (t := 157) (e := 156) (n := 16) (k := .u8) (zs := accTab) (by kernel_rfl) (by kernel_rfl) (by kernel_rfl) hs hf ho (by kernel_rfl) (by kernel_rfl) (by kernel_rfl) (of_decide_eq_true (by kernel_rfl)) (by kernel_rfl) (by kernel_rfl) h1
  intro g v hg
  rcases gl_cons hg with ⟨rfl, rfl⟩ | hg
  · exact k0
  rcases gl_cons hg with ⟨rfl, rfl⟩ | hg
  · exact k1
  obtain ⟨rfl, rfl⟩ := gl_one hg
  exact ⟨cell_lt hm, id, m, hm⟩

end Go.Proofs.YtcaekpbmmbfeiaaDoor
end
section
/- Walks. -/
namespace Go.Proofs.YtcaekpbmmbfeiaaDoor
open Go Go.Vc Go.Pl Go.Proofs
end Go.Proofs.YtcaekpbmmbfeiaaDoor
end
