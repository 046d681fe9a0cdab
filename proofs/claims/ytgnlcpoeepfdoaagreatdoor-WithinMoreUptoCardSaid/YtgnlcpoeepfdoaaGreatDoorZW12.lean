/- Texts of a verified walk, led together: Law14fA, Law14fW, Glok12A, Glok12W. -/
import Derived.Test.YtgnlcpoeepfdoaaGreatDoorZW11
import Derived.Test.YtgnlcpoeepfdoaaGreatDoorZV17
import Derived.Test.YtgnlcpoeepfdoaaGreatDoorRows
set_option linter.unusedVariables false
set_option linter.unusedSimpArgs false
section
namespace Go.Proofs.YtgnlcpoeepfdoaaGreatDoor
open Go Go.Vc Go.Pl Go.Proofs
def c_law14_WithinMore : Con := { args := [.dat (.sl GT), .dat (.sl GT), .dat GT, .dat GT], res := [.dat .bool], pre := fun x => ABulk [.dat (.sl GT), .dat (.sl GT), .dat GT, .dat GT] x ≤ 1048576, post := fun _ y => y.1 = true }
end Go.Proofs.YtgnlcpoeepfdoaaGreatDoor
end
section
namespace Go.Proofs.YtgnlcpoeepfdoaaGreatDoor
open Go Go.Vc Go.Pl Go.Proofs
set_option linter.unusedVariables false
set_option linter.unusedSimpArgs false
set_option maxHeartbeats 4000000
theorem bulk_len (l : List (Int × List Int)) : l.length ≤ Kd.bulk (.sl GT) l := by
  show l.length ≤ (l.map (Kd.bulk GT)).sum + 1
  induction l with
  | nil => simp
  | cons a l ih =>
    rw [List.map_cons, List.sum_cons, List.length_cons]
    have : Kd.bulk GT a = 1 + (a.2.length + 1) := rfl
    omega
theorem lenT_bulk {l : List (Int × List Int)} (h : Kd.bulk (.sl GT) l ≤ 1048576) : lenT l := by
  refine ⟨by have := bulk_len l; omega, fun t ht => ?_⟩
  have h' : (l.map (Kd.bulk GT)).sum + 1 ≤ 1048576 := h
  have h2 : Kd.bulk GT t ≤ (l.map (Kd.bulk GT)).sum := by
    clear h h'
    induction l with
    | nil => cases ht
    | cons a l ih =>
      rw [List.map_cons, List.sum_cons]
      rcases List.mem_cons.1 ht with rfl | ht
      . omega
      . have := ih ht; omega
  have : Kd.bulk GT t = 1 + (t.2.length + 1) := rfl
  omega
theorem lenTB_snoc {l : List (Int × List Int)} {t : Int × List Int} (h : lenT l) (hl : l.length ≤ 1048576) (ht : t.2.length ≤ 100000000) : lenTB (l ++ [t]) = true := by
  rw [lenTB_iff]
  refine ⟨by simp; omega, fun u hu => ?_⟩
  rcases List.mem_append.1 hu with h1 | h1
  . exact h.2 u h1
  . rw [List.mem_singleton.1 h1]; exact ht
theorem more_ex {p x : List (Int × List Int)} {t g : Int × List Int} (h : (checkT p (x ++ [t]) g).2 = 0) : (checkT p x g).2 = 0 ∧ someT t g = false := by
  have h1 := (check_zero p (x ++ [t]) g).1 h
  rw [okB_snoc, any_snoc] at h1
  obtain ⟨a, b, c, d, e⟩ := h1
  rw [Bool.and_eq_true] at c
  rw [Bool.or_eq_false_iff] at e
  exact ⟨(check_zero p x g).2 ⟨a, b, c.1, d, e.1⟩, e.2⟩
theorem more_in {p x : List (Int × List Int)} {t g : Int × List Int} (hm : mayT t.1 t.2 = true) (ha : (p.any fun u => decide (u.1 = t.1)) = true) (h : (checkT p x g).2 = 0) : (checkT (p ++ [t]) x g).2 = 0 := by
  obtain ⟨a, b, c, d, e⟩ := (check_zero p x g).1 h
  refine (check_zero (p ++ [t]) x g).2 ⟨a, by rw [okB_snoc, b, hm]; rfl, c, fun hh => ?_, e⟩
  rw [any_snoc] at hh ⊢
  rw [Bool.or_eq_true] at hh ⊢
  refine Or.inl (d ?_)
  rcases hh with hh | hh
  . exact hh
  . have : t.1 = g.1 := by simpa using hh
    rw [← this]; exact ha
theorem more_bad {p x : List (Int × List Int)} {t g : Int × List Int} (hm : mayT t.1 t.2 = false) : ¬ (checkT (p ++ [t]) x g).2 = 0 := fun h => by
  have h1 := (check_zero (p ++ [t]) x g).1 h
  rw [okB_snoc, hm] at h1
  simp at h1
theorem more_one {t g : Int × List Int} (hm : mayT t.1 t.2 = true) : ((checkT [t] [] g).2 = 0) ↔ mayG g.1 g.2 = true ∧ (t.1 = g.1 → allT t g = true) := by
  rw [check_zero]
  simp [okB, hm]
abbrev q266 := (140737488355328 : Nat)
abbrev q265 := (9223372036854775807 : Nat)
abbrev q313 := (140737488355328 : Nat)
abbrev q312 := (9223372036854775807 : Nat)
abbrev q295 (p0 : List (Int × List Int) × List (Int × List Int) × (Int × List Int) × (Int × List Int) × Unit) (p1 : q10) (p2 : q1) (p3 : q1) (p4 : q4) (p5 : q14) := ((0 : Nat) < (2 : Nat)
  /\ (List.length ([] ++ p0.1) + List.length [(p0.2.2.1.1, p0.2.2.1.2)]) * (24 : Nat) <= q313 /\ List.length ([] ++ p0.1) + List.length [(p0.2.2.1.1, p0.2.2.1.2)] <= q312 /\ ((lenTB ([] ++
  p0.1 ++ [(p0.2.2.1.1, p0.2.2.1.2)]) = true /\ lenTB p0.2.1 = true /\ List.length p0.2.2.2.1.2 <= (100000000 : Nat)) /\ (∀ (y_1 : q7), (wiZ y_1.1 /\ wiZ y_1.2.1 /\ True) -> (y_1.1, y_1.2.1)
  = checkT ([] ++ p0.1 ++ [(p0.2.2.1.1, p0.2.2.1.2)]) p0.2.1 (p0.2.2.2.1.1, p0.2.2.2.1.2) -> ((Value.bool false = Value.bool false /\ p1.1 = p1.1 /\ p1.2.1 = p1.2.1 /\ p2.1 = p2.1 /\ p3.1 =
  p3.1 /\ Value.bool false = Value.bool false /\ p4.1 = p4.1 /\ p0.1 = p0.1 /\ p0.2.1 = p0.2.1 /\ p0.2.2.1 = p0.2.2.1 /\ p0.2.2.2.1 = p0.2.2.2.1 /\ p0.2.2.1.1 = p0.2.2.1.1 /\ p0.2.2.1.2 =
  p0.2.2.1.2 /\ p0.2.2.2.1.1 = p0.2.2.2.1.1 /\ p0.2.2.2.1.2 = p0.2.2.2.1.2 /\ p5 (y_1.2.1, ()) ((), (), ())) /\ True) /\ ((Value.bool false = Value.bool false /\ p1.1 = p1.1 /\ p1.2.1 =
  p1.2.1 /\ p2.1 = p2.1 /\ p3.1 = p3.1 /\ Value.bool false = Value.bool false /\ p4.1 = p4.1 /\ p0.1 = p0.1 /\ p0.2.1 = p0.2.1 /\ p0.2.2.1 = p0.2.2.1 /\ p0.2.2.2.1 = p0.2.2.2.1 /\ p0.2.2.1.1
  = p0.2.2.1.1 /\ p0.2.2.1.2 = p0.2.2.1.2 /\ p0.2.2.2.1.1 = p0.2.2.2.1.1 /\ p0.2.2.2.1.2 = p0.2.2.2.1.2 /\ p5 (y_1.2.1, ()) ((), (), ())) /\ True) /\ True) /\ True) /\ True)
abbrev q225 (p0 : List (Int × List Int) × List (Int × List Int) × (Int × List Int) × (Int × List Int) × Unit) (p1 : q10) (p2 : q1) (p3 : q1) (p4 : q4) (p5 : q14) := ((q252 < q267 /\ (q252 +
  List.length p0.1) * (24 : Nat) <= q266 /\ q252 + List.length p0.1 <= q265 /\ ((q295 p0 p1 p2 p3 p4 p5) /\ True) /\ True) /\ ((q252 < q267 /\ (q252 + List.length p0.1) * (24 : Nat) <= q266
  /\ q252 + List.length p0.1 <= q265 /\ (q295 p0 p1 p2 p3 p4 p5) /\ True) /\ True) /\ True)
abbrev q320 (p0 : q1) (p1 : List (Int × List Int) × List (Int × List Int) × (Int × List Int) × (Int × List Int) × Unit) (p2 : q14) (p3 : q7) := ((p0.1 = p0.1 /\ Value.bool false =
  Value.bool false /\ Value.bool false = Value.bool false /\ p1.1 = p1.1 /\ p1.2.1 = p1.2.1 /\ p1.2.2.1 = p1.2.2.1 /\ p1.2.2.2.1 = p1.2.2.2.1 /\ p1.2.2.1.1 = p1.2.2.1.1 /\ p1.2.2.1.2 =
  p1.2.2.1.2 /\ p1.2.2.2.1.1 = p1.2.2.2.1.1 /\ p1.2.2.2.1.2 = p1.2.2.2.1.2 /\ p2 (p3.2.1, ()) ((), (), ())) /\ True)
abbrev q296 (p0 : List (Int × List Int) × List (Int × List Int) × (Int × List Int) × (Int × List Int) × Unit) (p1 : q1) (p2 : q14) := ((0 : Nat) < (2 : Nat) /\ (List.length ([] ++ p0.2.1) +
  List.length [(p0.2.2.1.1, p0.2.2.1.2)]) * (24 : Nat) <= q313 /\ List.length ([] ++ p0.2.1) + List.length [(p0.2.2.1.1, p0.2.2.1.2)] <= q312 /\ ((lenTB p0.1 = true /\ lenTB ([] ++ p0.2.1 ++
  [(p0.2.2.1.1, p0.2.2.1.2)]) = true /\ List.length p0.2.2.2.1.2 <= (100000000 : Nat)) /\ (∀ (y : q7), (wiZ y.1 /\ wiZ y.2.1 /\ True) -> (y.1, y.2.1) = checkT p0.1 ([] ++ p0.2.1 ++
  [(p0.2.2.1.1, p0.2.2.1.2)]) (p0.2.2.2.1.1, p0.2.2.2.1.2) -> (q320 p1 p0 p2 y) /\ (q320 p1 p0 p2 y) /\ True) /\ True) /\ True)
abbrev q226 (p0 : List (Int × List Int) × List (Int × List Int) × (Int × List Int) × (Int × List Int) × Unit) (p1 : q1) (p2 : q14) := ((q252 < q267 /\ (q252 + List.length p0.2.1) * (24 :
  Nat) <= q266 /\ q252 + List.length p0.2.1 <= q265 /\ ((q296 p0 p1 p2) /\ True) /\ True) /\ ((q252 < q267 /\ (q252 + List.length p0.2.1) * (24 : Nat) <= q266 /\ q252 + List.length p0.2.1 <=
  q265 /\ (q296 p0 p1 p2) /\ True) /\ True) /\ True)
abbrev q315 (p0 : q7) := (((decide (p0.2.1 ≠ (0 : Int)) = true -> True /\ (∀ (y : q4), (wbZ y.1 /\ True) -> y.1 = true -> y.1 = true) /\ True) /\ (decide (p0.2.1 ≠ (0 : Int)) = !true ->
  false = true)) /\ True)
abbrev q297 (p0 : List (Int × List Int) × List (Int × List Int) × (Int × List Int) × (Int × List Int) × Unit) := ((0 : Nat) < (2 : Nat) /\ (List.length ([] ++ p0.1) + List.length
  [(p0.2.2.1.1, p0.2.2.1.2)]) * (24 : Nat) <= q313 /\ List.length ([] ++ p0.1) + List.length [(p0.2.2.1.1, p0.2.2.1.2)] <= q312 /\ ((lenTB ([] ++ p0.1 ++ [(p0.2.2.1.1, p0.2.2.1.2)]) = true /\
  lenTB p0.2.1 = true /\ List.length p0.2.2.2.1.2 <= (100000000 : Nat)) /\ (∀ (y : q7), (wiZ y.1 /\ wiZ y.2.1 /\ True) -> (y.1, y.2.1) = checkT ([] ++ p0.1 ++ [(p0.2.2.1.1, p0.2.2.1.2)])
  p0.2.1 (p0.2.2.2.1.1, p0.2.2.2.1.2) -> (q315 y) /\ (q315 y) /\ True) /\ True) /\ True)
abbrev q227 (p0 : List (Int × List Int) × List (Int × List Int) × (Int × List Int) × (Int × List Int) × Unit) := ((q252 < q267 /\ (q252 + List.length p0.1) * (24 : Nat) <= q266 /\ q252 +
  List.length p0.1 <= q265 /\ ((q297 p0) /\ True) /\ True) /\ ((q252 < q267 /\ (q252 + List.length p0.1) * (24 : Nat) <= q266 /\ q252 + List.length p0.1 <= q265 /\ (q297 p0) /\ True) /\ True)
  /\ True)
abbrev q264 (p0 : q1) (p1 : q1) := (bif decide (p0.1 = q308) then decide (p1.1 ≠ q308) else false)
abbrev q228 (p0 : q1) (p1 : q1) := (((q264 p0 p1) == false && (q264 p0 p1) == false) = true -> decide (p0.1 = q236) = true -> True)
abbrev q229 (p0 : q1) (p1 : q1) := ((q264 p0 p1) == false && (q264 p0 p1) == false && decide (p0.1 = q236) == true)
abbrev q230 (p0 : q1) (p1 : q1) := ((q264 p0 p1) = false -> ((q264 p0 p1) == false) = true)
abbrev q231 (p0 : q1) (p1 : q1) := ((q264 p0 p1) == false && (q264 p0 p1) == false)
abbrev q232 (p0 : q1) (p1 : q1) := ((q264 p0 p1) = false -> True)
abbrev q233 (p0 : q1) (p1 : q1) := (bif decide (p0.1 = q236) then decide (q238 p1) else false)
abbrev q234 (p0 : q1) (p1 : q10) := (bif decide (p0.1 = q236) then p1.2.1 else false)
abbrev q235 (p0 : q1) := (p0.1 = q236)
abbrev q261 (p0 : List q93 × List q93 × q93 × q93 × Unit) (p1 : q10) (p2 : q1) (p3 : q1) (p4 : q4) (p5 : q14) := ((0 : Nat) < (2 : Nat) /\ (List.length ([] ++ p0.1) + List.length
  [(p0.2.2.1.1, p0.2.2.1.2)]) * (24 : Nat) <= q313 /\ List.length ([] ++ p0.1) + List.length [(p0.2.2.1.1, p0.2.2.1.2)] <= q312 /\ ((lenTB ([] ++ p0.1 ++ [(p0.2.2.1.1, p0.2.2.1.2)]) = true /\
  lenTB p0.2.1 = true /\ List.length p0.2.2.2.1.2 <= (100000000 : Nat)) /\ (∀ (y_1 : q7), (wiZ y_1.1 /\ wiZ y_1.2.1 /\ True) -> (y_1.1, y_1.2.1) = checkT ([] ++ p0.1 ++ [(p0.2.2.1.1,
  p0.2.2.1.2)]) p0.2.1 (p0.2.2.2.1.1, p0.2.2.2.1.2) -> ((Value.bool false = Value.bool false /\ p1.1 = p1.1 /\ p1.2.1 = p1.2.1 /\ p2.1 = p2.1 /\ p3.1 = p3.1 /\ Value.bool false = Value.bool
  false /\ p4.1 = p4.1 /\ p0.1 = p0.1 /\ p0.2.1 = p0.2.1 /\ p0.2.2.1 = p0.2.2.1 /\ p0.2.2.2.1 = p0.2.2.2.1 /\ p0.2.2.1.1 = p0.2.2.1.1 /\ p0.2.2.1.2 = p0.2.2.1.2 /\ p0.2.2.2.1.1 = p0.2.2.2.1.1
  /\ p0.2.2.2.1.2 = p0.2.2.2.1.2 /\ p5 (y_1.2.1, ()) ((), (), ())) /\ True) /\ ((Value.bool false = Value.bool false /\ p1.1 = p1.1 /\ p1.2.1 = p1.2.1 /\ p2.1 = p2.1 /\ p3.1 = p3.1 /\
  Value.bool false = Value.bool false /\ p4.1 = p4.1 /\ p0.1 = p0.1 /\ p0.2.1 = p0.2.1 /\ p0.2.2.1 = p0.2.2.1 /\ p0.2.2.2.1 = p0.2.2.2.1 /\ p0.2.2.1.1 = p0.2.2.1.1 /\ p0.2.2.1.2 = p0.2.2.1.2
  /\ p0.2.2.2.1.1 = p0.2.2.2.1.1 /\ p0.2.2.2.1.2 = p0.2.2.2.1.2 /\ p5 (y_1.2.1, ()) ((), (), ())) /\ True) /\ True) /\ True) /\ True)
abbrev q314 (p0 : q1) (p1 : List q93 × List q93 × q93 × q93 × Unit) (p2 : q14) (p3 : q7) := ((p0.1 = p0.1 /\ Value.bool false = Value.bool false /\ Value.bool false = Value.bool false /\
  p1.1 = p1.1 /\ p1.2.1 = p1.2.1 /\ p1.2.2.1 = p1.2.2.1 /\ p1.2.2.2.1 = p1.2.2.2.1 /\ p1.2.2.1.1 = p1.2.2.1.1 /\ p1.2.2.1.2 = p1.2.2.1.2 /\ p1.2.2.2.1.1 = p1.2.2.2.1.1 /\ p1.2.2.2.1.2 =
  p1.2.2.2.1.2 /\ p2 (p3.2.1, ()) ((), (), ())) /\ True)
abbrev q262 (p0 : List q93 × List q93 × q93 × q93 × Unit) (p1 : q1) (p2 : q14) := ((0 : Nat) < (2 : Nat) /\ (List.length ([] ++ p0.2.1) + List.length [(p0.2.2.1.1, p0.2.2.1.2)]) * (24 :
  Nat) <= q313 /\ List.length ([] ++ p0.2.1) + List.length [(p0.2.2.1.1, p0.2.2.1.2)] <= q312 /\ ((lenTB p0.1 = true /\ lenTB ([] ++ p0.2.1 ++ [(p0.2.2.1.1, p0.2.2.1.2)]) = true /\
  List.length p0.2.2.2.1.2 <= (100000000 : Nat)) /\ (∀ (y : q7), (wiZ y.1 /\ wiZ y.2.1 /\ True) -> (y.1, y.2.1) = checkT p0.1 ([] ++ p0.2.1 ++ [(p0.2.2.1.1, p0.2.2.1.2)]) (p0.2.2.2.1.1,
  p0.2.2.2.1.2) -> (q314 p1 p0 p2 y) /\ (q314 p1 p0 p2 y) /\ True) /\ True) /\ True)
abbrev q263 (p0 : List q93 × List q93 × q93 × q93 × Unit) := ((0 : Nat) < (2 : Nat) /\ (List.length ([] ++ p0.1) + List.length [(p0.2.2.1.1, p0.2.2.1.2)]) * (24 : Nat) <= q313 /\
  List.length ([] ++ p0.1) + List.length [(p0.2.2.1.1, p0.2.2.1.2)] <= q312 /\ ((lenTB ([] ++ p0.1 ++ [(p0.2.2.1.1, p0.2.2.1.2)]) = true /\ lenTB p0.2.1 = true /\ List.length p0.2.2.2.1.2 <=
  (100000000 : Nat)) /\ (∀ (y : q7), (wiZ y.1 /\ wiZ y.2.1 /\ True) -> (y.1, y.2.1) = checkT ([] ++ p0.1 ++ [(p0.2.2.1.1, p0.2.2.1.2)]) p0.2.1 (p0.2.2.2.1.1, p0.2.2.2.1.2) -> (q315 y) /\
  (q315 y) /\ True) /\ True) /\ True)
def t6 : Prop :=
  ∀ (x : List q93 × List q93 × q93 × q93 × Unit), (Kd.wf q91 x.1 /\ Kd.wf q91 x.2.1 /\ Kd.wf q106 x.2.2.1 /\ Kd.wf q106 x.2.2.2.1 /\ True) -> ABulk [AK.dat q91, AK.dat q91, AK.dat q106,
  AK.dat q106] x <= (1048576 : Nat) -> List.length [SV.dat q107 x.2.2.1.1, SV.dat Kd.str x.2.2.1.2] <= q65 /\ List.length [SV.dat q107 x.2.2.2.1.1, SV.dat Kd.str x.2.2.2.1.2] <= q65 /\
  List.length x.2.2.1.2 <= q87 /\ (∀ (y : q4), (q44 y) -> y.1 = mayT x.2.2.1.1 x.2.2.1.2 -> ((!y.1) = true -> True /\ ((q67 < q68 /\ (q252 + List.length x.1) * (24 : Nat) <= q86 /\ q67 +
  List.length x.1 <= q85 /\ (((q263 x) /\ True) /\ True) /\ True) /\ (q227 x) /\ True) /\ ((q227 x) /\ (((q252 < q267 /\ (q252 + List.length x.1) * (24 : Nat) <= q266 /\ q252 + List.length
  x.1 <= q265 /\ (q263 x) /\ True) /\ True) /\ True) /\ True) /\ True) /\ ((!y.1) = false -> ∃ (J : q14), ((lenTB x.1 = true /\ lenTB x.2.1 = true /\ List.length x.2.2.2.1.2 <= q87) /\ (∀ (y
  : q7), (q126 y) -> (y.1, y.2.1) = checkT x.1 x.2.1 (x.2.2.2.1.1, x.2.2.2.1.2) -> Value.bool false = Value.bool false /\ Value.bool false = Value.bool false /\ x.1 = x.1 /\ x.2.1 = x.2.1 /\
  x.2.2.1 = x.2.2.1 /\ x.2.2.2.1 = x.2.2.2.1 /\ x.2.2.1.1 = x.2.2.1.1 /\ x.2.2.1.2 = x.2.2.1.2 /\ x.2.2.2.1.1 = x.2.2.2.1.1 /\ x.2.2.2.1.2 = x.2.2.2.1.2 /\ J (y.2.1, ()) ((), (), ())) /\
  True) /\ ∀ (u : q1) (z : q15), (q30 u) -> True /\ True /\ True -> J u z -> ∃ (J : q14), (True /\ ((q67 < q68 /\ (q67 + List.length x.2.1) * (24 : Nat) <= q86 /\ q67 + List.length x.2.1 <=
  q85 /\ (((q262 x u J) /\ True) /\ True) /\ True) /\ (q226 x u J) /\ True) /\ ((q226 x u J) /\ (((q252 < q267 /\ (q252 + List.length x.2.1) * (24 : Nat) <= q266 /\ q252 + List.length x.2.1
  <= q265 /\ (q262 x u J) /\ True) /\ True) /\ True) /\ True) /\ True) /\ ∀ (u_1 : q1) (z : q15), (q30 u_1) -> True /\ True /\ True -> J u_1 z -> ∃ (J : Bool × Unit -> Unit × Unit × Unit ->
  Prop), ((decide (q235 u_1) = true -> True) /\ (decide (q235 u_1) = true -> (decide (q235 u_1) == true) = true /\ True) /\ (decide (q235 u_1) = true -> (decide (q235 u_1) == true) = true) /\
  (q232 u_1 u) /\ ((q233 u_1 u) = false -> ((q264 u_1 u) == false) = true /\ True) /\ (q232 u_1 u) /\ (q228 u_1 u) /\ (q228 u_1 u) /\ ((q231 u_1 u) = true -> decide (q235 u_1) = true -> (q229
  u_1 u) = true /\ (q229 u_1 u) = true /\ (List.length x.2.2.1.2 <= q87 /\ List.length x.2.2.2.1.2 <= q87) /\ (∀ (y : q4), (q44 y) -> y.1 = someT (x.2.2.1.1, x.2.2.1.2) (x.2.2.2.1.1,
  x.2.2.2.1.2) -> (q232 u_1 u) /\ (q230 u_1 u) /\ ((bif bif decide (q235 u_1) then decide (q238 u) else false then true else y.1) = true -> false = true) /\ ((bif bif decide (q235 u_1) then
  decide (q238 u) else false then true else y.1) = false -> u_1.1 = u_1.1 /\ u.1 = u.1 /\ Value.bool false = Value.bool false /\ x.1 = x.1 /\ x.2.1 = x.2.1 /\ x.2.2.1 = x.2.2.1 /\ x.2.2.2.1 =
  x.2.2.2.1 /\ x.2.2.1.1 = x.2.2.1.1 /\ x.2.2.1.2 = x.2.2.1.2 /\ x.2.2.2.1.1 = x.2.2.2.1.1 /\ x.2.2.2.1.2 = x.2.2.2.1.2 /\ J (false, ()) ((), (), ()))) /\ True) /\ ((q231 u_1 u) = true ->
  decide (q235 u_1) = !true -> (q232 u_1 u) /\ (q230 u_1 u) /\ ((bif bif decide (q235 u_1) then decide (q238 u) else false then true else false) = true -> false = true) /\ ((bif bif decide
  (q235 u_1) then decide (q238 u) else false then true else false) = false -> u_1.1 = u_1.1 /\ u.1 = u.1 /\ Value.bool false = Value.bool false /\ x.1 = x.1 /\ x.2.1 = x.2.1 /\ x.2.2.1 =
  x.2.2.1 /\ x.2.2.2.1 = x.2.2.2.1 /\ x.2.2.1.1 = x.2.2.1.1 /\ x.2.2.1.2 = x.2.2.1.2 /\ x.2.2.2.1.1 = x.2.2.2.1.1 /\ x.2.2.2.1.2 = x.2.2.2.1.2 /\ J (false, ()) ((), (), ()))) /\ ((q231 u_1 u)
  = false -> ((q233 u_1 u) = false -> False) /\ ((q233 u_1 u) = !false -> false = true))) /\ ∀ (u_2 : q4) (z : q15), (q44 u_2) -> True /\ True /\ True -> J u_2 z -> ∃ (I : Int × Bool × Unit
  -> Unit × Unit × Unit -> Prop), ∃ (μ : Int × Bool × Unit -> Unit × Unit × Unit -> Nat), (u_1.1 = u_1.1 /\ u.1 = u.1 /\ Value.bool false = Value.bool false /\ u_2.1 = u_2.1 /\ x.1 = x.1 /\
  x.2.1 = x.2.1 /\ x.2.2.1 = x.2.2.1 /\ x.2.2.2.1 = x.2.2.2.1 /\ x.2.2.1.1 = x.2.2.1.1 /\ x.2.2.1.2 = x.2.2.1.2 /\ x.2.2.2.1.1 = x.2.2.2.1.1 /\ x.2.2.2.1.2 = x.2.2.2.1.2 /\ I (q33, false, ())
  ((), (), ())) /\ ∀ (y : q10) (z : q15), (q79 y) -> True /\ True /\ True -> I y z -> (decide (y.1 < (lnZ x.1)) = true -> (y.2.1 = false -> True) /\ (y.2.1 = false -> True) /\ (y.2.1 = false
  -> (y.2.1 == false) = true /\ (y.2.1 == false) = true /\ (q33 <= y.1 /\ y.1 < (lnZ x.1)) /\ True) /\ (y.2.1 = false -> (y.2.1 == false) = true /\ True) /\ (y.2.1 = false -> (y.2.1 == false)
  = true /\ True) /\ (y.2.1 = false -> True) /\ (y.2.1 = false -> (y.2.1 == false) = true /\ True) /\ (y.2.1 = false -> (y.2.1 == false) = true /\ (y.2.1 == false) = true /\ True) /\ (y.2.1 =
  false -> (y.2.1 == false) = true) /\ u_1.1 = u_1.1 /\ u.1 = u.1 /\ Value.bool false = Value.bool false /\ u_2.1 = u_2.1 /\ x.1 = x.1 /\ x.2.1 = x.2.1 /\ x.2.2.1 = x.2.2.1 /\ x.2.2.2.1 =
  x.2.2.2.1 /\ x.2.2.1.1 = x.2.2.1.1 /\ x.2.2.1.2 = x.2.2.1.2 /\ x.2.2.2.1.1 = x.2.2.2.1.1 /\ x.2.2.2.1.2 = x.2.2.2.1.2 /\ I (wrZ (y.1 + q240), bif y.2.1 then true else decide ((List.getD x.1
  (Int.toNat y.1) q241).1 = x.2.2.1.1), ()) ((), (), ()) /\ μ (wrZ (y.1 + q240), bif y.2.1 then true else decide ((List.getD x.1 (Int.toNat y.1) q241).1 = x.2.2.1.1), ()) ((), (), ()) < μ y
  z) /\ (decide (y.1 < (lnZ x.1)) = false -> ∃ (J : q14), (True /\ ((q67 < q68 /\ (q252 + List.length x.1) * (24 : Nat) <= q86 /\ q67 + List.length x.1 <= q85 /\ (((q261 x y u_1 u u_2 J) /\
  True) /\ True) /\ True) /\ (q225 x y u_1 u u_2 J) /\ True) /\ ((q225 x y u_1 u u_2 J) /\ (((q252 < q267 /\ (q252 + List.length x.1) * (24 : Nat) <= q266 /\ q252 + List.length x.1 <= q265 /\
  (q261 x y u_1 u u_2 J) /\ True) /\ True) /\ True) /\ True) /\ True) /\ ∀ (u_3 : q1) (z : q15), (q30 u_3) -> True /\ True /\ True -> J u_3 z -> ∃ (J : Bool × Unit -> Unit × Unit × Unit ->
  Prop), ((decide (q235 u) = true -> True) /\ (decide (q235 u) = true -> (decide (q235 u) == true) = true) /\ ((q234 u y) = true -> True) /\ ((q234 u y) = true -> ((q234 u y) == true) = true
  /\ True) /\ ((q234 u y) = true -> ((q234 u y) == true) = true) /\ ((bif bif decide (q235 u) then y.2.1 else false then decide (q238 u_3) else false) = true -> false = true) /\ ((bif bif
  decide (q235 u) then y.2.1 else false then decide (q238 u_3) else false) = false -> u_3.1 = u_3.1 /\ Value.bool false = Value.bool false /\ y.1 = y.1 /\ y.2.1 = y.2.1 /\ u_1.1 = u_1.1 /\
  u.1 = u.1 /\ Value.bool false = Value.bool false /\ x.1 = x.1 /\ x.2.1 = x.2.1 /\ x.2.2.1 = x.2.2.1 /\ x.2.2.2.1 = x.2.2.2.1 /\ x.2.2.1.1 = x.2.2.1.1 /\ x.2.2.1.2 = x.2.2.1.2 /\ x.2.2.2.1.1
  = x.2.2.2.1.1 /\ x.2.2.2.1.2 = x.2.2.2.1.2 /\ J (u_2.1, ()) ((), (), ()))) /\ ∀ (u : q4) (z : q15), (q44 u) -> True /\ True /\ True -> J u z -> ∃ (J : q14), ((lenTB [(x.2.2.1.1, x.2.2.1.2)]
  = true /\ lenTB [] = true /\ List.length x.2.2.2.1.2 <= q87) /\ (∀ (y_1 : q7), (q126 y_1) -> (y_1.1, y_1.2.1) = checkT [(x.2.2.1.1, x.2.2.1.2)] [] (x.2.2.2.1.1, x.2.2.2.1.2) -> u_3.1 =
  u_3.1 /\ Value.bool false = Value.bool false /\ y.1 = y.1 /\ y.2.1 = y.2.1 /\ u_1.1 = u_1.1 /\ Value.bool false = Value.bool false /\ u.1 = u.1 /\ x.1 = x.1 /\ x.2.1 = x.2.1 /\ x.2.2.1 =
  x.2.2.1 /\ x.2.2.2.1 = x.2.2.2.1 /\ x.2.2.1.1 = x.2.2.1.1 /\ x.2.2.1.2 = x.2.2.1.2 /\ x.2.2.2.1.1 = x.2.2.2.1.1 /\ x.2.2.2.1.2 = x.2.2.2.1.2 /\ J (y_1.2.1, ()) ((), (), ())) /\ True) /\ ∀
  (u : q1) (z : q15), (q30 u) -> True /\ True /\ True -> J u z -> List.length x.2.2.2.1.2 <= q87 /\ (∀ (y : q4), (q44 y) -> y.1 = mayG x.2.2.2.1.1 x.2.2.2.1.2 -> (y.1 = true -> True) /\ (y.1
  = true -> (y.1 == true) = true /\ True) /\ (y.1 = true -> True) /\ (y.1 = true -> (y.1 == true) = true /\ True) /\ (y.1 = true -> (y.1 == true) = true /\ (y.1 == true) = true /\ True) /\
  (y.1 = true -> True) /\ ((y.1 == true && y.1 == true) = true -> decide (x.2.2.1.1 ≠ x.2.2.2.1.1) = false -> True) /\ ((y.1 == true && y.1 == true) = true -> decide (x.2.2.1.1 ≠ x.2.2.2.1.1)
  = false -> True) /\ ((y.1 == true && y.1 == true) = true -> decide (x.2.2.1.1 ≠ x.2.2.2.1.1) = false -> (y.1 == true && y.1 == true && decide (x.2.2.1.1 ≠ x.2.2.2.1.1) == false) = true /\
  (y.1 == true && y.1 == true && decide (x.2.2.1.1 ≠ x.2.2.2.1.1) == false) = true /\ (List.length x.2.2.1.2 <= q87 /\ List.length x.2.2.2.1.2 <= q87) /\ (∀ (y_1 : q4), (q44 y_1) -> y_1.1 =
  allT (x.2.2.1.1, x.2.2.1.2) (x.2.2.2.1.1, x.2.2.2.1.2) -> (y.1 = true -> True) /\ (y.1 = true -> (y.1 == true) = true) /\ (decide (decide (q235 u) = bif y.1 then y_1.1 else false) = true ->
  True /\ (∀ (y : q4), (q44 y) -> y.1 = true -> y.1 = true) /\ True) /\ (decide (decide (q235 u) = bif y.1 then y_1.1 else false) = !true -> false = true)) /\ True) /\ ((y.1 == true && y.1 ==
  true) = true -> decide (x.2.2.1.1 ≠ x.2.2.2.1.1) = !false -> (y.1 = true -> True) /\ (y.1 = true -> (y.1 == true) = true) /\ (decide (decide (q235 u) = bif y.1 then true else false) = true
  -> True /\ (∀ (y : q4), (q44 y) -> y.1 = true -> y.1 = true) /\ True) /\ (decide (decide (q235 u) = bif y.1 then true else false) = !true -> false = true)) /\ ((y.1 == true && y.1 == true)
  = false -> (y.1 = true -> False) /\ (y.1 = !true -> (decide (decide (q235 u) = false) = true -> True /\ (∀ (y : q4), (q44 y) -> y.1 = true -> y.1 = true) /\ True) /\ (decide (decide (q235
  u) = false) = !true -> false = true)))) /\ True))) /\ True
theorem e6 : t6 = Con.vc c_law14_WithinMore GL (mkEnvO ty [(11, conSem c_within_May), (21, conSem c_within_Check), (15, conSem c_within_Some), (13, conSem c_within_All), (18, conSem c_host_May), (20, conSem c_law14_there)] [] [] [0, 1, 2, 3, 6, 7, 8, 10, 12, 14, 15, 16, 18, 21, 72, 76, 110] [1000000,3000007]) {joins := [5,6,8,14,16,17],news := [(5,12,1000000+34),(6,14,1000000+34),(14,18,1000000+34)]} Tryz.f6.ntmps Tryz.f6.results.toList (bodyOf Tryz.f6) := by kernel_rfl
theorem k6 : t6 := by
  unfold t6
  delta q93 q91 q106 q107 q65 q87 q4 q44 q67 q68 q252 q86 q85 q263 q227 q267 q266 q265 q14 q7 q126 q1 q15 q30 q262 q226 q235 q232 q233 q264 q228 q231 q229 q230 q238 q33 q10 q79 lnZ wrZ q240 q241 q261 q225 q234 q303 q304 wbZ q313 q312 wiZ q315 q297 q314 q296 q236 q308 q295 q320
  rintro ⟨p, x, ⟨k, b⟩, ⟨g, s⟩, _⟩ hx hp
  have hq : Kd.bulk (.sl GT) p + (Kd.bulk (.sl GT) x + ((1 + (b.length + 1)) + ((1 + (s.length + 1)) + 0))) ≤ 1048576 := hp
  have lp := lenT_bulk (l := p) (by omega)
  have lx := lenT_bulk (l := x) (by omega)
  have tp := (lenTB_iff p).2 lp
  have tx := (lenTB_iff x).2 lx
  have hpl : p.length ≤ 1048576 ∧ x.length ≤ 1048576 := by
    have a1 := bulk_len p
    have a2 := bulk_len x
    omega
  have hb : b.length ≤ 100000000 := by omega
  have hs : s.length ≤ 100000000 := by omega
  clear hp hx hq
  have ep : lenTB (p ++ [(k, b)]) = true := lenTB_snoc lp hpl.1 hb
  have ex : lenTB (x ++ [(k, b)]) = true := lenTB_snoc lx hpl.2 hb
  have e1 : lenTB [(k, b)] = true := by rw [lenTB_iff]; exact ⟨by simp, fun u hu => by rw [List.mem_singleton.1 hu]; exact hb⟩
  have e0 : lenTB [] = true := rfl
  obtain ⟨hpl, hxl⟩ := hpl
  try dsimp +instances only [dft_int, dft_sl, dft_str]
  simp only [true_and, and_true, eq_self_iff_true, implies_true, reduceCtorEq, false_implies, true_implies, decide_eq_true_eq, decide_eq_false_iff_not, beq_self_eq_true, Bool.not_eq_true', ne_eq, Decidable.not_not, List.nil_append, List.length_singleton, List.length_cons, List.length_nil, Nat.zero_add, Nat.add_zero, Nat.mul_one, and_self, beq_iff_eq, Bool.not_true, Bool.not_false, Bool.not_eq_false', Bool.cond_false_right, Bool.and_eq_true, imp_self, Bool.not_eq_true, Bool.cond_true_left, Bool.or_eq_true]
  have hd : ((Kd.int IntKind.i64).pair Kd.str).dft = (0, []) := rfl
  simp only [hd]
  refine ⟨by decide, by decide, hb, ?_⟩
  rintro ⟨m, _⟩ _ hm
  have hm : m = mayT k b := hm
  refine ⟨fun h0 => ?_, fun h1 => ?_⟩
  . have h0 : mayT k b = false := hm ▸ h0
    refine ⟨by decide, by omega, by omega, by decide, by omega, by omega, ⟨ep, tx, hs⟩, ?_⟩
    rintro ⟨a, f, _⟩ _ ha hf
    have hf : f = 0 := hf
    have ha : (a, f) = checkT (p ++ [(k, b)]) x (g, s) := ha
    exact more_bad (t := (k, b)) h0 (by rw [← ha]; exact hf)
  have h1 : mayT k b = true := hm ▸ h1
  clear hm
  refine ⟨fun u _ => u.1 = (checkT p x (g, s)).2, ⟨⟨tp, tx, hs⟩, ?_⟩, ?_⟩
  . rintro ⟨a, f, _⟩ _ ha
    have ha : (a, f) = checkT p x (g, s) := ha
    show f = _
    rw [← ha]
  rintro ⟨f, _⟩ _ _ hf
  have hf : f = (checkT p x (g, s)).2 := hf
  refine ⟨fun u _ => u.1 = (checkT p (x ++ [(k, b)]) (g, s)).2, ⟨by decide, by omega, by omega, by decide, by omega, by omega, ⟨tp, ex, hs⟩, ?_⟩, ?_⟩
  . rintro ⟨a, e, _⟩ _ ha
    have ha : (a, e) = checkT p (x ++ [(k, b)]) (g, s) := ha
    show e = _
    rw [← ha]
  rintro ⟨e, _⟩ _ _ he
  have he : e = (checkT p (x ++ [(k, b)]) (g, s)).2 := he
  have hef : e = 0 → f = 0 ∧ someT (k, b) (g, s) = false := fun h => by
    rw [hf]; exact more_ex (he ▸ h)
  refine ⟨fun _ _ => True, ?_, ?_⟩
  . clear he hf
    show (_ ∧ _ ∧ _)
    by_cases e0 : e = 0
    . obtain ⟨f0, h2⟩ := hef e0
      simp only [e0, f0]
      refine ⟨fun _ _ => ⟨by trivial, by trivial, ⟨hb, hs⟩, ?_⟩, fun _ hh => absurd trivial hh, fun hh => by simp at hh⟩
      rintro ⟨c, _⟩ _ hc
      have hc : c = false := by rw [← h2]; exact hc
      subst hc
      exact ⟨fun hh => by simp at hh, fun _ => trivial⟩
    . simp only [e0]
      refine ⟨fun _ hh => hh.elim, fun _ _ => ⟨fun hh => hh.1, fun _ => trivial⟩, fun hh => by simp at hh⟩
  rintro ⟨w, _⟩ _ _ _
  clear hef he
  refine ⟨fun y _ => 0 ≤ y.1 ∧ y.1 ≤ p.length ∧ y.2.1 = (p.take y.1.toNat).any fun t => decide (t.1 = k), fun y _ => (p.length - y.1).toNat, ⟨Int.le_refl 0, by omega, rfl⟩, ?_⟩
  rintro ⟨i, c, _⟩ _ _ ⟨i0, i1, hc⟩
  have i0 : 0 ≤ i := i0
  have i1 : i ≤ p.length := i1
  have hc : c = (p.take i.toNat).any fun t => decide (t.1 = k) := hc
  refine ⟨fun hi => ?_, fun hi => ?_⟩
  . have hi : i < p.length := hi
    have hw : IntKind.i64.wrap (i + 1) = i + 1 := wrapK _ (by omega) (by omega)
    refine ⟨fun h => ⟨h, h, i0, hi⟩, ⟨?_, ?_, ?_⟩, ?_⟩
    . show 0 ≤ IntKind.i64.wrap (i + 1)
      omega
    . show IntKind.i64.wrap (i + 1) ≤ _
      omega
    . show (c || decide _) = (p.take (IntKind.i64.wrap (i + 1)).toNat).any _
      rw [hw, show (i + 1).toNat = i.toNat + 1 by omega, any_take _ _ _ (by omega), hc]
    . show (p.length - IntKind.i64.wrap (i + 1)).toNat < (p.length - i).toNat
      omega
  have hi : ¬ i < p.length := hi
  have hc : c = p.any fun t => decide (t.1 = k) := by rw [hc, List.take_of_length_le (by omega)]
  refine ⟨fun u _ => u.1 = (checkT (p ++ [(k, b)]) x (g, s)).2, ⟨by decide, by omega, by omega, by decide, by omega, by omega, ⟨ep, tx, hs⟩, ?_⟩, ?_⟩
  . rintro ⟨a, e, _⟩ _ ha
    have ha : (a, e) = checkT (p ++ [(k, b)]) x (g, s) := ha
    show e = _
    rw [← ha]
  rintro ⟨e, _⟩ _ _ he
  have he : e = (checkT (p ++ [(k, b)]) x (g, s)).2 := he
  refine ⟨fun _ _ => True, ⟨?_, fun _ => trivial⟩, ?_⟩
  . rintro ⟨⟨f0, c1⟩, ne⟩
    have f0 : f = 0 := f0
    have c1 : c = true := c1
    exact ne (he.trans (more_in (t := (k, b)) h1 (hc ▸ c1) (hf ▸ f0)))
  rintro ⟨v, _⟩ _ _ _
  refine ⟨fun u _ => u.1 = (checkT [(k, b)] [] (g, s)).2, ⟨⟨e1, e0, hs⟩, ?_⟩, ?_⟩
  . rintro ⟨a, e, _⟩ _ ha
    have ha : (a, e) = checkT [(k, b)] [] (g, s) := ha
    show e = _
    rw [← ha]
  rintro ⟨r, _⟩ _ _ hr
  have hr : r = (checkT [(k, b)] [] (g, s)).2 := hr
  refine ⟨hs, ?_⟩
  rintro ⟨n, _⟩ _ hn
  have hn : n = mayG g s := hn
  have hz : r = 0 ↔ n = true ∧ (k = g → allT (k, b) (g, s) = true) := by rw [hr, hn]; exact more_one (t := (k, b)) h1
  clear hn hr
  show (_ ∧ _ ∧ _)
  refine ⟨fun n1 kg => ⟨⟨n1, kg⟩, ⟨n1, kg⟩, ⟨hb, hs⟩, ?_⟩, fun n1 kg => ?_, fun hh => ?_⟩
  . rintro ⟨l, _⟩ _ hl
    have hl : l = allT (k, b) (g, s) := hl
    have n1 : n = true := n1
    have kg : k = g := kg
    show ¬ decide (r = 0) = (n && l) → False
    have hz2 : r = 0 ↔ l = true := by rw [hz, hl]; exact ⟨fun h => h.2 kg, fun h => ⟨n1, fun _ => h⟩⟩
    intro h
    apply h
    rw [n1]
    cases l
    . simpa using hz2
    . simpa using hz2
  . have n1 : n = true := n1
    have kg : ¬ k = g := kg
    show ¬ decide (r = 0) = (n && true) → False
    have : r = 0 := hz.2 ⟨n1, fun h => absurd h kg⟩
    simp [this, n1]
  . refine ⟨fun (n1 : n = true) => ?_, fun (n0 : n = false) r0 => ?_⟩
    . simp [n1] at hh
    . have := (hz.1 r0).1
      rw [n0] at this; cases this
theorem h6 : c_law14_WithinMore.ok Tryz.prog GL 6 := conO_ok (H := {joins := [5,6,8,14,16,17],news := [(5,12,1000000+34),(6,14,1000000+34),(14,18,1000000+34)]}) (mkEnvO_ok (gl := GL) (l := [(11, conSem c_within_May), (21, conSem c_within_Check), (15, conSem c_within_Some), (13, conSem c_within_All), (18, conSem c_host_May), (20, conSem c_law14_there)]) (q := []) (d := []) _ [1000000,3000007] tyOk (by kernel_rfl) ⟨h11.call, h21.call, h15.call, h13.call, h18.call, h20.call, trivial⟩ trivial trivial) (by kernel_rfl) (by kernel_rfl) (Eq.mp e6 k6)
end Go.Proofs.YtgnlcpoeepfdoaaGreatDoor
end
section
namespace Go.Proofs.YtgnlcpoeepfdoaaGreatDoor
open Go Go.Vc Go.Pl Go.Proofs
set_option maxRecDepth 100000 in
theorem glOk {w : World} (hL : laidMetH Tryz.prog [("unicode/utf8.acceptRanges", Rows.laid_unicode_utf8_acceptRanges), ("unicode/utf8.first", Rows.laid_unicode_utf8_first)] w) (hS : w.ShapedOpen Tryz.prog) : GlOk GL w (fun _ => False) := by
  have hL : laidMet Tryz.prog [("unicode/utf8.acceptRanges", Rows.laid_unicode_utf8_acceptRanges), ("unicode/utf8.first", Rows.laid_unicode_utf8_first)] w := hL
  have h0 := Lib.laidMet.reads hL (n := "unicode/utf8.first") (d := Rows.laid_unicode_utf8_first) (by simp)
  have h1 := Lib.laidMet.reads hL (n := "unicode/utf8.acceptRanges") (d := Rows.laid_unicode_utf8_acceptRanges) (by simp)
  obtain ⟨m, hm⟩ := Tryz.laysM219.s1_3 w hS
  have hm : w.cell? ⟨0, 0, none⟩ = some (.int .i64 m) := hm
  obtain ⟨fs, hs, hf, ho⟩ := pairB_eq (P := Tryz.prog) (e := 141) (k := .u8) (by kernel_rfl)
  have k0 := gl_ints (P := Tryz.prog) (w := w) (g := 1) (t := 139) (e := 5) (n := 256) (k := .u8) (zs := Lib.firstTab) (by kernel_rfl) (by kernel_rfl) (by kernel_rfl) (by kernel_rfl) (by kernel_rfl) (by kernel_rfl) (by kernel_rfl) (of_decide_eq_true (by kernel_rfl)) (by kernel_rfl) h0
  have k1 := gl_pairs (P := Tryz.prog) (w := w) (g := 2) (t := 142) (e := 141) (n := 16) (k := .u8) (zs := accTab) (by kernel_rfl) (by kernel_rfl) (by kernel_rfl) hs hf ho (by kernel_rfl) (by kernel_rfl) (by kernel_rfl) (of_decide_eq_true (by kernel_rfl)) (by kernel_rfl) (by kernel_rfl) h1
  intro g v hg
  rcases gl_cons hg with ⟨rfl, rfl⟩ | hg
  . exact k0
  rcases gl_cons hg with ⟨rfl, rfl⟩ | hg
  . exact k1
  obtain ⟨rfl, rfl⟩ := gl_one hg
  exact ⟨cell_lt hm, id, m, hm⟩
end Go.Proofs.YtgnlcpoeepfdoaaGreatDoor
end
section
namespace Go.Proofs.YtgnlcpoeepfdoaaGreatDoor
open Go Go.Vc Go.Pl Go.Proofs
end Go.Proofs.YtgnlcpoeepfdoaaGreatDoor
end
