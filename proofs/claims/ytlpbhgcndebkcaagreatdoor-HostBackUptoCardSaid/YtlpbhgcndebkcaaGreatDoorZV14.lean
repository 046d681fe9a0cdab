import Derived.Test.YtlpbhgcndebkcaaGreatDoorZV13
import Derived.Test.YtlpbhgcndebkcaaGreatDoorZV11
import Derived.Lib.BitFns
set_option linter.unusedVariables false
set_option linter.unusedSimpArgs false
namespace Go.Pl
open Go.Vc
set_option linter.unusedVariables false
set_option linter.unusedSimpArgs false
set_option maxRecDepth 20000
def namedD (b : List Int) : Bool := mayN (guessD b) && decide (encN (guessD b) = b)
theorem named_iff {b : List Int} : namedD b = true ↔ ∃ m, mayN m = true ∧ encN m = b := by
  rw [namedD, Bool.and_eq_true, decide_eq_true_eq]
  constructor
  . rintro ⟨h1, h2⟩
    exact ⟨_, h1, h2⟩
  . rintro ⟨m, hm, rfl⟩
    rw [guess_enc hm]
    exact ⟨hm, rfl⟩
theorem named_enc {m : List AttrT} (h : mayN m = true) : namedD (encN m) = true := named_iff.2 ⟨m, h, rfl⟩
theorem dec_named {b : List Int} {l : List AttrT} {e : Int} (h : decQ b l e = true) : decide (e = 0) = namedD b ∧ (namedD b = true → l = guessD b ∧ e = 0) := by
  have key : namedD b = true → l = guessD b ∧ e = 0 := by
    intro hn
    rw [namedD, Bool.and_eq_true, decide_eq_true_eq] at hn
    rw [← hn.2] at h
    exact decQ_of hn.1 h
  refine ⟨?_, key⟩
  cases hb : namedD b with
  | true => rw [(key hb).2]; rfl
  | false =>
    rw [decide_eq_false_iff_not]
    rintro rfl
    have := decQ_ok h
    rw [named_iff.2 ⟨l, this⟩] at hb
    cases hb
def mayG (k : Int) (t : List Int) : Bool :=
  if k = 1 then emailD t else if k = 2 then dnsD t || wildD t else if k = 4 then namedD t else if k = 7 then ipD t else false
def digs : List Int := [48, 49, 50, 51, 52, 53, 54, 55, 56, 57, 97, 98, 99, 100, 101, 102]
def hexD (t : List Int) : List Int := t.flatMap fun c => [digs.getD (c / 16).toNat 0, digs.getD (c % 16).toNat 0]
def showG (k : Int) (t : List Int) : List Int :=
  if k = 1 then [101, 109, 97, 105, 108, 58] ++ t else if k = 2 then [100, 110, 115, 58] ++ t else if k = 4 then [110, 97, 109, 101, 58] ++ textN (guessD t) else [105, 112, 58] ++ hexD t
def ShowG (k : Int) (t : List Int) : List Int × Int := if mayG k t then (showG k t, 0) else ([], 130)
theorem may_kinds {k : Int} {t : List Int} (h : mayG k t = true) : (k = 1 ∧ emailD t = true) ∨ (k = 2 ∧ (dnsD t || wildD t) = true) ∨ (k = 4 ∧ namedD t = true) ∨ (k = 7 ∧ ipD t = true) := by
  unfold mayG at h
  repeat' split at h
  all_goals simp_all
def hxV (c : Int) : Int := if 48 ≤ c ∧ c ≤ 57 then c - 48 else if 97 ≤ c ∧ c ≤ 102 then c - 87 else -1
theorem hxV_idx {c : Int} (h : 0 ≤ c ∧ c ≤ 255) : idxB digs c = hxV c := by
  have : ∀ n : Fin 256, idxB digs (n.val : Int) = hxV n.val := by decide
  have h2 := this ⟨c.toNat, by omega⟩
  simpa [show ((c.toNat : Nat) : Int) = c by omega] using h2
theorem hxV_range (c : Int) : -1 ≤ hxV c ∧ hxV c ≤ 15 := by
  unfold hxV
  split
  . omega
  . split <;> omega
theorem hx_dig_val {n : Int} (h : 0 ≤ n ∧ n ≤ 15) : hxV (digs.getD n.toNat 0) = n ∧ 0 ≤ digs.getD n.toNat 0 ∧ digs.getD n.toNat 0 ≤ 127 := by
  have : ∀ n : Fin 16, hxV (digs.getD n.val 0) = n.val ∧ 0 ≤ digs.getD n.val 0 ∧ digs.getD n.val 0 ≤ 127 := by decide
  have h2 := this ⟨n.toNat, by omega⟩
  simpa [show ((n.toNat : Nat) : Int) = n by omega] using h2
theorem hx_val_dig {c : Int} (h : 0 ≤ hxV c) : digs.getD (hxV c).toNat 0 = c := by
  unfold hxV at h ⊢
  split
  . rename_i h1
    have : ∀ n : Fin 10, digs.getD n.val 0 = (n.val : Int) + 48 := by decide
    have h2 := this ⟨(c - 48).toNat, by omega⟩
    simp only at h2
    rw [h2]; omega
  . rename_i h1
    rw [if_neg h1] at h
    split
    . have : ∀ n : Fin 6, digs.getD (n.val + 10) 0 = (n.val : Int) + 97 := by decide
      have h2 := this ⟨(c - 97).toNat, by omega⟩
      simp only at h2
      rw [show (c - 87).toNat = (c - 97).toNat + 10 by omega, h2]; omega
    . rename_i h3
      rw [if_neg h3] at h; omega
def unhexP : List Int → Option (List Int)
  | [] => some []
  | [_] => none
  | a :: b :: l => if hxV a < 0 ∨ hxV b < 0 then none else (unhexP l).map fun r => (16 * hxV a + hxV b) :: r
def unhexD (s : List Int) : List Int := (unhexP s).getD []
theorem hex_cons (c : Int) (l : List Int) : hexD (c :: l) = digs.getD (c / 16).toNat 0 :: digs.getD (c % 16).toNat 0 :: hexD l := rfl
theorem hex_app (l m : List Int) : hexD (l ++ m) = hexD l ++ hexD m := by simp [hexD, List.flatMap_append]
theorem hex_len (t : List Int) : (hexD t).length = 2 * t.length := by
  induction t with
  | nil => rfl
  | cons c t ih => rw [hex_cons, List.length_cons, List.length_cons, ih, List.length_cons]; omega
theorem byte_parts {c : Int} (h : 0 ≤ c ∧ c ≤ 255) : (0 ≤ c / 16 ∧ c / 16 ≤ 15) ∧ (0 ≤ c % 16 ∧ c % 16 ≤ 15) ∧ 16 * (c / 16) + c % 16 = c := by omega
theorem unhex_hex : ∀ {t : List Int}, Bys t → unhexP (hexD t) = some t
  | [], _ => rfl
  | c :: t, h => by
    have hc := h c (by simp)
    obtain ⟨h1, h2, h3⟩ := byte_parts hc
    have d1 := hx_dig_val h1
    have d2 := hx_dig_val h2
    rw [hex_cons, unhexP, d1.1, d2.1, if_neg (by omega), unhex_hex fun b hb => h b (by simp [hb]), Option.map_some, h3]
theorem hex_unhex : ∀ {s t : List Int}, unhexP s = some t → hexD t = s ∧ Bys t
  | [], t, h => by cases h; exact ⟨rfl, fun b hb => by cases hb⟩
  | [_], t, h => by cases h
  | a :: b :: l, t, h => by
    rw [unhexP] at h
    split at h
    . cases h
    . rename_i h1
      obtain ⟨r, hr, rfl⟩ := Option.map_eq_some_iff.1 h
      obtain ⟨h2, h3⟩ := hex_unhex hr
      have ra := hxV_range a
      have rb := hxV_range b
      have e1 : (16 * hxV a + hxV b) / 16 = hxV a := by omega
      have e2 : (16 * hxV a + hxV b) % 16 = hxV b := by omega
      refine ⟨?_, fun x hx => ?_⟩
      . rw [hex_cons, e1, e2, hx_val_dig (by omega), hx_val_dig (by omega), h2]
      . rcases List.mem_cons.1 hx with rfl | hx
        . omega
        . exact h3 x hx
theorem hex_inj {t u : List Int} (ht : Bys t) (hu : Bys u) (h : hexD t = hexD u) : t = u := by
  have h1 := unhex_hex ht
  rw [h, unhex_hex hu] at h1
  exact (Option.some.inj h1).symm
theorem unhexD_hex {t : List Int} (h : Bys t) : unhexD (hexD t) = t := by rw [unhexD, unhex_hex h]; rfl
theorem unhex_ip {s : List Int} (h : ipD (unhexD s) = true) : hexD (unhexD s) = s ∧ Bys (unhexD s) := by
  unfold unhexD at h ⊢
  cases hu : unhexP s with
  | none => rw [hu] at h; simp [ipD] at h
  | some t => exact hex_unhex hu
theorem unhex_bys (s : List Int) : Bys (unhexD s) := by
  unfold unhexD
  cases hu : unhexP s with
  | none => intro b hb; cases hb
  | some t => exact (hex_unhex hu).2
theorem bs_digs : bs { data := #[48, 49, 50, 51, 52, 53, 54, 55, 56, 57, 97, 98, 99, 100, 101, 102] } = digs := by decide
theorem utf8_one {n : Int} (h0 : 0 ≤ n) (h1 : n ≤ 127) : bs (Utf8.encode n) = [n] := by
  have : ∀ n : Fin 128, bs (Utf8.encode (n.val : Int)) = [(n.val : Int)] := by decide
  have h2 := this ⟨n.toNat, by omega⟩
  simpa [show ((n.toNat : Nat) : Int) = n by omega] using h2
theorem and15 {c : Int} (h : 0 ≤ c ∧ c ≤ 255) : IntKind.u8.wrap ((BitVec.ofInt 8 c &&& BitVec.ofInt 8 15).toNat : Int) = c % 16 := by
  have : ∀ n : Fin 256, IntKind.u8.wrap ((BitVec.ofInt 8 (n.val : Int) &&& BitVec.ofInt 8 15).toNat : Int) = (n.val : Int) % 16 := by decide
  have h2 := this ⟨c.toNat, by omega⟩
  simpa [show ((c.toNat : Nat) : Int) = c by omega] using h2
theorem shr4 {c : Int} (h : 0 ≤ c) : c.fdiv (2 ^ 4) = c / 16 := by
  rw [Int.fdiv_eq_ediv_of_nonneg _ (by decide)]; rfl
theorem or16 {x y : Int} (hx : 0 ≤ x ∧ x ≤ 15) (hy : 0 ≤ y ∧ y ≤ 15) : IntKind.u8.wrap (IntKind.i64.wrap ((BitVec.ofInt 64 (IntKind.i64.wrap (x * 2 ^ 4)) ||| BitVec.ofInt 64 y).toNat : Int)) = 16 * x + y := by
  have : ∀ x y : Fin 16, IntKind.u8.wrap (IntKind.i64.wrap ((BitVec.ofInt 64 (IntKind.i64.wrap ((x.val : Int) * 2 ^ 4)) ||| BitVec.ofInt 64 (y.val : Int)).toNat : Int)) = 16 * (x.val : Int) + y.val := by decide
  have h2 := this ⟨x.toNat, by omega⟩ ⟨y.toNat, by omega⟩
  simpa [show ((x.toNat : Nat) : Int) = x by omega, show ((y.toNat : Nat) : Int) = y by omega] using h2
theorem hex_step {s : List Int} (hb : Bys s) {i : Nat} (hi : i < s.length) : hexD (s.take (i + 1)) = hexD (s.take i) ++ [digs.getD (s.getD i 0 / 16).toNat 0, digs.getD (s.getD i 0 % 16).toNat 0] := by
  rw [take_snoc s i hi, hex_app]; rfl
theorem unhex_two {s : List Int} {i : Nat} (hi : i + 1 < s.length) : s.drop i = s.getD i 0 :: s.getD (i + 1) 0 :: s.drop (i + 2) := by
  rw [drop_cons s i (by omega), drop_cons s (i + 1) hi]
theorem unhex_bad {s acc : List Int} {i : Nat} (h : unhexP s = (unhexP (s.drop i)).map (acc ++ ·)) (hi : i + 1 < s.length) (hn : hxV (s.getD i 0) < 0 ∨ hxV (s.getD (i + 1) 0) < 0) : unhexD s = [] := by
  rw [unhexD, h, unhex_two hi, unhexP, if_pos hn]; rfl
theorem unhex_next {s acc : List Int} {i : Nat} (h : unhexP s = (unhexP (s.drop i)).map (acc ++ ·)) (hi : i + 1 < s.length) (hn : ¬ (hxV (s.getD i 0) < 0 ∨ hxV (s.getD (i + 1) 0) < 0)) :
    unhexP s = (unhexP (s.drop (i + 2))).map ((acc ++ [16 * hxV (s.getD i 0) + hxV (s.getD (i + 1) 0)]) ++ ·) := by
  rw [h, unhex_two hi, unhexP, if_neg hn, Option.map_map]
  congr 1
  funext r
  simp
theorem unhex_odd : ∀ {s : List Int}, s.length % 2 = 1 → unhexP s = none
  | [], h => by simp at h
  | [_], _ => rfl
  | a :: b :: l, h => by
    rw [unhexP]
    split
    . rfl
    . rw [unhex_odd (s := l) (by simp at h; omega)]; rfl
theorem all_mp {E : List (Int × Nat × List Int)} {Q : List (Int × Nat × List Int) × Unit → Prop} : (∀ y : List (Int × Nat × List Int) × Unit, Kd.wf (Kd.mp (Kd.pair Kd.fn Kd.str)) y.1 → y.1 = E → Q y) ↔ (Kd.wf (Kd.mp (Kd.pair Kd.fn Kd.str)) E → Q (E, ())) :=
  ⟨fun h hw => h (E, ()) hw rfl, fun h y hw e => by obtain ⟨a, u⟩ := y; cases e; exact h hw⟩
theorem named_text {t : List Int} (h : namedD t = true) : mayN (guessD t) = true ∧ encN (guessD t) = t := by
  rw [namedD, Bool.and_eq_true, decide_eq_true_eq] at h
  exact h
theorem show_inj {k k' : Int} {t t' : List Int} (h : mayG k t = true) (h' : mayG k' t' = true) (ht : Bys t) (ht' : Bys t') (he : showG k t = showG k' t') : k = k' ∧ t = t' := by
  rcases may_kinds h with ⟨rfl, h1⟩ | ⟨rfl, h1⟩ | ⟨rfl, h1⟩ | ⟨rfl, h1⟩ <;> rcases may_kinds h' with ⟨rfl, h2⟩ | ⟨rfl, h2⟩ | ⟨rfl, h2⟩ | ⟨rfl, h2⟩ <;> simp [showG] at he
  . exact ⟨rfl, he⟩
  . exact ⟨rfl, he⟩
  . have a := named_text h1
    have b := named_text h2
    have := text_inj a.1 b.1 he
    exact ⟨rfl, by rw [← a.2, ← b.2, this]⟩
  . exact ⟨rfl, hex_inj ht ht' he⟩
def parG0 (s : List Int) (k : Int) (t : List Int) (e : Int) : Prop := (e = 0 ∧ mayG k t = true ∧ showG k t = s ∧ Bys t) ∨ (e = 130 ∧ k = 0 ∧ t = [] ∧ ∀ k' t', Bys t' → mayG k' t' = true → showG k' t' ≠ s)
noncomputable def parG (s : List Int) (k : Int) (t : List Int) (e : Int) : Bool := @decide (parG0 s k t e) (Classical.propDecidable _)
theorem parG_iff {s : List Int} {k : Int} {t : List Int} {e : Int} : parG s k t e = true ↔ parG0 s k t e := by unfold parG; exact @decide_eq_true_iff _ (Classical.propDecidable _)
theorem parG_bad {s : List Int} (h : ∀ k t, Bys t → mayG k t = true → showG k t = s → False) : parG s 0 [] 130 = true := parG_iff.2 (.inr ⟨rfl, rfl, rfl, fun k t h1 h2 h3 => h k t h1 h2 h3⟩)
theorem parG_good {s : List Int} {k : Int} {t : List Int} (h1 : mayG k t = true) (h2 : showG k t = s) (h3 : Bys t) : parG s k t 0 = true := parG_iff.2 (.inl ⟨rfl, h1, h2, h3⟩)
theorem parG_det {s : List Int} {k k' : Int} {t t' : List Int} {e e' : Int} (h : parG s k t e = true) (h' : parG s k' t' e' = true) : k = k' ∧ t = t' ∧ e = e' := by
  rcases parG_iff.1 h with ⟨rfl, h1, h2, h3⟩ | ⟨rfl, rfl, rfl, h1⟩ <;> rcases parG_iff.1 h' with ⟨rfl, h4, h5, h6⟩ | ⟨rfl, rfl, rfl, h4⟩
  . obtain ⟨rfl, rfl⟩ := show_inj h1 h4 h3 h6 (h2.trans h5.symm)
    exact ⟨rfl, rfl, rfl⟩
  . exact absurd h2 (h4 _ _ h3 h1)
  . exact absurd h5 (h1 _ _ h6 h4)
  . exact ⟨rfl, rfl, rfl⟩
theorem parG_of {k k' : Int} {t t' : List Int} {e : Int} (hb : Bys t) (h : mayG k t = true) (hp : parG (showG k t) k' t' e = true) : k' = k ∧ t' = t ∧ e = 0 := parG_det hp (parG_good h rfl hb)
theorem parG_ok {s : List Int} {k : Int} {t : List Int} (h : parG s k t 0 = true) : mayG k t = true ∧ showG k t = s := by
  rcases parG_iff.1 h with ⟨_, h1, h2, _⟩ | ⟨h1, _⟩
  . exact ⟨h1, h2⟩
  . cases h1
def headG (k : Int) : List Int := if k = 1 then [101, 109, 97, 105, 108, 58] else if k = 2 then [100, 110, 115, 58] else if k = 4 then [110, 97, 109, 101, 58] else [105, 112, 58]
def bodyG (k : Int) (t : List Int) : List Int := if k = 1 then t else if k = 2 then t else if k = 4 then textN (guessD t) else hexD t
theorem show_head (k : Int) (t : List Int) : showG k t = headG k ++ bodyG k t := by
  unfold showG headG bodyG
  repeat' split
  all_goals rfl
theorem hasP_app (p r : List Int) : hasP p (p ++ r) = true := hasP_iff.2 ⟨r, rfl⟩
def kindG (k : Int) : Prop := k = 1 ∨ k = 2 ∨ k = 4 ∨ k = 7
theorem head_apart' {k k' : Int} {s : List Int} (h : kindG k) (h' : kindG k') (hs : hasP (headG k) s = true) (hs' : hasP (headG k') s = true) : k = k' := by
  obtain ⟨r, rfl⟩ := hasP_iff.1 hs
  obtain ⟨r', he⟩ := hasP_iff.1 hs'
  rcases h with rfl | rfl | rfl | rfl <;> rcases h' with rfl | rfl | rfl | rfl <;> first | rfl | (simp [headG] at he)
theorem may_kind' {k : Int} {t : List Int} (h : mayG k t = true) : kindG k := by
  rcases may_kinds h with ⟨h, _⟩ | ⟨h, _⟩ | ⟨h, _⟩ | ⟨h, _⟩
  . exact .inl h
  . exact .inr (.inl h)
  . exact .inr (.inr (.inl h))
  . exact .inr (.inr (.inr h))
def stageG (s : List Int) (ks : List Int) (k : Int) (t : List Int) : Prop := Bys t ∧ t.length ≤ 10000000 ∧ ∀ k' t', Bys t' → mayG k' t' = true → showG k' t' = s → k' ∈ ks → k = k' ∧ t = t'
theorem stage_nil (s : List Int) : stageG s [] 0 [] := ⟨fun b hb => (by cases hb), by decide, fun k' t' _ _ _ h => (by cases h)⟩
theorem stage_miss {s ks t : List Int} {k k0 : Int} (h : stageG s ks k t) (hm : hasP (headG k0) s = false) : stageG s (k0 :: ks) k t :=
  ⟨h.1, h.2.1, fun k' t' h1 h2 h3 h4 => by
    rcases List.mem_cons.1 h4 with rfl | h4
    . rw [← h3, show_head, hasP_app] at hm; cases hm
    . exact h.2.2 k' t' h1 h2 h3 h4⟩
theorem stage_hit {s ks t : List Int} {k : Int} (hk : kindG k) (hm : hasP (headG k) s = true) (hb : Bys t) (hl : t.length ≤ 10000000) (ht : ∀ t', Bys t' → mayG k t' = true → showG k t' = s → t = t') : stageG s (k :: ks) k t :=
  ⟨hb, hl, fun k' t' h1 h2 h3 h4 => by
    have : k = k' := head_apart' hk (may_kind' h2) hm (by rw [← h3, show_head, hasP_app])
    subst this
    exact ⟨rfl, ht t' h1 h2 h3⟩⟩
theorem stage_none {s ks t : List Int} {k k0 : Int} (h : stageG s ks k t) (hn : ∀ t', Bys t' → mayG k0 t' = true → showG k0 t' = s → False) : stageG s (k0 :: ks) k t :=
  ⟨h.1, h.2.1, fun k' t' h1 h2 h3 h4 => by
    rcases List.mem_cons.1 h4 with rfl | h4
    . exact (hn t' h1 h2 h3).elim
    . exact h.2.2 k' t' h1 h2 h3 h4⟩
theorem stage_end {s t : List Int} {k : Int} (h : stageG s [7, 4, 2, 1] k t) : ShowG k t = (s, 0) ∨ parG s 0 [] 130 = true := by
  by_cases hg : ShowG k t = (s, 0)
  . exact .inl hg
  . refine .inr (parG_bad fun k' t' h1 h2 h3 => hg ?_)
    have h4 : k' ∈ ([7, 4, 2, 1] : List Int) := by rcases may_kinds h2 with ⟨rfl, _⟩ | ⟨rfl, _⟩ | ⟨rfl, _⟩ | ⟨rfl, _⟩ <;> decide
    obtain ⟨rfl, rfl⟩ := h.2.2 k' t' h1 h2 h3 h4
    rw [ShowG, h2, h3]; rfl
theorem show_good {s t : List Int} {k : Int} (h : ShowG k t = (s, 0)) (hb : Bys t) : parG s k t 0 = true := by
  unfold ShowG at h
  split at h
  . rename_i hm
    exact parG_good hm (Prod.mk.inj h).1 hb
  . cases h
theorem drop_head' {k : Int} {t s : List Int} (h : showG k t = s) : s.drop (headG k).length = bodyG k t := by rw [← h, show_head, List.drop_left]
theorem hex_read {t' r : List Int} (hb : Bys t') (hr : hexD t' = r) {i : Nat} (hi : 2 * i + 1 < r.length) : 16 * hxV (r.getD (2 * i) 0) + hxV (r.getD (2 * i + 1) 0) = t'.getD i 0 ∧ i < t'.length := by
  subst hr
  have hl := hex_len t'
  have hit : i < t'.length := by omega
  have key : ∀ (t' : List Int) (i : Nat), Bys t' → i < t'.length → 16 * hxV ((hexD t').getD (2 * i) 0) + hxV ((hexD t').getD (2 * i + 1) 0) = t'.getD i 0 := by
    intro t'
    induction t' with
    | nil => intro i _ h; simp at h
    | cons c t' ih =>
      intro i hb hi
      cases i with
      | zero =>
        have hc := hb c (by simp)
        obtain ⟨h1, h2, h3⟩ := byte_parts hc
        have d1 := hx_dig_val h1
        have d2 := hx_dig_val h2
        show 16 * hxV (digs.getD (c / 16).toNat 0) + hxV (digs.getD (c % 16).toNat 0) = c
        rw [d1.1, d2.1, h3]
      | succ i =>
        have := ih i (fun b hb' => hb b (by simp [hb'])) (by simpa using hi)
        rw [hex_cons, show 2 * (i + 1) = 2 * i + 1 + 1 by omega]
        simpa using this
  exact ⟨key t' i hb hit, hit⟩
theorem wrap_u8_hex {x y : Int} (hx : -1 ≤ x ∧ x ≤ 15) (hy : -1 ≤ y ∧ y ≤ 15) : IntKind.i64.wrap (IntKind.i64.wrap (16 * x) + y) = 16 * x + y := by
  rw [wrapK (16 * x) (by omega) (by omega), wrapK _ (by omega) (by omega)]
theorem wrap_u8_bnd (x : Int) : 0 ≤ IntKind.u8.wrap x ∧ IntKind.u8.wrap x ≤ 255 := inr_u8.1 (wrap_InR .u8 x)
theorem bs_email : bs { data := #[101, 109, 97, 105, 108, 58] } = headG 1 := by decide
theorem bs_dns : bs { data := #[100, 110, 115, 58] } = headG 2 := by decide
theorem bs_name : bs { data := #[110, 97, 109, 101, 58] } = headG 4 := by decide
theorem bs_ip : bs { data := #[105, 112, 58] } = headG 7 := by decide
theorem hd_len : (headG 1).length = 6 ∧ (headG 2).length = 4 ∧ (headG 4).length = 5 ∧ (headG 7).length = 3 := by decide
theorem body_hit {s t' : List Int} {k : Int} (h : showG k t' = s) : s.drop (headG k).length = bodyG k t' := drop_head' h
theorem bitLen_64 (n : Nat) : Lib.bitLen n ≤ 64 := by
  have : ∀ f n, Lib.bitLenAux f n ≤ f := by
    intro f
    induction f with
    | zero => intro n; exact Nat.le_refl _
    | succ f ih =>
      intro n
      unfold Lib.bitLenAux
      split
      . omega
      . have := ih (n / 2); omega
  exact this 64 n
def miss (l : List Nat) : Nat := (if 0 ∈ l then 0 else 1) + (if 1 ∈ l then 0 else 1) + (if 2 ∈ l then 0 else 1) + (if 3 ∈ l then 0 else 1)
theorem miss_snoc {l : List Nat} {i : Nat} (hi : i < 4) (hn : i ∉ l) : miss (l ++ [i]) + 1 = miss l := by
  rcases (show i = 0 ∨ i = 1 ∨ i = 2 ∨ i = 3 by omega) with rfl | rfl | rfl | rfl <;> simp [miss, hn] <;> omega
theorem miss_all {l : List Nat} (h : ∀ i : Nat, i < 4 → i ∈ l) : miss l = 0 := by
  simp [miss, h 0 (by omega), h 1 (by omega), h 2 (by omega), h 3 (by omega)]
def S4 (r : List Int) : Prop := r.length = 4 ∧ 1 ∈ r ∧ 2 ∈ r ∧ 4 ∈ r ∧ 7 ∈ r
def swapA (r : List Int) (j : Nat) : List Int := (r.set j (r.getD (j - 1) 0)).set (j - 1) (r.getD j 0)
theorem swap_len (r : List Int) (j : Nat) : (swapA r j).length = r.length := by simp [swapA]
theorem swap_get {r : List Int} {j p : Nat} (h0 : 0 < j) (hj : j < r.length) (hp : p < r.length) : (swapA r j).getD p 0 = if p = j - 1 then r.getD j 0 else if p = j then r.getD (j - 1) 0 else r.getD p 0 := by
  have hp2 : p < (swapA r j).length := by rw [swap_len]; exact hp
  rw [List.getD_eq_getElem?_getD, swapA, List.getElem?_set]
  split
  . rename_i h
    subst h
    rw [if_pos (by simp; omega), if_pos rfl]; rfl
  . rename_i h
    rw [if_neg (Ne.symm h), List.getElem?_set]
    split
    . rename_i h2
      subst h2
      rw [if_pos rfl]; rfl
    . rename_i h2
      rw [if_neg (Ne.symm h2), List.getD_eq_getElem?_getD]
theorem swap_mem {r : List Int} {j : Nat} (h0 : 0 < j) (hj : j < r.length) {x : Int} (hx : x ∈ r) : x ∈ swapA r j := by
  obtain ⟨k, hk, rfl⟩ := List.mem_iff_getElem.1 hx
  have e : ∀ p, p < r.length → (swapA r j).getD p 0 ∈ swapA r j := fun p hp => mem_getD 0 _ p (by rw [swap_len]; exact hp)
  have g : r[k] = r.getD k 0 := by rw [List.getD_eq_getElem?_getD, List.getElem?_eq_getElem hk]; rfl
  rw [g]
  by_cases h1 : k = j
  . have := e (j - 1) (by omega)
    rw [swap_get h0 hj (by omega), if_pos rfl] at this
    rw [h1]; exact this
  . by_cases h2 : k = j - 1
    . have := e j hj
      rw [swap_get h0 hj hj, if_neg (by omega), if_pos rfl] at this
      rw [h2]; exact this
    . have := e k hk
      rw [swap_get h0 hj hk, if_neg h2, if_neg h1] at this
      exact this
theorem S4_swap {r : List Int} {j : Nat} (h : S4 r) (h0 : 0 < j) (hj : j < 4) : S4 (swapA r j) := by
  obtain ⟨h1, h2, h3, h4, h5⟩ := h
  have hj' : j < r.length := by omega
  exact ⟨by rw [swap_len, h1], swap_mem h0 hj' h2, swap_mem h0 hj' h3, swap_mem h0 hj' h4, swap_mem h0 hj' h5⟩
def srtP (r : List Int) (n : Nat) : Prop := ∀ p q, p < q → q < n → r.getD p 0 ≤ r.getD q 0
def srtX (r : List Int) (i j : Nat) : Prop := ∀ p q, p < q → q ≤ i → q ≠ j → r.getD p 0 ≤ r.getD q 0
theorem srtX_of {r : List Int} {i : Nat} (h : srtP r i) : srtX r i i := fun p q h1 h2 h3 => h p q h1 (by omega)
theorem srtX_stop0 {r : List Int} {i : Nat} (h : srtX r i 0) : srtP r (i + 1) := fun p q h1 h2 => h p q h1 (by omega) (by omega)
theorem srtX_stop {r : List Int} {i j : Nat} (h : srtX r i j) (h0 : 0 < j) (hle : r.getD (j - 1) 0 ≤ r.getD j 0) : srtP r (i + 1) := fun p q h1 h2 => by
  by_cases hq : q = j
  . subst hq
    by_cases hp : p = q - 1
    . subst hp; exact hle
    . exact Int.le_trans (h p (q - 1) (by omega) (by omega) (by omega)) hle
  . exact h p q h1 (by omega) hq
theorem srtX_swap {r : List Int} {i j : Nat} (h : srtX r i j) (h0 : 0 < j) (hj : j ≤ i) (hi : i < r.length) (hlt : r.getD j 0 < r.getD (j - 1) 0) : srtX (swapA r j) i (j - 1) := fun p q h1 h2 h3 => by
  rw [swap_get h0 (by omega) (by omega), swap_get h0 (by omega) (by omega)]
  by_cases hq : q = j
  . subst hq
    rw [if_neg (by omega : ¬ q = q - 1), if_pos rfl]
    by_cases hp : p = q - 1
    . rw [if_pos hp]; omega
    . rw [if_neg hp, if_neg (by omega)]
      exact h p (q - 1) (by omega) (by omega) (by omega)
  . rw [if_neg h3, if_neg hq]
    by_cases hp : p = j - 1
    . rw [if_pos hp]
      exact h j q (by omega) h2 hq
    . rw [if_neg hp]
      by_cases hp2 : p = j
      . rw [if_pos hp2]
        exact h (j - 1) q (by omega) h2 hq
      . rw [if_neg hp2]
        exact h p q h1 h2 hq
theorem S4_srt {r : List Int} (h : S4 r) (hs : srtP r 4) : r = [1, 2, 4, 7] := by
  obtain ⟨h1, h2, h3, h4, h5⟩ := h
  match r, h1 with
  | [a, b, c, d], _ =>
    have e1 : a ≤ b := hs 0 1 (by omega) (by omega)
    have e2 : b ≤ c := hs 1 2 (by omega) (by omega)
    have e3 : c ≤ d := hs 2 3 (by omega) (by omega)
    simp at h2 h3 h4 h5
    have : a = 1 ∧ b = 2 ∧ c = 4 ∧ d = 7 := by omega
    obtain ⟨rfl, rfl, rfl, rfl⟩ := this
    rfl
theorem kinds_at {i : Nat} (h : i < 4) : kindG (([1, 2, 4, 7] : List Int).getD i 0) := by
  rcases (show i = 0 ∨ i = 1 ∨ i = 2 ∨ i = 3 by omega) with rfl | rfl | rfl | rfl
  . exact .inl rfl
  . exact .inr (.inl rfl)
  . exact .inr (.inr (.inl rfl))
  . exact .inr (.inr (.inr rfl))
theorem kind_mem {k : Int} (h : kindG k) : k ∈ ([1, 2, 4, 7] : List Int) := by
  rcases h with rfl | rfl | rfl | rfl <;> decide
theorem of_head {k : Int} {s : List Int} (h : hasP (headG k) s = true) : s = headG k ++ s.drop (headG k).length := by
  obtain ⟨r, rfl⟩ := hasP_iff.1 h
  rw [List.drop_left]
theorem ip_len {t : List Int} (h : ipD t = true) : t.length ≤ 16 := by
  have := of_decide_eq_true h
  omega
theorem name_len {t : List Int} (h : namedD t = true) : t.length ≤ 1300 ∧ (textN (guessD t)).length ≤ 2112 := by
  have h1 := named_text h
  have h2 := encN_len h1.1
  rw [h1.2] at h2
  have h3 := txtN_len (mayN_args h1.1).2 _ (Nat.le_refl _)
  rw [txtN_all (Nat.le_refl _)] at h3
  have := (mayN_args h1.1).1
  exact ⟨h2, by omega⟩
theorem show_len {k : Int} {t : List Int} (h : mayG k t = true) : (showG k t).length ≤ t.length + 3000 ∧ t.length ≤ (showG k t).length + 1300 := by
  rcases may_kinds h with ⟨rfl, h1⟩ | ⟨rfl, h1⟩ | ⟨rfl, h1⟩ | ⟨rfl, h1⟩
  . simp [showG]; omega
  . simp [showG]; omega
  . have := name_len h1
    simp [showG]; omega
  . have := ip_len h1
    have h2 := hex_len t
    simp [showG, h2]; omega
end Go.Pl
