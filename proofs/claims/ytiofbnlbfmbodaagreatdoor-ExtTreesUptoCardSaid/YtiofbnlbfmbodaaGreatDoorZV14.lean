import Derived.Test.YtiofbnlbfmbodaaGreatDoorZV13
import Derived.Test.YtiofbnlbfmbodaaGreatDoorZV12
import Derived.Lib.BitFns
set_option linter.unusedVariables false
set_option linter.unusedSimpArgs false
namespace Go.Pl
open Go.Vc
set_option linter.unusedVariables false
set_option linter.unusedSimpArgs false
set_option maxRecDepth 20000
def namedD (b : List Int) : Bool := mayN (guessD b) && decide (encN (guessD b) = b)
theorem named_iff {b : List Int} : namedD b = true ↔ ∃ m, mayN m = true ∧ encN m = b := by
  rw [namedD, Bool.and_eq_true, decide_eq_true_eq]
  constructor
  . rintro ⟨h1, h2⟩
    exact ⟨_, h1, h2⟩
  . rintro ⟨m, hm, rfl⟩
    rw [guess_enc hm]
    exact ⟨hm, rfl⟩
theorem dec_named {b : List Int} {l : List AttrT} {e : Int} (h : decQ b l e = true) : decide (e = 0) = namedD b ∧ (namedD b = true → l = guessD b ∧ e = 0) := by
  have key : namedD b = true → l = guessD b ∧ e = 0 := by
    intro hn
    rw [namedD, Bool.and_eq_true, decide_eq_true_eq] at hn
    rw [← hn.2] at h
    exact decQ_of hn.1 h
  refine ⟨?_, key⟩
  cases hb : namedD b with
  | true => rw [(key hb).2]; rfl
  | false =>
    rw [decide_eq_false_iff_not]
    rintro rfl
    have := decQ_ok h
    rw [named_iff.2 ⟨l, this⟩] at hb
    cases hb
def mayG (k : Int) (t : List Int) : Bool :=
  if k = 1 then emailD t else if k = 2 then dnsD t || wildD t else if k = 4 then namedD t else if k = 7 then ipD t else false
theorem all_mp {E : List (Int × Nat × List Int)} {Q : List (Int × Nat × List Int) × Unit → Prop} : (∀ y : List (Int × Nat × List Int) × Unit, Kd.wf (Kd.mp (Kd.pair Kd.fn Kd.str)) y.1 → y.1 = E → Q y) ↔ (Kd.wf (Kd.mp (Kd.pair Kd.fn Kd.str)) E → Q (E, ())) :=
  ⟨fun h hw => h (E, ()) hw rfl, fun h y hw e => by obtain ⟨a, u⟩ := y; cases e; exact h hw⟩
def kindG (k : Int) : Prop := k = 1 ∨ k = 2 ∨ k = 4 ∨ k = 7
end Go.Pl
