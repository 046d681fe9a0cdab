/- Walks. -/
import Derived.Test.YtgikinbkhhfgiaaZW
namespace Go.Proofs.Ytgikinbkhhfgiaa
open Go Go.Vc Go.Proofs
set_option linter.unusedVariables false
set_option linter.unusedSimpArgs false
theorem bitI (n i : Nat) (hi : i ≤ 16) : ((n : Int).fdiv (2 ^ min i 16)).tmod 2 = ((n / 2 ^ i % 2 : Nat) : Int) := by
  rw [Nat.min_eq_left hi, Int.fdiv_eq_ediv_of_nonneg _ (Int.le_of_lt (Int.pow_pos (by decide))), show (2 : Int) ^ i = ((2 ^ i : Nat) : Int) by simp, ← Int.natCast_ediv, Int.tmod_eq_emod_of_nonneg (Int.natCast_nonneg _)]
  rfl
theorem lastb_add (n j : Nat) : lastb n (8 + j) = if lastb (n / 256) j = 0 then lastb n 8 else 8 + lastb (n / 256) j := by
  induction j with
  | zero => rfl
  | succ j ih =>
    rw [← Nat.add_assoc]
    simp only [lastb]
    rw [show n / 2 ^ (8 + j) = n / 256 / 2 ^ j by rw [Nat.pow_add, Nat.div_div_eq_div_mul]]
    by_cases h : n / 256 / 2 ^ j % 2 = 1
    · simp only [if_pos h]
      rw [if_neg (by omega)]
      omega
    · simp only [if_neg h]
      exact ih
theorem lastb_pos (b : Nat) (h : b < 256) (h0 : b ≠ 0) : lastb b 8 ≠ 0 := by
  have key : ∀ b : Fin 256, b.val ≠ 0 → lastb b.val 8 ≠ 0 := by decide +kernel
  exact key ⟨b, h⟩ h0
theorem lastb_le (n : Nat) : ∀ j, lastb n j ≤ j
  | 0 => Nat.le_refl _
  | j + 1 => by
    simp only [lastb]
    split
    · exact Nat.le_refl _
    · exact Nat.le_succ_of_le (lastb_le n j)
theorem lastb16 (n : Nat) (h : n < 65536) : lastb n 16 = if n < 256 then lastb n 8 else 8 + lastb (n / 256) 8 := by
  rw [show 16 = 8 + 8 from rfl, lastb_add]
  by_cases h1 : n < 256
  · rw [if_pos h1, if_pos (by rw [Nat.div_eq_of_lt h1]; decide)]
  · rw [if_neg h1, if_neg (lastb_pos _ (by omega) (by omega))]
theorem prev_last (b : Nat) (h : b < 256) : prev b (lastb b 8) = prev b 8 := by
  have key : ∀ b : Fin 256, prev b.val (lastb b.val 8) = prev b.val 8 := by decide +kernel
  exact key ⟨b, h⟩
theorem prev_lt (b : Nat) (h : b < 256) : prev b 8 < 256 := by
  have key : ∀ b : Fin 256, prev b.val 8 < 256 := by decide +kernel
  exact key ⟨b, h⟩
theorem or_bit (b j : Nat) (h : b < 256) (hj : j < 8) (hb : b / 2 ^ j % 2 = 1) :
    IntKind.wrap .u8 ↑(BitVec.ofInt 8 (prev b j : Int) ||| BitVec.ofInt 8 (Int.fdiv 128 (2 ^ min j 8))).toNat = (prev b (j + 1) : Int) := by
  have key : ∀ b : Fin 256, ∀ j : Fin 8, b.val / 2 ^ j.val % 2 = 1 → IntKind.wrap .u8 ↑(BitVec.ofInt 8 (prev b.val j.val : Int) ||| BitVec.ofInt 8 (Int.fdiv 128 (2 ^ min j.val 8))).toNat = (prev b.val (j.val + 1) : Int) := by decide +kernel
  exact key ⟨b, h⟩ ⟨j, hj⟩ hb
theorem prev_skip (b j : Nat) (hb : ¬ b / 2 ^ j % 2 = 1) : prev b (j + 1) = prev b j := by
  simp [prev, hb]
/-- The bytes behind i bits. -/
def bytesAt (n i : Nat) : List Int :=
  if i = 0 then [] else if i ≤ 8 then [(prev (n % 256) i : Int)] else [(prev (n % 256) 8 : Int), (prev (n / 256) (i - 8) : Int)]
theorem bit_lo (n i : Nat) (h : i < 8) : n / 2 ^ i % 2 = n % 256 / 2 ^ i % 2 := by
  match i, h with
  | 0, _ | 1, _ | 2, _ | 3, _ | 4, _ | 5, _ | 6, _ | 7, _ => simp <;> omega
theorem bit_hi (n i : Nat) (h : 8 ≤ i) : n / 2 ^ i % 2 = n / 256 / 2 ^ (i - 8) % 2 := by
  conv => lhs; rw [show i = 8 + (i - 8) by omega, Nat.pow_add, ← Nat.div_div_eq_div_mul]
/-- One more bit. -/
theorem bytes_set (n i : Nat) (hn : n < 65536) (hi : i < 16) (z : List Int) (hz : z = if i % 8 = 0 then bytesAt n i ++ [0] else bytesAt n i) (hb : n / 2 ^ i % 2 = 1) :
    z.set (i / 8) (IntKind.wrap .u8 ↑(BitVec.ofInt 8 (z.getD (i / 8) 0) ||| BitVec.ofInt 8 (Int.fdiv 128 (2 ^ min (i % 8) 8))).toNat) = bytesAt n (i + 1) ∧ i / 8 < z.length := by
  subst hz
  have lo : ∀ j, j < 8 → n / 2 ^ j % 2 = 1 → IntKind.wrap .u8 ↑(BitVec.ofInt 8 (prev (n % 256) j : Int) ||| BitVec.ofInt 8 (Int.fdiv 128 (2 ^ min j 8))).toNat = (prev (n % 256) (j + 1) : Int) :=
    fun j hj h => or_bit (n % 256) j (by omega) hj (by rw [← bit_lo n j hj]; exact h)
  have hi2 : ∀ j, j < 8 → n / 2 ^ (8 + j) % 2 = 1 → IntKind.wrap .u8 ↑(BitVec.ofInt 8 (prev (n / 256) j : Int) ||| BitVec.ofInt 8 (Int.fdiv 128 (2 ^ min j 8))).toNat = (prev (n / 256) (j + 1) : Int) :=
    fun j hj h => or_bit (n / 256) j (by omega) hj (by have := bit_hi n (8 + j) (by omega); rw [Nat.add_sub_cancel_left] at this; rw [← this]; exact h)
  match i, hi with
  | 0, _ => exact ⟨by simpa [bytesAt, prev] using lo 0 (by decide) hb, by simp [bytesAt]⟩
  | 1, _ => exact ⟨by simpa [bytesAt] using lo 1 (by decide) hb, by simp [bytesAt]⟩
  | 2, _ => exact ⟨by simpa [bytesAt] using lo 2 (by decide) hb, by simp [bytesAt]⟩
  | 3, _ => exact ⟨by simpa [bytesAt] using lo 3 (by decide) hb, by simp [bytesAt]⟩
  | 4, _ => exact ⟨by simpa [bytesAt] using lo 4 (by decide) hb, by simp [bytesAt]⟩
  | 5, _ => exact ⟨by simpa [bytesAt] using lo 5 (by decide) hb, by simp [bytesAt]⟩
  | 6, _ => exact ⟨by simpa [bytesAt] using lo 6 (by decide) hb, by simp [bytesAt]⟩
  | 7, _ => exact ⟨by simpa [bytesAt] using lo 7 (by decide) hb, by simp [bytesAt]⟩
  | 8, _ => exact ⟨by simpa [bytesAt, prev] using hi2 0 (by decide) hb, by simp [bytesAt]⟩
  | 9, _ => exact ⟨by simpa [bytesAt] using hi2 1 (by decide) hb, by simp [bytesAt]⟩
  | 10, _ => exact ⟨by simpa [bytesAt] using hi2 2 (by decide) hb, by simp [bytesAt]⟩
  | 11, _ => exact ⟨by simpa [bytesAt] using hi2 3 (by decide) hb, by simp [bytesAt]⟩
  | 12, _ => exact ⟨by simpa [bytesAt] using hi2 4 (by decide) hb, by simp [bytesAt]⟩
  | 13, _ => exact ⟨by simpa [bytesAt] using hi2 5 (by decide) hb, by simp [bytesAt]⟩
  | 14, _ => exact ⟨by simpa [bytesAt] using hi2 6 (by decide) hb, by simp [bytesAt]⟩
  | 15, _ => exact ⟨by simpa [bytesAt] using hi2 7 (by decide) hb, by simp [bytesAt]⟩
  | i + 16, h => exact absurd h (by omega)
theorem bytes_skip (n i : Nat) (hi : i < 16) (hb : ¬ n / 2 ^ i % 2 = 1) : (if i % 8 = 0 then bytesAt n i ++ [0] else bytesAt n i) = bytesAt n (i + 1) := by
  have lo : ∀ j, j < 8 → ¬ n / 2 ^ j % 2 = 1 → prev (n % 256) (j + 1) = prev (n % 256) j := fun j hj h => prev_skip _ _ (by rw [← bit_lo n j hj]; exact h)
  have hi2 : ∀ j, j < 8 → ¬ n / 2 ^ (8 + j) % 2 = 1 → prev (n / 256) (j + 1) = prev (n / 256) j :=
    fun j hj h => prev_skip _ _ (by have := bit_hi n (8 + j) (by omega); rw [Nat.add_sub_cancel_left] at this; rw [← this]; exact h)
  match i, hi with
  | 0, _ => have h : prev (n % 256) 1 = 0 := lo 0 (by decide) hb; simp [bytesAt, h]
  | 1, _ => simp [bytesAt, lo 1 (by decide) hb]
  | 2, _ => simp [bytesAt, lo 2 (by decide) hb]
  | 3, _ => simp [bytesAt, lo 3 (by decide) hb]
  | 4, _ => simp [bytesAt, lo 4 (by decide) hb]
  | 5, _ => simp [bytesAt, lo 5 (by decide) hb]
  | 6, _ => simp [bytesAt, lo 6 (by decide) hb]
  | 7, _ => simp [bytesAt, lo 7 (by decide) hb]
  | 8, _ => have h : prev (n / 256) 1 = 0 := hi2 0 (by decide) hb; simp [bytesAt, h]
  | 9, _ => simp [bytesAt, hi2 1 (by decide) hb]
  | 10, _ => simp [bytesAt, hi2 2 (by decide) hb]
  | 11, _ => simp [bytesAt, hi2 3 (by decide) hb]
  | 12, _ => simp [bytesAt, hi2 4 (by decide) hb]
  | 13, _ => simp [bytesAt, hi2 5 (by decide) hb]
  | 14, _ => simp [bytesAt, hi2 6 (by decide) hb]
  | 15, _ => simp [bytesAt, hi2 7 (by decide) hb]
  | i + 16, h => exact absurd h (by omega)
theorem flags_end (n : Nat) (hn : n < 65536) : (lastb n 16 = 0 → [IntKind.wrap .u8 0] ++ bytesAt n 0 = FlagsD n) ∧
    (lastb n 16 ≠ 0 → [IntKind.wrap .u8 (IntKind.wrap .i64 (7 - ((lastb n 16 : Int) - 1).tmod 8))] ++ bytesAt n (lastb n 16) = FlagsD n) := by
  rw [lastb16 n hn]
  refine ⟨fun h => ?_, fun h => ?_⟩
  · split at h
    · rename_i h1
      have h0 : n = 0 := by
        by_cases e : n = 0
        · exact e
        · exact absurd h (lastb_pos n h1 e)
      subst h0
      rfl
    · omega
  · split at h
    · rename_i h1
      have h0 : n ≠ 0 := fun e => h (by rw [e]; decide)
      have hl := lastb_le n 8
      rw [if_pos h1]
      have e1 : ((lastb n 8 : Int) - 1).tmod 8 = (lastb n 8 : Int) - 1 := by
        rw [Int.tmod_eq_emod_of_nonneg (by omega)]; omega
      have e2 : IntKind.wrap .u8 (IntKind.wrap .i64 (7 - ((lastb n 8 : Int) - 1))) = 8 - (lastb n 8 : Int) := by
        simp [IntKind.wrap, IntKind.signed, IntKind.bits]; omega
      rw [e1, e2]
      simp only [FlagsD, if_neg h0, if_pos h1, bytesAt, if_neg h, if_pos hl, Nat.mod_eq_of_lt h1, prev_last n h1]
      rfl
    · rename_i h1
      have hp := lastb_pos (n / 256) (by omega) (by omega)
      have hl := lastb_le (n / 256) 8
      rw [if_neg h1]
      have e1 : (((8 + lastb (n / 256) 8 : Nat) : Int) - 1).tmod 8 = (lastb (n / 256) 8 : Int) - 1 := by
        rw [Int.tmod_eq_emod_of_nonneg (by omega)]; omega
      have e2 : IntKind.wrap .u8 (IntKind.wrap .i64 (7 - ((lastb (n / 256) 8 : Int) - 1))) = 8 - (lastb (n / 256) 8 : Int) := by
        simp [IntKind.wrap, IntKind.signed, IntKind.bits]; omega
      rw [e1, e2]
      simp only [FlagsD, if_neg (show n ≠ 0 by omega), if_neg h1, bytesAt, if_neg (show 8 + lastb (n / 256) 8 ≠ 0 by omega), if_neg (show ¬ 8 + lastb (n / 256) 8 ≤ 8 by omega), Nat.add_sub_cancel_left, prev_last (n / 256) (by omega)]
      rfl
theorem u16_nat {x : Int} (h : Kd.wf (.int .u16) x) : ∃ n : Nat, x = n ∧ n < 65536 := by
  have h : InR .u16 x := h
  simp [InR, IntKind.min, IntKind.max, IntKind.signed, IntKind.bits] at h
  exact ⟨x.toNat, by omega, by omega⟩
theorem wrapk (i : Int) (h0 : -100 ≤ i) (h1 : i ≤ 100) : IntKind.wrap .i64 i = i := by rw [IntKind.wrap_i64]; omega
theorem nat_le_of {n : Nat} (h : n ≤ 100) : n + 1 ≤ 140737488355328 ∧ n + 1 ≤ 9223372036854775807 ∧ 1 + n ≤ 140737488355328 ∧ 1 + n ≤ 9223372036854775807 := by omega
theorem bytesAt_len (n i : Nat) : (bytesAt n i).length ≤ 2 := by
  unfold bytesAt; split
  · simp
  · split <;> simp
theorem u16_and (n : Nat) (h : n < 65536) : IntKind.wrap .u16 ↑(BitVec.ofInt 16 (n : Int) &&& BitVec.ofInt 16 255).toNat = ((n % 256 : Nat) : Int) := by
  have e : (BitVec.ofInt 16 (n : Int) &&& BitVec.ofInt 16 255).toNat = n % 256 := by
    rw [BitVec.toNat_and, BitVec.ofInt_natCast, BitVec.toNat_ofNat, Nat.mod_eq_of_lt (show n < 2 ^ 16 by omega), show (BitVec.ofInt 16 255).toNat = 2 ^ 8 - 1 from rfl, Nat.and_two_pow_sub_one_eq_mod]
  rw [e]
  simp [IntKind.wrap, IntKind.signed, IntKind.bits]
  omega
theorem u16_or (a b : Nat) (ha : a < 256) (hb : b < 256) : IntKind.wrap .u16 ↑(BitVec.ofInt 16 (IntKind.wrap .u16 (a : Int)) ||| BitVec.ofInt 16 (IntKind.wrap .u16 (IntKind.wrap .u16 (b : Int) * 2 ^ 8))).toNat = (a : Int) + 256 * (b : Int) := by
  have e1 : IntKind.wrap .u16 (a : Int) = (a : Nat) := by simp [IntKind.wrap, IntKind.signed, IntKind.bits]; omega
  have e2 : IntKind.wrap .u16 (IntKind.wrap .u16 (b : Int) * 2 ^ 8) = ((2 ^ 8 * b : Nat) : Int) := by simp [IntKind.wrap, IntKind.signed, IntKind.bits]; omega
  rw [e1, e2, BitVec.toNat_or, BitVec.ofInt_natCast, BitVec.ofInt_natCast, BitVec.toNat_ofNat, BitVec.toNat_ofNat, Nat.mod_eq_of_lt (show a < 2 ^ 16 by omega), Nat.mod_eq_of_lt (show 2 ^ 8 * b < 2 ^ 16 by omega), Nat.or_comm, ← Nat.two_pow_add_eq_or_of_lt (show a < 2 ^ 8 by omega)]
  simp [IntKind.wrap, IntKind.signed, IntKind.bits]
  omega
theorem fdiv8 (n : Nat) : ((n : Int).fdiv (2 ^ 8)) = ((n / 256 : Nat) : Int) := by
  rw [Int.fdiv_eq_ediv_of_nonneg _ (by decide)]; rfl
def t18 : Prop :=
  ∀ (x : Int × Unit),
    Kd.wf (Kd.int IntKind.u16) x.fst ∧ True →
      True →
        (0 : Int) ≤ (8 : Int) ∧
          ((0 : Int) ≤ Int.fdiv x.fst ((2 : Int) ^ (8 : Nat)) ∧ Int.fdiv x.fst ((2 : Int) ^ (8 : Nat)) < (↑(256 : Nat) : Int)) ∧
            ((0 : Int) ≤ IntKind.wrap IntKind.u16 (↑(BitVec.toNat (BitVec.ofInt (16 : Nat) x.fst &&& BitVec.ofInt (16 : Nat) (255 : Int))) : Int) ∧
                IntKind.wrap IntKind.u16 (↑(BitVec.toNat (BitVec.ofInt (16 : Nat) x.fst &&& BitVec.ofInt (16 : Nat) (255 : Int))) : Int) < (↑(256 : Nat) : Int)) ∧
              (0 : Int) ≤ (8 : Int) ∧
                IntKind.wrap IntKind.u16
                    (↑(BitVec.toNat
                          (BitVec.ofInt (16 : Nat)
                              (IntKind.wrap IntKind.u16
                                (List.getD
                                  (bs
                                    {
                                      data :=
                                        List.toArray
                                          (List.append
                                            (List.append
                                              [(0 : UInt8), (128 : UInt8), (64 : UInt8), (192 : UInt8), (32 : UInt8), (160 : UInt8), (96 : UInt8), (224 : UInt8), (16 : UInt8), (144 : UInt8),
                                                (80 : UInt8), (208 : UInt8), (48 : UInt8), (176 : UInt8), (112 : UInt8), (240 : UInt8), (8 : UInt8), (136 : UInt8), (72 : UInt8), (200 : UInt8),
                                                (40 : UInt8), (168 : UInt8), (104 : UInt8), (232 : UInt8), (24 : UInt8), (152 : UInt8), (88 : UInt8), (216 : UInt8), (56 : UInt8), (184 : UInt8),
                                                (120 : UInt8), (248 : UInt8), (4 : UInt8), (132 : UInt8), (68 : UInt8), (196 : UInt8), (36 : UInt8), (164 : UInt8), (100 : UInt8), (228 : UInt8),
                                                (20 : UInt8), (148 : UInt8), (84 : UInt8), (212 : UInt8), (52 : UInt8), (180 : UInt8), (116 : UInt8), (244 : UInt8), (12 : UInt8), (140 : UInt8),
                                                (76 : UInt8), (204 : UInt8), (44 : UInt8), (172 : UInt8), (108 : UInt8), (236 : UInt8), (28 : UInt8), (156 : UInt8), (92 : UInt8), (220 : UInt8),
                                                (60 : UInt8), (188 : UInt8), (124 : UInt8), (252 : UInt8)]
                                              [(2 : UInt8), (130 : UInt8), (66 : UInt8), (194 : UInt8), (34 : UInt8), (162 : UInt8), (98 : UInt8), (226 : UInt8), (18 : UInt8), (146 : UInt8),
                                                (82 : UInt8), (210 : UInt8), (50 : UInt8), (178 : UInt8), (114 : UInt8), (242 : UInt8), (10 : UInt8), (138 : UInt8), (74 : UInt8), (202 : UInt8),
                                                (42 : UInt8), (170 : UInt8), (106 : UInt8), (234 : UInt8), (26 : UInt8), (154 : UInt8), (90 : UInt8), (218 : UInt8), (58 : UInt8), (186 : UInt8),
                                                (122 : UInt8), (250 : UInt8), (6 : UInt8), (134 : UInt8), (70 : UInt8), (198 : UInt8), (38 : UInt8), (166 : UInt8), (102 : UInt8), (230 : UInt8),
                                                (22 : UInt8), (150 : UInt8), (86 : UInt8), (214 : UInt8), (54 : UInt8), (182 : UInt8), (118 : UInt8), (246 : UInt8), (14 : UInt8), (142 : UInt8),
                                                (78 : UInt8), (206 : UInt8), (46 : UInt8), (174 : UInt8), (110 : UInt8), (238 : UInt8), (30 : UInt8), (158 : UInt8), (94 : UInt8), (222 : UInt8),
                                                (62 : UInt8), (190 : UInt8), (126 : UInt8), (254 : UInt8)])
                                            (List.append
                                              [(1 : UInt8), (129 : UInt8), (65 : UInt8), (193 : UInt8), (33 : UInt8), (161 : UInt8), (97 : UInt8), (225 : UInt8), (17 : UInt8), (145 : UInt8),
                                                (81 : UInt8), (209 : UInt8), (49 : UInt8), (177 : UInt8), (113 : UInt8), (241 : UInt8), (9 : UInt8), (137 : UInt8), (73 : UInt8), (201 : UInt8),
                                                (41 : UInt8), (169 : UInt8), (105 : UInt8), (233 : UInt8), (25 : UInt8), (153 : UInt8), (89 : UInt8), (217 : UInt8), (57 : UInt8), (185 : UInt8),
                                                (121 : UInt8), (249 : UInt8), (5 : UInt8), (133 : UInt8), (69 : UInt8), (197 : UInt8), (37 : UInt8), (165 : UInt8), (101 : UInt8), (229 : UInt8),
                                                (21 : UInt8), (149 : UInt8), (85 : UInt8), (213 : UInt8), (53 : UInt8), (181 : UInt8), (117 : UInt8), (245 : UInt8), (13 : UInt8), (141 : UInt8),
                                                (77 : UInt8), (205 : UInt8), (45 : UInt8), (173 : UInt8), (109 : UInt8), (237 : UInt8), (29 : UInt8), (157 : UInt8), (93 : UInt8), (221 : UInt8),
                                                (61 : UInt8), (189 : UInt8), (125 : UInt8), (253 : UInt8)]
                                              [(3 : UInt8), (131 : UInt8), (67 : UInt8), (195 : UInt8), (35 : UInt8), (163 : UInt8), (99 : UInt8), (227 : UInt8), (19 : UInt8), (147 : UInt8),
                                                (83 : UInt8), (211 : UInt8), (51 : UInt8), (179 : UInt8), (115 : UInt8), (243 : UInt8), (11 : UInt8), (139 : UInt8), (75 : UInt8), (203 : UInt8),
                                                (43 : UInt8), (171 : UInt8), (107 : UInt8), (235 : UInt8), (27 : UInt8), (155 : UInt8), (91 : UInt8), (219 : UInt8), (59 : UInt8), (187 : UInt8),
                                                (123 : UInt8), (251 : UInt8), (7 : UInt8), (135 : UInt8), (71 : UInt8), (199 : UInt8), (39 : UInt8), (167 : UInt8), (103 : UInt8), (231 : UInt8),
                                                (23 : UInt8), (151 : UInt8), (87 : UInt8), (215 : UInt8), (55 : UInt8), (183 : UInt8), (119 : UInt8), (247 : UInt8), (15 : UInt8), (143 : UInt8),
                                                (79 : UInt8), (207 : UInt8), (47 : UInt8), (175 : UInt8), (111 : UInt8), (239 : UInt8), (31 : UInt8), (159 : UInt8), (95 : UInt8), (223 : UInt8),
                                                (63 : UInt8), (191 : UInt8), (127 : UInt8), (255 : UInt8)])) })
                                  (Int.toNat (Int.fdiv x.fst ((2 : Int) ^ (8 : Nat)))) (0 : Int))) |||
                            BitVec.ofInt (16 : Nat)
                              (IntKind.wrap IntKind.u16
                                (IntKind.wrap IntKind.u16
                                    (List.getD
                                      (bs
                                        {
                                          data :=
                                            List.toArray
                                              (List.append
                                                (List.append
                                                  [(0 : UInt8), (128 : UInt8), (64 : UInt8), (192 : UInt8), (32 : UInt8), (160 : UInt8), (96 : UInt8), (224 : UInt8), (16 : UInt8), (144 : UInt8),
                                                    (80 : UInt8), (208 : UInt8), (48 : UInt8), (176 : UInt8), (112 : UInt8), (240 : UInt8), (8 : UInt8), (136 : UInt8), (72 : UInt8), (200 : UInt8),
                                                    (40 : UInt8), (168 : UInt8), (104 : UInt8), (232 : UInt8), (24 : UInt8), (152 : UInt8), (88 : UInt8), (216 : UInt8), (56 : UInt8), (184 : UInt8),
                                                    (120 : UInt8), (248 : UInt8), (4 : UInt8), (132 : UInt8), (68 : UInt8), (196 : UInt8), (36 : UInt8), (164 : UInt8), (100 : UInt8), (228 : UInt8),
                                                    (20 : UInt8), (148 : UInt8), (84 : UInt8), (212 : UInt8), (52 : UInt8), (180 : UInt8), (116 : UInt8), (244 : UInt8), (12 : UInt8), (140 : UInt8),
                                                    (76 : UInt8), (204 : UInt8), (44 : UInt8), (172 : UInt8), (108 : UInt8), (236 : UInt8), (28 : UInt8), (156 : UInt8), (92 : UInt8), (220 : UInt8),
                                                    (60 : UInt8), (188 : UInt8), (124 : UInt8), (252 : UInt8)]
                                                  [(2 : UInt8), (130 : UInt8), (66 : UInt8), (194 : UInt8), (34 : UInt8), (162 : UInt8), (98 : UInt8), (226 : UInt8), (18 : UInt8), (146 : UInt8),
                                                    (82 : UInt8), (210 : UInt8), (50 : UInt8), (178 : UInt8), (114 : UInt8), (242 : UInt8), (10 : UInt8), (138 : UInt8), (74 : UInt8), (202 : UInt8),
                                                    (42 : UInt8), (170 : UInt8), (106 : UInt8), (234 : UInt8), (26 : UInt8), (154 : UInt8), (90 : UInt8), (218 : UInt8), (58 : UInt8), (186 : UInt8),
                                                    (122 : UInt8), (250 : UInt8), (6 : UInt8), (134 : UInt8), (70 : UInt8), (198 : UInt8), (38 : UInt8), (166 : UInt8), (102 : UInt8), (230 : UInt8),
                                                    (22 : UInt8), (150 : UInt8), (86 : UInt8), (214 : UInt8), (54 : UInt8), (182 : UInt8), (118 : UInt8), (246 : UInt8), (14 : UInt8), (142 : UInt8),
                                                    (78 : UInt8), (206 : UInt8), (46 : UInt8), (174 : UInt8), (110 : UInt8), (238 : UInt8), (30 : UInt8), (158 : UInt8), (94 : UInt8), (222 : UInt8),
                                                    (62 : UInt8), (190 : UInt8), (126 : UInt8), (254 : UInt8)])
                                                (List.append
                                                  [(1 : UInt8), (129 : UInt8), (65 : UInt8), (193 : UInt8), (33 : UInt8), (161 : UInt8), (97 : UInt8), (225 : UInt8), (17 : UInt8), (145 : UInt8),
                                                    (81 : UInt8), (209 : UInt8), (49 : UInt8), (177 : UInt8), (113 : UInt8), (241 : UInt8), (9 : UInt8), (137 : UInt8), (73 : UInt8), (201 : UInt8),
                                                    (41 : UInt8), (169 : UInt8), (105 : UInt8), (233 : UInt8), (25 : UInt8), (153 : UInt8), (89 : UInt8), (217 : UInt8), (57 : UInt8), (185 : UInt8),
                                                    (121 : UInt8), (249 : UInt8), (5 : UInt8), (133 : UInt8), (69 : UInt8), (197 : UInt8), (37 : UInt8), (165 : UInt8), (101 : UInt8), (229 : UInt8),
                                                    (21 : UInt8), (149 : UInt8), (85 : UInt8), (213 : UInt8), (53 : UInt8), (181 : UInt8), (117 : UInt8), (245 : UInt8), (13 : UInt8), (141 : UInt8),
                                                    (77 : UInt8), (205 : UInt8), (45 : UInt8), (173 : UInt8), (109 : UInt8), (237 : UInt8), (29 : UInt8), (157 : UInt8), (93 : UInt8), (221 : UInt8),
                                                    (61 : UInt8), (189 : UInt8), (125 : UInt8), (253 : UInt8)]
                                                  [(3 : UInt8), (131 : UInt8), (67 : UInt8), (195 : UInt8), (35 : UInt8), (163 : UInt8), (99 : UInt8), (227 : UInt8), (19 : UInt8), (147 : UInt8),
                                                    (83 : UInt8), (211 : UInt8), (51 : UInt8), (179 : UInt8), (115 : UInt8), (243 : UInt8), (11 : UInt8), (139 : UInt8), (75 : UInt8), (203 : UInt8),
                                                    (43 : UInt8), (171 : UInt8), (107 : UInt8), (235 : UInt8), (27 : UInt8), (155 : UInt8), (91 : UInt8), (219 : UInt8), (59 : UInt8), (187 : UInt8),
                                                    (123 : UInt8), (251 : UInt8), (7 : UInt8), (135 : UInt8), (71 : UInt8), (199 : UInt8), (39 : UInt8), (167 : UInt8), (103 : UInt8), (231 : UInt8),
                                                    (23 : UInt8), (151 : UInt8), (87 : UInt8), (215 : UInt8), (55 : UInt8), (183 : UInt8), (119 : UInt8), (247 : UInt8), (15 : UInt8), (143 : UInt8),
                                                    (79 : UInt8), (207 : UInt8), (47 : UInt8), (175 : UInt8), (111 : UInt8), (239 : UInt8), (31 : UInt8), (159 : UInt8), (95 : UInt8), (223 : UInt8),
                                                    (63 : UInt8), (191 : UInt8), (127 : UInt8), (255 : UInt8)])) })
                                      (Int.toNat (IntKind.wrap IntKind.u16 (↑(BitVec.toNat (BitVec.ofInt (16 : Nat) x.fst &&& BitVec.ofInt (16 : Nat) (255 : Int))) : Int))) (0 : Int)) *
                                  (2 : Int) ^ (8 : Nat))))) :
                      Int) =
                  (↑(prev (Int.toNat x.fst / (256 : Nat)) (8 : Nat)) : Int) + (256 : Int) * (↑(prev (Int.toNat x.fst % (256 : Nat)) (8 : Nat)) : Int)
theorem e18 : t18 = Con.vc c18 (mkEnv ty [] [0, 2]) {} Try.f18.ntmps Try.f18.results.toList (bodyOf Try.f18) := by kernel_rfl
theorem k18 : t18 := by
  unfold t18
  rintro ⟨x, _⟩ hx hp
  obtain ⟨n, rfl, hn⟩ := u16_nat hx.1
  simp only [true_and, and_true, eq_self_iff_true, implies_true, reduceCtorEq, false_implies, true_implies, decide_eq_true_eq, decide_eq_false_iff_not, beq_self_eq_true, Bool.not_eq_true', ne_eq, Decidable.not_not, List.nil_append, List.length_singleton, List.length_cons, List.length_nil, Nat.zero_add, Nat.add_zero, Nat.mul_one, and_self, beq_iff_eq, Bool.not_true, Bool.not_false, Bool.not_eq_false', Bool.cond_false_right, Bool.and_eq_true, imp_self, Bool.not_eq_true, Bool.cond_true_left, Bool.or_eq_true, fdiv8, u16_and n hn, Int.toNat_natCast]
  have tab : ∀ i : Fin 256, List.getD (bs { data := List.toArray (List.append (List.append [(0 : UInt8), (128 : UInt8), (64 : UInt8), (192 : UInt8), (32 : UInt8), (160 : UInt8), (96 : UInt8), (224 : UInt8), (16 : UInt8), (144 : UInt8), (80 : UInt8), (208 : UInt8), (48 : UInt8), (176 : UInt8), (112 : UInt8), (240 : UInt8), (8 : UInt8), (136 : UInt8), (72 : UInt8), (200 : UInt8), (40 : UInt8), (168 : UInt8), (104 : UInt8), (232 : UInt8), (24 : UInt8), (152 : UInt8), (88 : UInt8), (216 : UInt8), (56 : UInt8), (184 : UInt8), (120 : UInt8), (248 : UInt8), (4 : UInt8), (132 : UInt8), (68 : UInt8), (196 : UInt8), (36 : UInt8), (164 : UInt8), (100 : UInt8), (228 : UInt8), (20 : UInt8), (148 : UInt8), (84 : UInt8), (212 : UInt8), (52 : UInt8), (180 : UInt8), (116 : UInt8), (244 : UInt8), (12 : UInt8), (140 : UInt8), (76 : UInt8), (204 : UInt8), (44 : UInt8), (172 : UInt8), (108 : UInt8), (236 : UInt8), (28 : UInt8), (156 : UInt8), (92 : UInt8), (220 : UInt8), (60 : UInt8), (188 : UInt8), (124 : UInt8), (252 : UInt8)] [(2 : UInt8), (130 : UInt8), (66 : UInt8), (194 : UInt8), (34 : UInt8), (162 : UInt8), (98 : UInt8), (226 : UInt8), (18 : UInt8), (146 : UInt8), (82 : UInt8), (210 : UInt8), (50 : UInt8), (178 : UInt8), (114 : UInt8), (242 : UInt8), (10 : UInt8), (138 : UInt8), (74 : UInt8), (202 : UInt8), (42 : UInt8), (170 : UInt8), (106 : UInt8), (234 : UInt8), (26 : UInt8), (154 : UInt8), (90 : UInt8), (218 : UInt8), (58 : UInt8), (186 : UInt8), (122 : UInt8), (250 : UInt8), (6 : UInt8), (134 : UInt8), (70 : UInt8), (198 : UInt8), (38 : UInt8), (166 : UInt8), (102 : UInt8), (230 : UInt8), (22 : UInt8), (150 : UInt8), (86 : UInt8), (214 : UInt8), (54 : UInt8), (182 : UInt8), (118 : UInt8), (246 : UInt8), (14 : UInt8), (142 : UInt8), (78 : UInt8), (206 : UInt8), (46 : UInt8), (174 : UInt8), (110 : UInt8), (238 : UInt8), (30 : UInt8), (158 : UInt8), (94 : UInt8), (222 : UInt8), (62 : UInt8), (190 : UInt8), (126 : UInt8), (254 : UInt8)]) (List.append [(1 : UInt8), (129 : UInt8), (65 : UInt8), (193 : UInt8), (33 : UInt8), (161 : UInt8), (97 : UInt8), (225 : UInt8), (17 : UInt8), (145 : UInt8), (81 : UInt8), (209 : UInt8), (49 : UInt8), (177 : UInt8), (113 : UInt8), (241 : UInt8), (9 : UInt8), (137 : UInt8), (73 : UInt8), (201 : UInt8), (41 : UInt8), (169 : UInt8), (105 : UInt8), (233 : UInt8), (25 : UInt8), (153 : UInt8), (89 : UInt8), (217 : UInt8), (57 : UInt8), (185 : UInt8), (121 : UInt8), (249 : UInt8), (5 : UInt8), (133 : UInt8), (69 : UInt8), (197 : UInt8), (37 : UInt8), (165 : UInt8), (101 : UInt8), (229 : UInt8), (21 : UInt8), (149 : UInt8), (85 : UInt8), (213 : UInt8), (53 : UInt8), (181 : UInt8), (117 : UInt8), (245 : UInt8), (13 : UInt8), (141 : UInt8), (77 : UInt8), (205 : UInt8), (45 : UInt8), (173 : UInt8), (109 : UInt8), (237 : UInt8), (29 : UInt8), (157 : UInt8), (93 : UInt8), (221 : UInt8), (61 : UInt8), (189 : UInt8), (125 : UInt8), (253 : UInt8)] [(3 : UInt8), (131 : UInt8), (67 : UInt8), (195 : UInt8), (35 : UInt8), (163 : UInt8), (99 : UInt8), (227 : UInt8), (19 : UInt8), (147 : UInt8), (83 : UInt8), (211 : UInt8), (51 : UInt8), (179 : UInt8), (115 : UInt8), (243 : UInt8), (11 : UInt8), (139 : UInt8), (75 : UInt8), (203 : UInt8), (43 : UInt8), (171 : UInt8), (107 : UInt8), (235 : UInt8), (27 : UInt8), (155 : UInt8), (91 : UInt8), (219 : UInt8), (59 : UInt8), (187 : UInt8), (123 : UInt8), (251 : UInt8), (7 : UInt8), (135 : UInt8), (71 : UInt8), (199 : UInt8), (39 : UInt8), (167 : UInt8), (103 : UInt8), (231 : UInt8), (23 : UInt8), (151 : UInt8), (87 : UInt8), (215 : UInt8), (55 : UInt8), (183 : UInt8), (119 : UInt8), (247 : UInt8), (15 : UInt8), (143 : UInt8), (79 : UInt8), (207 : UInt8), (47 : UInt8), (175 : UInt8), (111 : UInt8), (239 : UInt8), (31 : UInt8), (159 : UInt8), (95 : UInt8), (223 : UInt8), (63 : UInt8), (191 : UInt8), (127 : UInt8), (255 : UInt8)])) }) i.val (0 : Int) = (prev i.val 8 : Int) := by decide +kernel
  rw [tab ⟨n / 256, by omega⟩, tab ⟨n % 256, by omega⟩]
  exact ⟨by decide, by omega, by omega, by decide, u16_or _ _ (prev_lt _ (by omega)) (prev_lt _ (by omega))⟩
theorem h18 : c18.ok Try.prog 18 := con_ok (E := mkEnv ty [] [0, 2]) (H := {}) (mkEnv_ok _ tyOk (by kernel_rfl) trivial) (by kernel_rfl) (by kernel_rfl) (Eq.mp e18 k18)

def t19 : Prop :=
  ∀ (x : Int × Unit),
    Kd.wf (Kd.int IntKind.u16) x.fst ∧ True →
      True →
        (decide ((256 : Int) ≤ x.fst) = true →
            (0 : Int) ≤ (8 : Int) ∧
              ((0 : Int) ≤ IntKind.wrap IntKind.u8 (Int.fdiv x.fst ((2 : Int) ^ (8 : Nat))) ∧ IntKind.wrap IntKind.u8 (Int.fdiv x.fst ((2 : Int) ^ (8 : Nat))) < (↑(256 : Nat) : Int)) ∧
                IntKind.wrap IntKind.i64
                    ((8 : Int) +
                      IntKind.wrap IntKind.i64
                        (List.getD
                          (bs
                            {
                              data :=
                                List.toArray
                                  (List.append
                                    (List.append
                                      [(0 : UInt8), (1 : UInt8), (2 : UInt8), (2 : UInt8), (3 : UInt8), (3 : UInt8), (3 : UInt8), (3 : UInt8), (4 : UInt8), (4 : UInt8), (4 : UInt8), (4 : UInt8),
                                        (4 : UInt8), (4 : UInt8), (4 : UInt8), (4 : UInt8), (5 : UInt8), (5 : UInt8), (5 : UInt8), (5 : UInt8), (5 : UInt8), (5 : UInt8), (5 : UInt8), (5 : UInt8),
                                        (5 : UInt8), (5 : UInt8), (5 : UInt8), (5 : UInt8), (5 : UInt8), (5 : UInt8), (5 : UInt8), (5 : UInt8), (6 : UInt8), (6 : UInt8), (6 : UInt8), (6 : UInt8),
                                        (6 : UInt8), (6 : UInt8), (6 : UInt8), (6 : UInt8), (6 : UInt8), (6 : UInt8), (6 : UInt8), (6 : UInt8), (6 : UInt8), (6 : UInt8), (6 : UInt8), (6 : UInt8),
                                        (6 : UInt8), (6 : UInt8), (6 : UInt8), (6 : UInt8), (6 : UInt8), (6 : UInt8), (6 : UInt8), (6 : UInt8), (6 : UInt8), (6 : UInt8), (6 : UInt8), (6 : UInt8),
                                        (6 : UInt8), (6 : UInt8), (6 : UInt8), (6 : UInt8)]
                                      [(7 : UInt8), (7 : UInt8), (7 : UInt8), (7 : UInt8), (7 : UInt8), (7 : UInt8), (7 : UInt8), (7 : UInt8), (7 : UInt8), (7 : UInt8), (7 : UInt8), (7 : UInt8),
                                        (7 : UInt8), (7 : UInt8), (7 : UInt8), (7 : UInt8), (7 : UInt8), (7 : UInt8), (7 : UInt8), (7 : UInt8), (7 : UInt8), (7 : UInt8), (7 : UInt8), (7 : UInt8),
                                        (7 : UInt8), (7 : UInt8), (7 : UInt8), (7 : UInt8), (7 : UInt8), (7 : UInt8), (7 : UInt8), (7 : UInt8), (7 : UInt8), (7 : UInt8), (7 : UInt8), (7 : UInt8),
                                        (7 : UInt8), (7 : UInt8), (7 : UInt8), (7 : UInt8), (7 : UInt8), (7 : UInt8), (7 : UInt8), (7 : UInt8), (7 : UInt8), (7 : UInt8), (7 : UInt8), (7 : UInt8),
                                        (7 : UInt8), (7 : UInt8), (7 : UInt8), (7 : UInt8), (7 : UInt8), (7 : UInt8), (7 : UInt8), (7 : UInt8), (7 : UInt8), (7 : UInt8), (7 : UInt8), (7 : UInt8),
                                        (7 : UInt8), (7 : UInt8), (7 : UInt8), (7 : UInt8)])
                                    (List.append
                                      [(8 : UInt8), (8 : UInt8), (8 : UInt8), (8 : UInt8), (8 : UInt8), (8 : UInt8), (8 : UInt8), (8 : UInt8), (8 : UInt8), (8 : UInt8), (8 : UInt8), (8 : UInt8),
                                        (8 : UInt8), (8 : UInt8), (8 : UInt8), (8 : UInt8), (8 : UInt8), (8 : UInt8), (8 : UInt8), (8 : UInt8), (8 : UInt8), (8 : UInt8), (8 : UInt8), (8 : UInt8),
                                        (8 : UInt8), (8 : UInt8), (8 : UInt8), (8 : UInt8), (8 : UInt8), (8 : UInt8), (8 : UInt8), (8 : UInt8), (8 : UInt8), (8 : UInt8), (8 : UInt8), (8 : UInt8),
                                        (8 : UInt8), (8 : UInt8), (8 : UInt8), (8 : UInt8), (8 : UInt8), (8 : UInt8), (8 : UInt8), (8 : UInt8), (8 : UInt8), (8 : UInt8), (8 : UInt8), (8 : UInt8),
                                        (8 : UInt8), (8 : UInt8), (8 : UInt8), (8 : UInt8), (8 : UInt8), (8 : UInt8), (8 : UInt8), (8 : UInt8), (8 : UInt8), (8 : UInt8), (8 : UInt8), (8 : UInt8),
                                        (8 : UInt8), (8 : UInt8), (8 : UInt8), (8 : UInt8)]
                                      [(8 : UInt8), (8 : UInt8), (8 : UInt8), (8 : UInt8), (8 : UInt8), (8 : UInt8), (8 : UInt8), (8 : UInt8), (8 : UInt8), (8 : UInt8), (8 : UInt8), (8 : UInt8),
                                        (8 : UInt8), (8 : UInt8), (8 : UInt8), (8 : UInt8), (8 : UInt8), (8 : UInt8), (8 : UInt8), (8 : UInt8), (8 : UInt8), (8 : UInt8), (8 : UInt8), (8 : UInt8),
                                        (8 : UInt8), (8 : UInt8), (8 : UInt8), (8 : UInt8), (8 : UInt8), (8 : UInt8), (8 : UInt8), (8 : UInt8), (8 : UInt8), (8 : UInt8), (8 : UInt8), (8 : UInt8),
                                        (8 : UInt8), (8 : UInt8), (8 : UInt8), (8 : UInt8), (8 : UInt8), (8 : UInt8), (8 : UInt8), (8 : UInt8), (8 : UInt8), (8 : UInt8), (8 : UInt8), (8 : UInt8),
                                        (8 : UInt8), (8 : UInt8), (8 : UInt8), (8 : UInt8), (8 : UInt8), (8 : UInt8), (8 : UInt8), (8 : UInt8), (8 : UInt8), (8 : UInt8), (8 : UInt8), (8 : UInt8),
                                        (8 : UInt8), (8 : UInt8), (8 : UInt8), (8 : UInt8)])) })
                          (Int.toNat (IntKind.wrap IntKind.u8 (Int.fdiv x.fst ((2 : Int) ^ (8 : Nat))))) (0 : Int))) =
                  if x.fst < (256 : Int) then (↑(lastb (Int.toNat x.fst) (8 : Nat)) : Int) else (8 : Int) + (↑(lastb (Int.toNat x.fst / (256 : Nat)) (8 : Nat)) : Int)) ∧
          (decide ((256 : Int) ≤ x.fst) = false →
            ((0 : Int) ≤ IntKind.wrap IntKind.u8 x.fst ∧ IntKind.wrap IntKind.u8 x.fst < (↑(256 : Nat) : Int)) ∧
              IntKind.wrap IntKind.i64
                  ((0 : Int) +
                    IntKind.wrap IntKind.i64
                      (List.getD
                        (bs
                          {
                            data :=
                              List.toArray
                                (List.append
                                  (List.append
                                    [(0 : UInt8), (1 : UInt8), (2 : UInt8), (2 : UInt8), (3 : UInt8), (3 : UInt8), (3 : UInt8), (3 : UInt8), (4 : UInt8), (4 : UInt8), (4 : UInt8), (4 : UInt8),
                                      (4 : UInt8), (4 : UInt8), (4 : UInt8), (4 : UInt8), (5 : UInt8), (5 : UInt8), (5 : UInt8), (5 : UInt8), (5 : UInt8), (5 : UInt8), (5 : UInt8), (5 : UInt8),
                                      (5 : UInt8), (5 : UInt8), (5 : UInt8), (5 : UInt8), (5 : UInt8), (5 : UInt8), (5 : UInt8), (5 : UInt8), (6 : UInt8), (6 : UInt8), (6 : UInt8), (6 : UInt8),
                                      (6 : UInt8), (6 : UInt8), (6 : UInt8), (6 : UInt8), (6 : UInt8), (6 : UInt8), (6 : UInt8), (6 : UInt8), (6 : UInt8), (6 : UInt8), (6 : UInt8), (6 : UInt8),
                                      (6 : UInt8), (6 : UInt8), (6 : UInt8), (6 : UInt8), (6 : UInt8), (6 : UInt8), (6 : UInt8), (6 : UInt8), (6 : UInt8), (6 : UInt8), (6 : UInt8), (6 : UInt8),
                                      (6 : UInt8), (6 : UInt8), (6 : UInt8), (6 : UInt8)]
                                    [(7 : UInt8), (7 : UInt8), (7 : UInt8), (7 : UInt8), (7 : UInt8), (7 : UInt8), (7 : UInt8), (7 : UInt8), (7 : UInt8), (7 : UInt8), (7 : UInt8), (7 : UInt8),
                                      (7 : UInt8), (7 : UInt8), (7 : UInt8), (7 : UInt8), (7 : UInt8), (7 : UInt8), (7 : UInt8), (7 : UInt8), (7 : UInt8), (7 : UInt8), (7 : UInt8), (7 : UInt8),
                                      (7 : UInt8), (7 : UInt8), (7 : UInt8), (7 : UInt8), (7 : UInt8), (7 : UInt8), (7 : UInt8), (7 : UInt8), (7 : UInt8), (7 : UInt8), (7 : UInt8), (7 : UInt8),
                                      (7 : UInt8), (7 : UInt8), (7 : UInt8), (7 : UInt8), (7 : UInt8), (7 : UInt8), (7 : UInt8), (7 : UInt8), (7 : UInt8), (7 : UInt8), (7 : UInt8), (7 : UInt8),
                                      (7 : UInt8), (7 : UInt8), (7 : UInt8), (7 : UInt8), (7 : UInt8), (7 : UInt8), (7 : UInt8), (7 : UInt8), (7 : UInt8), (7 : UInt8), (7 : UInt8), (7 : UInt8),
                                      (7 : UInt8), (7 : UInt8), (7 : UInt8), (7 : UInt8)])
                                  (List.append
                                    [(8 : UInt8), (8 : UInt8), (8 : UInt8), (8 : UInt8), (8 : UInt8), (8 : UInt8), (8 : UInt8), (8 : UInt8), (8 : UInt8), (8 : UInt8), (8 : UInt8), (8 : UInt8),
                                      (8 : UInt8), (8 : UInt8), (8 : UInt8), (8 : UInt8), (8 : UInt8), (8 : UInt8), (8 : UInt8), (8 : UInt8), (8 : UInt8), (8 : UInt8), (8 : UInt8), (8 : UInt8),
                                      (8 : UInt8), (8 : UInt8), (8 : UInt8), (8 : UInt8), (8 : UInt8), (8 : UInt8), (8 : UInt8), (8 : UInt8), (8 : UInt8), (8 : UInt8), (8 : UInt8), (8 : UInt8),
                                      (8 : UInt8), (8 : UInt8), (8 : UInt8), (8 : UInt8), (8 : UInt8), (8 : UInt8), (8 : UInt8), (8 : UInt8), (8 : UInt8), (8 : UInt8), (8 : UInt8), (8 : UInt8),
                                      (8 : UInt8), (8 : UInt8), (8 : UInt8), (8 : UInt8), (8 : UInt8), (8 : UInt8), (8 : UInt8), (8 : UInt8), (8 : UInt8), (8 : UInt8), (8 : UInt8), (8 : UInt8),
                                      (8 : UInt8), (8 : UInt8), (8 : UInt8), (8 : UInt8)]
                                    [(8 : UInt8), (8 : UInt8), (8 : UInt8), (8 : UInt8), (8 : UInt8), (8 : UInt8), (8 : UInt8), (8 : UInt8), (8 : UInt8), (8 : UInt8), (8 : UInt8), (8 : UInt8),
                                      (8 : UInt8), (8 : UInt8), (8 : UInt8), (8 : UInt8), (8 : UInt8), (8 : UInt8), (8 : UInt8), (8 : UInt8), (8 : UInt8), (8 : UInt8), (8 : UInt8), (8 : UInt8),
                                      (8 : UInt8), (8 : UInt8), (8 : UInt8), (8 : UInt8), (8 : UInt8), (8 : UInt8), (8 : UInt8), (8 : UInt8), (8 : UInt8), (8 : UInt8), (8 : UInt8), (8 : UInt8),
                                      (8 : UInt8), (8 : UInt8), (8 : UInt8), (8 : UInt8), (8 : UInt8), (8 : UInt8), (8 : UInt8), (8 : UInt8), (8 : UInt8), (8 : UInt8), (8 : UInt8), (8 : UInt8),
                                      (8 : UInt8), (8 : UInt8), (8 : UInt8), (8 : UInt8), (8 : UInt8), (8 : UInt8), (8 : UInt8), (8 : UInt8), (8 : UInt8), (8 : UInt8), (8 : UInt8), (8 : UInt8),
                                      (8 : UInt8), (8 : UInt8), (8 : UInt8), (8 : UInt8)])) })
                        (Int.toNat (IntKind.wrap IntKind.u8 x.fst)) (0 : Int))) =
                if x.fst < (256 : Int) then (↑(lastb (Int.toNat x.fst) (8 : Nat)) : Int) else (8 : Int) + (↑(lastb (Int.toNat x.fst / (256 : Nat)) (8 : Nat)) : Int))
theorem e19 : t19 = Con.vc c19 (mkEnv ty [] [0, 2, 4]) {} Try.f19.ntmps Try.f19.results.toList (bodyOf Try.f19) := by kernel_rfl
theorem k19 : t19 := by
  unfold t19
  rintro ⟨x, _⟩ hx hp
  obtain ⟨n, rfl, hn⟩ := u16_nat hx.1
  simp only [true_and, and_true, eq_self_iff_true, implies_true, reduceCtorEq, false_implies, true_implies, decide_eq_true_eq, decide_eq_false_iff_not, beq_self_eq_true, Bool.not_eq_true', ne_eq, Decidable.not_not, List.nil_append, List.length_singleton, List.length_cons, List.length_nil, Nat.zero_add, Nat.add_zero, Nat.mul_one, and_self, beq_iff_eq, Bool.not_true, Bool.not_false, Bool.not_eq_false', Bool.cond_false_right, Bool.and_eq_true, imp_self, Bool.not_eq_true, Bool.cond_true_left, Bool.or_eq_true, fdiv8, Int.toNat_natCast]
  have tab : ∀ i : Fin 256, List.getD (bs { data := List.toArray (List.append (List.append [(0 : UInt8), (1 : UInt8), (2 : UInt8), (2 : UInt8), (3 : UInt8), (3 : UInt8), (3 : UInt8), (3 : UInt8), (4 : UInt8), (4 : UInt8), (4 : UInt8), (4 : UInt8), (4 : UInt8), (4 : UInt8), (4 : UInt8), (4 : UInt8), (5 : UInt8), (5 : UInt8), (5 : UInt8), (5 : UInt8), (5 : UInt8), (5 : UInt8), (5 : UInt8), (5 : UInt8), (5 : UInt8), (5 : UInt8), (5 : UInt8), (5 : UInt8), (5 : UInt8), (5 : UInt8), (5 : UInt8), (5 : UInt8), (6 : UInt8), (6 : UInt8), (6 : UInt8), (6 : UInt8), (6 : UInt8), (6 : UInt8), (6 : UInt8), (6 : UInt8), (6 : UInt8), (6 : UInt8), (6 : UInt8), (6 : UInt8), (6 : UInt8), (6 : UInt8), (6 : UInt8), (6 : UInt8), (6 : UInt8), (6 : UInt8), (6 : UInt8), (6 : UInt8), (6 : UInt8), (6 : UInt8), (6 : UInt8), (6 : UInt8), (6 : UInt8), (6 : UInt8), (6 : UInt8), (6 : UInt8), (6 : UInt8), (6 : UInt8), (6 : UInt8), (6 : UInt8)] [(7 : UInt8), (7 : UInt8), (7 : UInt8), (7 : UInt8), (7 : UInt8), (7 : UInt8), (7 : UInt8), (7 : UInt8), (7 : UInt8), (7 : UInt8), (7 : UInt8), (7 : UInt8), (7 : UInt8), (7 : UInt8), (7 : UInt8), (7 : UInt8), (7 : UInt8), (7 : UInt8), (7 : UInt8), (7 : UInt8), (7 : UInt8), (7 : UInt8), (7 : UInt8), (7 : UInt8), (7 : UInt8), (7 : UInt8), (7 : UInt8), (7 : UInt8), (7 : UInt8), (7 : UInt8), (7 : UInt8), (7 : UInt8), (7 : UInt8), (7 : UInt8), (7 : UInt8), (7 : UInt8), (7 : UInt8), (7 : UInt8), (7 : UInt8), (7 : UInt8), (7 : UInt8), (7 : UInt8), (7 : UInt8), (7 : UInt8), (7 : UInt8), (7 : UInt8), (7 : UInt8), (7 : UInt8), (7 : UInt8), (7 : UInt8), (7 : UInt8), (7 : UInt8), (7 : UInt8), (7 : UInt8), (7 : UInt8), (7 : UInt8), (7 : UInt8), (7 : UInt8), (7 : UInt8), (7 : UInt8), (7 : UInt8), (7 : UInt8), (7 : UInt8), (7 : UInt8)]) (List.append [(8 : UInt8), (8 : UInt8), (8 : UInt8), (8 : UInt8), (8 : UInt8), (8 : UInt8), (8 : UInt8), (8 : UInt8), (8 : UInt8), (8 : UInt8), (8 : UInt8), (8 : UInt8), (8 : UInt8), (8 : UInt8), (8 : UInt8), (8 : UInt8), (8 : UInt8), (8 : UInt8), (8 : UInt8), (8 : UInt8), (8 : UInt8), (8 : UInt8), (8 : UInt8), (8 : UInt8), (8 : UInt8), (8 : UInt8), (8 : UInt8), (8 : UInt8), (8 : UInt8), (8 : UInt8), (8 : UInt8), (8 : UInt8), (8 : UInt8), (8 : UInt8), (8 : UInt8), (8 : UInt8), (8 : UInt8), (8 : UInt8), (8 : UInt8), (8 : UInt8), (8 : UInt8), (8 : UInt8), (8 : UInt8), (8 : UInt8), (8 : UInt8), (8 : UInt8), (8 : UInt8), (8 : UInt8), (8 : UInt8), (8 : UInt8), (8 : UInt8), (8 : UInt8), (8 : UInt8), (8 : UInt8), (8 : UInt8), (8 : UInt8), (8 : UInt8), (8 : UInt8), (8 : UInt8), (8 : UInt8), (8 : UInt8), (8 : UInt8), (8 : UInt8), (8 : UInt8)] [(8 : UInt8), (8 : UInt8), (8 : UInt8), (8 : UInt8), (8 : UInt8), (8 : UInt8), (8 : UInt8), (8 : UInt8), (8 : UInt8), (8 : UInt8), (8 : UInt8), (8 : UInt8), (8 : UInt8), (8 : UInt8), (8 : UInt8), (8 : UInt8), (8 : UInt8), (8 : UInt8), (8 : UInt8), (8 : UInt8), (8 : UInt8), (8 : UInt8), (8 : UInt8), (8 : UInt8), (8 : UInt8), (8 : UInt8), (8 : UInt8), (8 : UInt8), (8 : UInt8), (8 : UInt8), (8 : UInt8), (8 : UInt8), (8 : UInt8), (8 : UInt8), (8 : UInt8), (8 : UInt8), (8 : UInt8), (8 : UInt8), (8 : UInt8), (8 : UInt8), (8 : UInt8), (8 : UInt8), (8 : UInt8), (8 : UInt8), (8 : UInt8), (8 : UInt8), (8 : UInt8), (8 : UInt8), (8 : UInt8), (8 : UInt8), (8 : UInt8), (8 : UInt8), (8 : UInt8), (8 : UInt8), (8 : UInt8), (8 : UInt8), (8 : UInt8), (8 : UInt8), (8 : UInt8), (8 : UInt8), (8 : UInt8), (8 : UInt8), (8 : UInt8), (8 : UInt8)])) }) i.val (0 : Int) = (lastb i.val 8 : Int) := by decide +kernel
  have hl : ∀ b : Nat, lastb b 8 ≤ 8 := fun b => lastb_le b 8
  refine ⟨fun h => ?_, fun h => ?_⟩
  · have e : IntKind.wrap .u8 ((n / 256 : Nat) : Int) = ((n / 256 : Nat) : Int) := by simp [IntKind.wrap, IntKind.signed, IntKind.bits]; omega
    rw [e, Int.toNat_natCast, tab ⟨n / 256, by omega⟩, if_neg (by omega)]
    have := hl (n / 256)
    simp only
    rw [wrapk (lastb (n / 256) 8 : Int) (by omega) (by omega), wrapk _ (by omega) (by omega)]
    exact ⟨by decide, by omega, rfl⟩
  · have e : IntKind.wrap .u8 (n : Int) = (n : Int) := by simp [IntKind.wrap, IntKind.signed, IntKind.bits]; omega
    rw [e, Int.toNat_natCast, tab ⟨n, by omega⟩, if_pos (by omega)]
    have := hl n
    simp only
    rw [wrapk (lastb n 8 : Int) (by omega) (by omega), wrapk _ (by omega) (by omega)]
    exact ⟨by omega, by omega⟩
theorem h19 : c19.ok Try.prog 19 := con_ok (E := mkEnv ty [] [0, 2, 4]) (H := {}) (mkEnv_ok _ tyOk (by kernel_rfl) trivial) (by kernel_rfl) (by kernel_rfl) (Eq.mp e19 k19)

def t7 : Prop :=
  ∀ (x : Int × Unit),
    Kd.wf (Kd.int IntKind.u16) x.fst ∧ True →
      True →
        True ∧
          ∀ (y : Int × Unit),
            Kd.wf (Kd.int IntKind.u16) y.fst ∧ True →
              y.fst = (↑(prev (Int.toNat x.fst / (256 : Nat)) (8 : Nat)) : Int) + (256 : Int) * (↑(prev (Int.toNat x.fst % (256 : Nat)) (8 : Nat)) : Int) →
                (decide (x.fst = (0 : Int)) = true → [(0 : Int)] = FlagsD (Int.toNat x.fst)) ∧
                  (decide (x.fst = (0 : Int)) = false →
                    (decide (x.fst < (256 : Int)) = true →
                        True ∧
                          ∀ (y_1 : Int × Unit),
                            Kd.wf (Kd.int IntKind.i64) y_1.fst ∧ True →
                              (y_1.fst = if x.fst < (256 : Int) then (↑(lastb (Int.toNat x.fst) (8 : Nat)) : Int) else (8 : Int) + (↑(lastb (Int.toNat x.fst / (256 : Nat)) (8 : Nat)) : Int)) →
                                (0 : Int) ≤ (8 : Int) ∧
                                  [IntKind.wrap IntKind.u8 (IntKind.wrap IntKind.i64 ((8 : Int) - y_1.fst)), IntKind.wrap IntKind.u8 (Int.fdiv y.fst ((2 : Int) ^ (8 : Nat)))] =
                                    FlagsD (Int.toNat x.fst)) ∧
                      (decide (x.fst < (256 : Int)) = false →
                        True ∧
                          ∀ (y_1 : Int × Unit),
                            Kd.wf (Kd.int IntKind.i64) y_1.fst ∧ True →
                              (y_1.fst = if x.fst < (256 : Int) then (↑(lastb (Int.toNat x.fst) (8 : Nat)) : Int) else (8 : Int) + (↑(lastb (Int.toNat x.fst / (256 : Nat)) (8 : Nat)) : Int)) →
                                (0 : Int) ≤ (8 : Int) ∧
                                  [IntKind.wrap IntKind.u8 (IntKind.wrap IntKind.i64 ((16 : Int) - y_1.fst)), IntKind.wrap IntKind.u8 (Int.fdiv y.fst ((2 : Int) ^ (8 : Nat))),
                                      IntKind.wrap IntKind.u8 y.fst] =
                                    FlagsD (Int.toNat x.fst)))
theorem e7 : t7 = Con.vc c7 (mkEnv ty [(18, conSem c18), (19, conSem c19)] [0, 2, 3, 6, 10]) {} Try.f7.ntmps Try.f7.results.toList (bodyOf Try.f7) := by kernel_rfl
theorem k7 : t7 := by
  unfold t7
  rintro ⟨x, _⟩ hx hp
  obtain ⟨n, rfl, hn⟩ := u16_nat hx.1
  simp only [true_and, and_true, eq_self_iff_true, implies_true, reduceCtorEq, false_implies, true_implies, decide_eq_true_eq, decide_eq_false_iff_not, beq_self_eq_true, Bool.not_eq_true', ne_eq, Decidable.not_not, List.nil_append, List.length_singleton, List.length_cons, List.length_nil, Nat.zero_add, Nat.add_zero, Nat.mul_one, and_self, beq_iff_eq, Bool.not_true, Bool.not_false, Bool.not_eq_false', Bool.cond_false_right, Bool.and_eq_true, imp_self, Bool.not_eq_true, Bool.cond_true_left, Bool.or_eq_true, Int.toNat_natCast]
  rintro ⟨r, _⟩ hw er
  simp only at er ⊢
  have p1 := prev_lt (n / 256) (by omega)
  have p2 := prev_lt (n % 256) (by omega)
  have er' : r = ((prev (n / 256) 8 + 256 * prev (n % 256) 8 : Nat) : Int) := by rw [er]; omega
  have e8 : IntKind.wrap .u8 (r.fdiv (2 ^ 8)) = (prev (n % 256) 8 : Int) := by
    rw [er', fdiv8]; simp [IntKind.wrap, IntKind.signed, IntKind.bits]; omega
  have e9 : IntKind.wrap .u8 r = (prev (n / 256) 8 : Int) := by
    rw [er']; simp [IntKind.wrap, IntKind.signed, IntKind.bits]; omega
  refine ⟨fun h => ?_, fun h => ⟨fun h1 => ?_, fun h1 => ?_⟩⟩
  · have : n = 0 := by omega
    subst this; rfl
  · rintro ⟨l, _⟩ hwl el
    simp only at el ⊢
    rw [if_pos h1] at el
    have hl := lastb_le n 8
    have e2 : IntKind.wrap .u8 (IntKind.wrap .i64 (8 - l)) = 8 - (lastb n 8 : Int) := by
      rw [el, wrapk _ (by omega) (by omega)]; simp [IntKind.wrap, IntKind.signed, IntKind.bits]; omega
    refine ⟨by decide, ?_⟩
    rw [e2, e8, FlagsD, if_neg (by omega), if_pos (by omega), Nat.mod_eq_of_lt (show n < 256 by omega)]
  · rintro ⟨l, _⟩ hwl el
    simp only at el ⊢
    rw [if_neg h1] at el
    have hl := lastb_le (n / 256) 8
    have e2 : IntKind.wrap .u8 (IntKind.wrap .i64 (16 - l)) = 8 - (lastb (n / 256) 8 : Int) := by
      rw [el, wrapk _ (by omega) (by omega)]; simp [IntKind.wrap, IntKind.signed, IntKind.bits]; omega
    refine ⟨by decide, ?_⟩
    rw [e2, e8, e9, FlagsD, if_neg (by omega), if_neg (by omega)]
theorem h7 : c7.ok Try.prog 7 := con_ok (E := mkEnv ty [(18, conSem c18), (19, conSem c19)] [0, 2, 3, 6, 10]) (H := {}) (mkEnv_ok _ tyOk (by kernel_rfl) ⟨h18.call, h19.call, trivial⟩) (by kernel_rfl) (by kernel_rfl) (Eq.mp e7 k7)

def t8 : Prop :=
  ∀ (x : Int × Unit),
    Kd.wf (Kd.int IntKind.u16) x.fst ∧ True →
      True →
        ∃ (I : Int × Int × Unit → Unit → Prop),
          ∃ (μ : Int × Int × Unit → Unit → Nat),
            (Value.slice none (0 : Nat) (0 : Nat) = Value.slice none (0 : Nat) (0 : Nat) ∧ x.fst = x.fst ∧ I ((0 : Int), (-1 : Int), ()) ()) ∧
              ∀ (y : Int × Int × Unit) (z : Unit),
                Kd.wf (Kd.int IntKind.i64) y.fst ∧ Kd.wf (Kd.int IntKind.i64) y.snd.fst ∧ True →
                  True →
                    I y z →
                      (decide (y.fst < (16 : Int)) = true →
                          (0 : Int) ≤ y.fst ∧
                            (2 : Int) ≠ (0 : Int) ∧
                              (decide (Int.tmod (Int.fdiv x.fst ((2 : Int) ^ min (Int.toNat y.fst) (16 : Nat))) (2 : Int) = (1 : Int)) = true →
                                  Value.slice none (0 : Nat) (0 : Nat) = Value.slice none (0 : Nat) (0 : Nat) ∧
                                    x.fst = x.fst ∧ I (IntKind.wrap IntKind.i64 (y.fst + (1 : Int)), y.fst, ()) () ∧ μ (IntKind.wrap IntKind.i64 (y.fst + (1 : Int)), y.fst, ()) () < μ y z) ∧
                                (decide (Int.tmod (Int.fdiv x.fst ((2 : Int) ^ min (Int.toNat y.fst) (16 : Nat))) (2 : Int) = (1 : Int)) = false →
                                  Value.slice none (0 : Nat) (0 : Nat) = Value.slice none (0 : Nat) (0 : Nat) ∧
                                    x.fst = x.fst ∧ I (IntKind.wrap IntKind.i64 (y.fst + (1 : Int)), y.snd.fst, ()) () ∧ μ (IntKind.wrap IntKind.i64 (y.fst + (1 : Int)), y.snd.fst, ()) () < μ y z)) ∧
                        (decide (y.fst < (16 : Int)) = false →
                          ∃ (I : Int × Unit → List Int × Unit → Prop),
                            ∃ (μ : Int × Unit → List Int × Unit → Nat),
                              (decide (y.fst < (16 : Int)) = decide (y.fst < (16 : Int)) ∧
                                  y.fst = y.fst ∧ y.snd.fst = y.snd.fst ∧ Value.slice none (0 : Nat) (0 : Nat) = Value.slice none (0 : Nat) (0 : Nat) ∧ x.fst = x.fst ∧ I ((0 : Int), ()) ([], ())) ∧
                                ∀ (y_1 : Int × Unit) (z : List Int × Unit),
                                  Kd.wf (Kd.int IntKind.i64) y_1.fst ∧ True →
                                    Kd.wf (Kd.sl (Kd.int IntKind.u8)) z.fst ∧ True →
                                      I y_1 z →
                                        (decide (y_1.fst ≤ y.snd.fst) = true →
                                            (8 : Int) ≠ (0 : Int) ∧
                                              (decide (Int.tmod y_1.fst (8 : Int) = (0 : Int)) = true →
                                                  (0 : Nat) < (1 : Nat) ∧
                                                    (List.length z.fst + (1 : Nat)) * (1 : Nat) ≤ (140737488355328 : Nat) ∧
                                                      List.length z.fst + (1 : Nat) ≤ (9223372036854775807 : Nat) ∧
                                                        (0 : Int) ≤ y_1.fst ∧
                                                          (2 : Int) ≠ (0 : Int) ∧
                                                            (decide (Int.tmod (Int.fdiv x.fst ((2 : Int) ^ min (Int.toNat y_1.fst) (16 : Nat))) (2 : Int) = (1 : Int)) = true →
                                                                (8 : Int) ≠ (0 : Int) ∧
                                                                  (8 : Int) ≠ (0 : Int) ∧
                                                                    ((0 : Int) ≤ IntKind.wrap IntKind.i64 (Int.tdiv y_1.fst (8 : Int)) ∧
                                                                        IntKind.wrap IntKind.i64 (Int.tdiv y_1.fst (8 : Int)) < (↑(List.length (z.fst ++ [(0 : Int)])) : Int)) ∧
                                                                      (8 : Int) ≠ (0 : Int) ∧
                                                                        (0 : Int) ≤ Int.tmod y_1.fst (8 : Int) ∧
                                                                          ((0 : Int) ≤ IntKind.wrap IntKind.i64 (Int.tdiv y_1.fst (8 : Int)) ∧
                                                                              IntKind.wrap IntKind.i64 (Int.tdiv y_1.fst (8 : Int)) < (↑(List.length (z.fst ++ [(0 : Int)])) : Int)) ∧
                                                                            decide (y.fst < (16 : Int)) = decide (y.fst < (16 : Int)) ∧
                                                                              y.fst = y.fst ∧
                                                                                y.snd.fst = y.snd.fst ∧
                                                                                  Value.slice none (0 : Nat) (0 : Nat) = Value.slice none (0 : Nat) (0 : Nat) ∧
                                                                                    x.fst = x.fst ∧
                                                                                      I (IntKind.wrap IntKind.i64 (y_1.fst + (1 : Int)), ())
                                                                                          (List.set (z.fst ++ [(0 : Int)]) (Int.toNat (IntKind.wrap IntKind.i64 (Int.tdiv y_1.fst (8 : Int))))
                                                                                              (IntKind.wrap IntKind.u8
                                                                                                (↑(BitVec.toNat
                                                                                                      (BitVec.ofInt (8 : Nat)
                                                                                                          (List.getD (z.fst ++ [(0 : Int)])
                                                                                                            (Int.toNat (IntKind.wrap IntKind.i64 (Int.tdiv y_1.fst (8 : Int))))
                                                                                                            (Kd.dft (Kd.int IntKind.u8))) |||
                                                                                                        BitVec.ofInt (8 : Nat)
                                                                                                          (Int.fdiv (128 : Int) ((2 : Int) ^ min (Int.toNat (Int.tmod y_1.fst (8 : Int))) (8 : Nat))))) :
                                                                                                  Int)),
                                                                                            ()) ∧
                                                                                        μ (IntKind.wrap IntKind.i64 (y_1.fst + (1 : Int)), ())
                                                                                            (List.set (z.fst ++ [(0 : Int)]) (Int.toNat (IntKind.wrap IntKind.i64 (Int.tdiv y_1.fst (8 : Int))))
                                                                                                (IntKind.wrap IntKind.u8
                                                                                                  (↑(BitVec.toNat
                                                                                                        (BitVec.ofInt (8 : Nat)
                                                                                                            (List.getD (z.fst ++ [(0 : Int)])
                                                                                                              (Int.toNat (IntKind.wrap IntKind.i64 (Int.tdiv y_1.fst (8 : Int))))
                                                                                                              (Kd.dft (Kd.int IntKind.u8))) |||
                                                                                                          BitVec.ofInt (8 : Nat)
                                                                                                            (Int.fdiv (128 : Int)
                                                                                                              ((2 : Int) ^ min (Int.toNat (Int.tmod y_1.fst (8 : Int))) (8 : Nat))))) :
                                                                                                    Int)),
                                                                                              ()) <
                                                                                          μ y_1 z) ∧
                                                              (decide (Int.tmod (Int.fdiv x.fst ((2 : Int) ^ min (Int.toNat y_1.fst) (16 : Nat))) (2 : Int) = (1 : Int)) = false →
                                                                decide (y.fst < (16 : Int)) = decide (y.fst < (16 : Int)) ∧
                                                                  y.fst = y.fst ∧
                                                                    y.snd.fst = y.snd.fst ∧
                                                                      Value.slice none (0 : Nat) (0 : Nat) = Value.slice none (0 : Nat) (0 : Nat) ∧
                                                                        x.fst = x.fst ∧
                                                                          I (IntKind.wrap IntKind.i64 (y_1.fst + (1 : Int)), ()) (z.fst ++ [(0 : Int)], ()) ∧
                                                                            μ (IntKind.wrap IntKind.i64 (y_1.fst + (1 : Int)), ()) (z.fst ++ [(0 : Int)], ()) < μ y_1 z)) ∧
                                                (decide (Int.tmod y_1.fst (8 : Int) = (0 : Int)) = false →
                                                  (0 : Int) ≤ y_1.fst ∧
                                                    (2 : Int) ≠ (0 : Int) ∧
                                                      (decide (Int.tmod (Int.fdiv x.fst ((2 : Int) ^ min (Int.toNat y_1.fst) (16 : Nat))) (2 : Int) = (1 : Int)) = true →
                                                          (8 : Int) ≠ (0 : Int) ∧
                                                            (8 : Int) ≠ (0 : Int) ∧
                                                              ((0 : Int) ≤ IntKind.wrap IntKind.i64 (Int.tdiv y_1.fst (8 : Int)) ∧
                                                                  IntKind.wrap IntKind.i64 (Int.tdiv y_1.fst (8 : Int)) < (↑(List.length z.fst) : Int)) ∧
                                                                (8 : Int) ≠ (0 : Int) ∧
                                                                  (0 : Int) ≤ Int.tmod y_1.fst (8 : Int) ∧
                                                                    ((0 : Int) ≤ IntKind.wrap IntKind.i64 (Int.tdiv y_1.fst (8 : Int)) ∧
                                                                        IntKind.wrap IntKind.i64 (Int.tdiv y_1.fst (8 : Int)) < (↑(List.length z.fst) : Int)) ∧
                                                                      decide (y.fst < (16 : Int)) = decide (y.fst < (16 : Int)) ∧
                                                                        y.fst = y.fst ∧
                                                                          y.snd.fst = y.snd.fst ∧
                                                                            Value.slice none (0 : Nat) (0 : Nat) = Value.slice none (0 : Nat) (0 : Nat) ∧
                                                                              x.fst = x.fst ∧
                                                                                I (IntKind.wrap IntKind.i64 (y_1.fst + (1 : Int)), ())
                                                                                    (List.set z.fst (Int.toNat (IntKind.wrap IntKind.i64 (Int.tdiv y_1.fst (8 : Int))))
                                                                                        (IntKind.wrap IntKind.u8
                                                                                          (↑(BitVec.toNat
                                                                                                (BitVec.ofInt (8 : Nat)
                                                                                                    (List.getD z.fst (Int.toNat (IntKind.wrap IntKind.i64 (Int.tdiv y_1.fst (8 : Int))))
                                                                                                      (Kd.dft (Kd.int IntKind.u8))) |||
                                                                                                  BitVec.ofInt (8 : Nat)
                                                                                                    (Int.fdiv (128 : Int) ((2 : Int) ^ min (Int.toNat (Int.tmod y_1.fst (8 : Int))) (8 : Nat))))) :
                                                                                            Int)),
                                                                                      ()) ∧
                                                                                  μ (IntKind.wrap IntKind.i64 (y_1.fst + (1 : Int)), ())
                                                                                      (List.set z.fst (Int.toNat (IntKind.wrap IntKind.i64 (Int.tdiv y_1.fst (8 : Int))))
                                                                                          (IntKind.wrap IntKind.u8
                                                                                            (↑(BitVec.toNat
                                                                                                  (BitVec.ofInt (8 : Nat)
                                                                                                      (List.getD z.fst (Int.toNat (IntKind.wrap IntKind.i64 (Int.tdiv y_1.fst (8 : Int))))
                                                                                                        (Kd.dft (Kd.int IntKind.u8))) |||
                                                                                                    BitVec.ofInt (8 : Nat)
                                                                                                      (Int.fdiv (128 : Int) ((2 : Int) ^ min (Int.toNat (Int.tmod y_1.fst (8 : Int))) (8 : Nat))))) :
                                                                                              Int)),
                                                                                        ()) <
                                                                                    μ y_1 z) ∧
                                                        (decide (Int.tmod (Int.fdiv x.fst ((2 : Int) ^ min (Int.toNat y_1.fst) (16 : Nat))) (2 : Int) = (1 : Int)) = false →
                                                          decide (y.fst < (16 : Int)) = decide (y.fst < (16 : Int)) ∧
                                                            y.fst = y.fst ∧
                                                              y.snd.fst = y.snd.fst ∧
                                                                Value.slice none (0 : Nat) (0 : Nat) = Value.slice none (0 : Nat) (0 : Nat) ∧
                                                                  x.fst = x.fst ∧
                                                                    I (IntKind.wrap IntKind.i64 (y_1.fst + (1 : Int)), ()) (z.fst, ()) ∧
                                                                      μ (IntKind.wrap IntKind.i64 (y_1.fst + (1 : Int)), ()) (z.fst, ()) < μ y_1 z))) ∧
                                          (decide (y_1.fst ≤ y.snd.fst) = false →
                                            (decide ((0 : Int) ≤ y.snd.fst) = true →
                                                (8 : Int) ≠ (0 : Int) ∧
                                                  (0 : Nat) < (1 : Nat) ∧
                                                    (List.length [IntKind.wrap IntKind.u8 (IntKind.wrap IntKind.i64 ((7 : Int) - Int.tmod y.snd.fst (8 : Int)))] + List.length z.fst) * (1 : Nat) ≤
                                                        (140737488355328 : Nat) ∧
                                                      List.length [IntKind.wrap IntKind.u8 (IntKind.wrap IntKind.i64 ((7 : Int) - Int.tmod y.snd.fst (8 : Int)))] + List.length z.fst ≤
                                                          (9223372036854775807 : Nat) ∧
                                                        [IntKind.wrap IntKind.u8 (IntKind.wrap IntKind.i64 ((7 : Int) - Int.tmod y.snd.fst (8 : Int)))] ++ z.fst = FlagsD (Int.toNat x.fst)) ∧
                                              (decide ((0 : Int) ≤ y.snd.fst) = false →
                                                (0 : Nat) < (1 : Nat) ∧
                                                  ((1 : Nat) + List.length z.fst) * (1 : Nat) ≤ (140737488355328 : Nat) ∧
                                                    (1 : Nat) + List.length z.fst ≤ (9223372036854775807 : Nat) ∧ [IntKind.wrap IntKind.u8 (0 : Int)] ++ z.fst = FlagsD (Int.toNat x.fst))))
theorem e8 : t8 = Con.vc c8 (mkEnv ty [] [0, 2, 3, 4, 5, 6, 7, 9, 16, 20, 25, 33, 48]) {} Try.f8.ntmps Try.f8.results.toList (bodyOf Try.f8) := by kernel_rfl
theorem k8 : t8 := by
  unfold t8
  rintro ⟨x, _⟩ hx hp
  obtain ⟨n, rfl, hn⟩ := u16_nat hx.1
  simp only [true_and, and_true, eq_self_iff_true, implies_true, reduceCtorEq, false_implies, true_implies, decide_eq_true_eq, decide_eq_false_iff_not, beq_self_eq_true, Bool.not_eq_true', ne_eq, Decidable.not_not, List.nil_append, List.length_singleton, List.length_cons, List.length_nil, Nat.zero_add, Nat.add_zero, Nat.mul_one, and_self, beq_iff_eq, Bool.not_true, Bool.not_false, Bool.not_eq_false', Bool.cond_false_right, Bool.and_eq_true, imp_self, Bool.not_eq_true, Bool.cond_true_left, Bool.or_eq_true, Int.toNat_natCast]
  refine ⟨fun y _ => 0 ≤ y.1 ∧ y.1 ≤ 16 ∧ y.2.1 = (lastb n y.1.toNat : Int) - 1, fun y _ => (16 - y.1).toNat, ⟨by omega, by omega, rfl⟩, ?_⟩
  rintro ⟨i, l, _⟩ _ hw ⟨h1, h2, h3⟩
  simp only at h1 h2 h3 hw ⊢
  obtain ⟨j, rfl⟩ : ∃ j : Nat, i = j := ⟨i.toNat, by omega⟩
  rw [Int.toNat_natCast] at h3 ⊢
  refine ⟨fun hc => ⟨by omega, by decide, ?_, ?_⟩, fun hc => ?_⟩
  · rw [bitI n j (by omega), wrapk _ (by omega) (by omega)]
    refine fun hb => ⟨⟨by omega, by omega, ?_⟩, by omega⟩
    rw [show ((j : Int) + 1).toNat = j + 1 by omega]
    simp only [lastb]
    rw [if_pos (by omega)]
    omega
  · rw [bitI n j (by omega), wrapk _ (by omega) (by omega)]
    refine fun hb => ⟨⟨by omega, by omega, ?_⟩, by omega⟩
    rw [show ((j : Int) + 1).toNat = j + 1 by omega]
    simp only [lastb]
    rw [if_neg (by omega)]
    exact h3
  · have : j = 16 := by omega
    subst this
    have hL := lastb_le n 16
    generalize eL : lastb n 16 = L at h3 hL
    refine ⟨fun y z => 0 ≤ y.1 ∧ y.1 ≤ L ∧ z.1 = bytesAt n y.1.toNat, fun y _ => (L - y.1).toNat, ⟨by omega, by omega, rfl⟩, ?_⟩
    rintro ⟨i, _⟩ ⟨z, _⟩ hwi hwz ⟨g1, g2, g3⟩
    simp only at g1 g2 g3 hwi hwz ⊢
    obtain ⟨j, rfl⟩ : ∃ j : Nat, i = j := ⟨i.toNat, by omega⟩
    rw [Int.toNat_natCast] at g3 ⊢
    subst g3
    have hlen := bytesAt_len n j
    refine ⟨fun hc => ?_, fun hc => ⟨fun h0 => ⟨by decide, by decide, by omega, by omega, ?_⟩, fun h0 => ⟨by decide, by omega, by omega, ?_⟩⟩⟩
    · have em : (j : Int).tmod 8 = ((j % 8 : Nat) : Int) := by rw [Int.tmod_eq_emod_of_nonneg (by omega)]; rfl
      have ed : (j : Int).tdiv 8 = ((j / 8 : Nat) : Int) := by rw [Int.tdiv_eq_ediv_of_nonneg (by omega)]; rfl
      rw [em, ed, bitI n j (by omega), wrapk ((j / 8 : Nat) : Int) (by omega) (by omega), wrapk ((j : Int) + 1) (by omega) (by omega), Int.toNat_natCast, Int.toNat_natCast, show ((j : Int) + 1).toNat = j + 1 by omega]
      have hd : Kd.dft (Kd.int .u8) = (0 : Int) := rfl
      rw [hd]
      refine ⟨by decide, fun hm => ⟨by decide, by omega, by omega, by omega, by decide, fun hb => ?_, fun hb => ?_⟩, fun hm => ⟨by omega, by decide, fun hb => ?_, fun hb => ?_⟩⟩
      · have hz := bytes_set n j hn (by omega) (bytesAt n j ++ [0]) (by rw [if_pos (by omega)]) (by omega)
        exact ⟨by decide, by decide, ⟨by omega, by have := hz.2; omega⟩, by decide, by omega, ⟨by omega, by have := hz.2; omega⟩, ⟨by omega, by omega, hz.1⟩, by omega⟩
      · have hz := bytes_skip n j (by omega) (by omega)
        rw [if_pos (by omega)] at hz
        exact ⟨⟨by omega, by omega, hz⟩, by omega⟩
      · have hz := bytes_set n j hn (by omega) (bytesAt n j) (by rw [if_neg (by omega)]) (by omega)
        exact ⟨by decide, by decide, ⟨by omega, by have := hz.2; omega⟩, by decide, by omega, ⟨by omega, by have := hz.2; omega⟩, ⟨by omega, by omega, hz.1⟩, by omega⟩
      · have hz := bytes_skip n j (by omega) (by omega)
        rw [if_neg (by omega)] at hz
        exact ⟨⟨by omega, by omega, hz⟩, by omega⟩
    · have hj : j = L := by omega
      have := (flags_end n hn).2 (by omega)
      rw [hj, h3, ← eL]
      exact this
    · have hj : j = 0 := by omega
      have := (flags_end n hn).1 (by omega)
      rw [hj]
      exact this
theorem h8 : c8.ok Try.prog 8 := con_ok (E := mkEnv ty [] [0, 2, 3, 4, 5, 6, 7, 9, 16, 20, 25, 33, 48]) (H := {}) (mkEnv_ok _ tyOk (by kernel_rfl) trivial) (by kernel_rfl) (by kernel_rfl) (Eq.mp e8 k8)

def t3 : Prop :=
  ∀ (x : Int × Unit),
    Kd.wf (Kd.int IntKind.u16) x.fst ∧ True →
      ABulk [AK.dat (Kd.int IntKind.u16)] x ≤ (1048576 : Nat) →
        True ∧
          ∀ (y : List Int × Unit),
            Kd.wf (Kd.sl (Kd.int IntKind.u8)) y.fst ∧ True →
              y.fst = FlagsD (Int.toNat x.fst) →
                True ∧
                  ∀ (y_1 : List Int × Unit),
                    Kd.wf (Kd.sl (Kd.int IntKind.u8)) y_1.fst ∧ True →
                      y_1.fst = FlagsD (Int.toNat x.fst) →
                        True ∧
                          ∀ (y_2 : List Int × Unit),
                            Kd.wf (Kd.sl (Kd.int IntKind.u8)) y_2.fst ∧ True →
                              y_2.fst = FlagsD (Int.toNat x.fst) →
                                List.length y.fst ≤ (1000000000 : Nat) ∧
                                  ∀ (y_3 : Bool × Unit),
                                    Kd.wf Kd.bool y_3.fst ∧ True →
                                      (y.fst = y_2.fst → y_1.fst = y_2.fst → y_3.fst = true) →
                                        (y_3.fst = true → True ∧ ∀ (y : Bool × Unit), Kd.wf Kd.bool y.fst ∧ True → y.fst = true → y.fst = true) ∧ (y_3.fst = !true → false = true)
theorem e3 : t3 = Con.vc c3 (mkEnv ty [(7, conSem c7), (8, conSem c8), (6, conSem c6), (9, conSem c9)] [0, 2]) {} Try.f3.ntmps Try.f3.results.toList (bodyOf Try.f3) := by kernel_rfl
theorem k3 : t3 := by
  unfold t3
  rintro ⟨x, _⟩ hx hp
  simp only [true_and, and_true, eq_self_iff_true, implies_true, reduceCtorEq, false_implies, true_implies, decide_eq_true_eq, decide_eq_false_iff_not, beq_self_eq_true, Bool.not_eq_true', ne_eq, Decidable.not_not, List.nil_append, List.length_singleton, List.length_cons, List.length_nil, Nat.zero_add, Nat.add_zero, Nat.mul_one, and_self, beq_iff_eq, Bool.not_true, Bool.not_false, Bool.not_eq_false', Bool.cond_false_right, Bool.and_eq_true, imp_self, Bool.not_eq_true, Bool.cond_true_left, Bool.or_eq_true]
  intro y _ ey y1 _ e1 y2 _ e2
  refine ⟨?_, fun y3 _ h3 hf => ?_⟩
  · rw [ey]
    unfold FlagsD
    split
    · decide
    · split <;> simp
  · rw [h3 (ey.trans e2.symm) (e1.trans e2.symm)] at hf
    cases hf
theorem h3 : c3.ok Try.prog 3 := con_ok (E := mkEnv ty [(7, conSem c7), (8, conSem c8), (6, conSem c6), (9, conSem c9)] [0, 2]) (H := {}) (mkEnv_ok _ tyOk (by kernel_rfl) ⟨h7.call, h8.call, h6.call, h9.call, trivial⟩) (by kernel_rfl) (by kernel_rfl) (Eq.mp e3 k3)

end Go.Proofs.Ytgikinbkhhfgiaa
