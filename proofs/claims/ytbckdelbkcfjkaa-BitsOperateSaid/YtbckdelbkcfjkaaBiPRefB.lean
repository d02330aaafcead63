/- Plain lemmas: what the reference's operations on two values answer, as numbers. -/
import Derived.Test.YtbckdelbkcfjkaaBiPDiv
import Derived.Test.YtbckdelbkcfjkaaBiFretargetref01Binary
namespace Go.Proofs.Ytbckdelbkcfjkaa.BiP
set_option linter.unusedVariables false
set_option linter.unusedSimpArgs false
open Go.RowKit Go.Proofs.Ytbckdelbkcfjkaa.Bi Go.Proofs.YtbckdelbkcfjkaaW.PrintWords Go.Proofs.YtbckdelbkcfjkaaW.PrintLast Go.Proofs.YtbckdelbkcfjkaaW.PrintMore
theorem num_bits (x w k : Nat) (hw : w ≤ 64) (hk : 130 ≤ k) : retargetref01_Number.f k (bitsL x w) = some ((x % 2 ^ w : Nat) : Int) := by
  rw [number_eq (bitsL x w) (by rw [bitsL_len]; exact hw) k hk, numL_bits]
theorem truth_eq (t : Bool) : retargetref01_truth.f t = some ((if t = true then 1 else 0 : Nat) : Int) := by cases t <;> rfl
/-- What the reference does with one bit of each value, for the kinds 8, 9 and 10. -/
def Comb (n : Int) (x y c : Nat) : Prop :=
  (n = 8 ∧ ∀ i, bt c i = if bt x i + bt y i = 2 then 1 else 0) ∨ (n = 9 ∧ ∀ i, bt c i = if bt x i + bt y i > 0 then 1 else 0) ∨ (n = 10 ∧ ∀ i, bt c i = if bt x i + bt y i = 1 then 1 else 0)
theorem bool_l0 (n : Int) (x y c w : Nat) (hw : w ≤ 64) (hc : Comb n x y c) : ∀ d k i : Nat, i + d = w → d + 200 < k →
    retargetref01_Binary.l0 k n (w : Int) (bitsL x w) (bitsL y w) (bitsL c i) (i : Int) = some (((c % 2 ^ w : Nat) : Int), 0) := by
  intro d
  induction d with
  | zero =>
    intro k i h1 h2
    obtain ⟨m, rfl⟩ : ∃ m, k = m + 1 := ⟨k - 1, by omega⟩
    obtain rfl : i = w := by omega
    simp only [retargetref01_Binary.l0]
    rw [if_neg (by omega), num_bits c i m hw (by omega), Option.bind_some]
  | succ d ih =>
    intro k i h1 h2
    obtain ⟨m, rfl⟩ : ∃ m, k = m + 1 := ⟨k - 1, by omega⟩
    have ih := ih m (i + 1) (by omega) (by omega)
    rw [bitsL_step] at ih
    have b1 := bt_lt x i
    have b2 := bt_lt y i
    have ew : wrap64 ((bt x i : Int) + (bt y i : Int)) = ((bt x i + bt y i : Nat) : Int) := (wrap_small (by omega) (by omega)).trans (by omega)
    simp only [retargetref01_Binary.l0]
    rw [if_pos (by omega), if_pos (by omega), if_pos (by rw [bitsL_len]; omega), if_pos (by rw [bitsL_len]; omega), rd_bits x w i (by omega), rd_bits y w i (by omega), w_add1 i (by omega), ew, bitsL_len, if_pos (show i < 17592186044416 by omega)]
    clear ew
    rcases hc with ⟨rfl, hc⟩ | ⟨rfl, hc⟩ | ⟨rfl, hc⟩
    · rw [hc i] at ih
      rw [if_pos rfl]
      by_cases e : bt x i + bt y i = 2
      · rw [if_pos e] at ih
        rw [if_pos (by omega)]
        exact ih
      · rw [if_neg e] at ih
        rw [if_neg (by omega), if_neg (by decide), if_neg (by decide), if_pos (show i < 17592186044416 by omega)]
        exact ih
    · rw [hc i] at ih
      rw [if_neg (by decide), if_pos rfl]
      by_cases e : bt x i + bt y i > 0
      · rw [if_pos e] at ih
        rw [if_pos (by omega)]
        exact ih
      · rw [if_neg e] at ih
        rw [if_neg (by omega), if_neg (by decide), if_pos (show i < 17592186044416 by omega)]
        exact ih
    · rw [hc i] at ih
      rw [if_neg (by decide), if_neg (by decide), if_pos rfl]
      by_cases e : bt x i + bt y i = 1
      · rw [if_pos e] at ih
        rw [if_pos (by omega)]
        exact ih
      · rw [if_neg e] at ih
        rw [if_neg (by omega), if_pos (show i < 17592186044416 by omega)]
        exact ih
theorem comb_and (x y : Nat) : Comb 8 x y (x &&& y) := .inl ⟨rfl, fun i => by rw [bt_eq, bt_eq, bt_eq, Nat.testBit_and]; cases x.testBit i <;> cases y.testBit i <;> rfl⟩
theorem comb_or (x y : Nat) : Comb 9 x y (x ||| y) := .inr (.inl ⟨rfl, fun i => by rw [bt_eq, bt_eq, bt_eq, Nat.testBit_or]; cases x.testBit i <;> cases y.testBit i <;> rfl⟩)
theorem comb_xor (x y : Nat) : Comb 10 x y (x ^^^ y) := .inr (.inr ⟨rfl, fun i => by rw [bt_eq, bt_eq, bt_eq, Nat.testBit_xor]; cases x.testBit i <;> cases y.testBit i <;> rfl⟩)
theorem rbin_no {w : Int} (hw : ¬ (1 ≤ w ∧ w ≤ 64)) (n a b : Int) (k : Nat) : retargetref01_Binary.f k n w a b = some (0, 14) := by
  unfold retargetref01_Binary.f
  rw [rwide_no hw, Option.bind_some, if_neg (by decide)]
theorem rbin_kind {w : Nat} (hw : W w) (n : Int) (a b : Int) (k : Nat) (hk : 1 ≤ k) (h : ¬ (5 ≤ n ∧ n ≤ 18)) : retargetref01_Binary.f k n (w : Int) a b = some (0, 2) := by
  obtain ⟨m, rfl⟩ : ∃ m, k = m + 1 := ⟨k - 1, by omega⟩
  unfold retargetref01_Binary.f
  rw [rwide_yes hw, Option.bind_some, if_pos rfl]
  by_cases h0 : n < 5
  · rw [if_pos h0]
    simp only [retargetref01_Binary.j0]
    rw [if_pos trivial]
  · rw [if_neg h0, decide_eq_true (by omega)]
    simp only [retargetref01_Binary.j0]
    rw [if_pos trivial]
theorem rbin_bad {w : Nat} (hw : W w) (n : Int) (a b : Nat) (ha : a < 2 ^ 64) (hb : b < 2 ^ 64) (k : Nat) (hk : 200 ≤ k) (h0 : 5 ≤ n) (h1 : n ≤ 18) (hab : ¬ (a < 2 ^ w ∧ b < 2 ^ w)) : retargetref01_Binary.f k n (w : Int) (a : Int) (b : Int) = some (0, 8) := by
  obtain ⟨m, rfl⟩ : ∃ m, k = m + 2 := ⟨k - 2, by omega⟩
  unfold retargetref01_Binary.f
  rw [rwide_yes hw, Option.bind_some, if_pos rfl, if_neg (by omega), decide_eq_false (by omega), show m + 2 = (m + 1) + 1 from rfl, retargetref01_Binary.j0, if_neg (by decide), rok_yes hw a (m + 1) ha (by omega), Option.bind_some]
  by_cases h : a < 2 ^ w
  · rw [decide_eq_true h, if_pos rfl, rok_yes hw b (m + 1) hb (by omega), Option.bind_some, decide_eq_false (fun h2 => hab ⟨h, h2⟩), retargetref01_Binary.j1, if_pos (by rfl)]
  · rw [decide_eq_false h, if_neg (by decide), retargetref01_Binary.j1, if_pos rfl]
theorem rbin_top {w : Nat} (hw : W w) (n : Int) {a b : Nat} (ha : a < 2 ^ w) (hb : b < 2 ^ w) (m : Nat) (hk : 200 ≤ m) (h0 : 5 ≤ n) (h1 : n ≤ 18) : retargetref01_Binary.f (m + 1) n (w : Int) (a : Int) (b : Int) = retargetref01_Binary.j1 m n (w : Int) (a : Int) (b : Int) false := by
  unfold retargetref01_Binary.f
  rw [rwide_yes hw, Option.bind_some, if_pos rfl, if_neg (by omega), decide_eq_false (by omega), retargetref01_Binary.j0, if_neg (by decide), rok_yes hw a m (small_of hw ha) (by omega), Option.bind_some, decide_eq_true ha, if_pos rfl, rok_yes hw b m (small_of hw hb) (by omega), Option.bind_some, decide_eq_true hb]
  rfl
section
variable {w : Nat} (hw : W w) {a b : Nat} (k : Nat) (hk : 1000 ≤ k) (ha : a < 2 ^ w) (hb : b < 2 ^ w)
include hw hk ha hb
theorem rbin_body (n : Int) (h0 : 5 ≤ n) (h1 : n ≤ 18) (r : Int × Int) (h : ∀ m, 900 ≤ m → (if n = 5 then ((retargetref01_add.f m (bitsL a w) (bitsL b w) 0).bind fun t220 => ((retargetref01_Number.f m t220).bind fun t223 => (some (t223, 0)))) else (if n = 6 then ((retargetref01_not.f m (bitsL b w)).bind fun t224 => ((retargetref01_add.f m (bitsL a w) t224 1).bind fun t227 => ((retargetref01_Number.f m t227).bind fun t230 => (some (t230, 0))))) else (if n = 7 then ((retargetref01_mul.f m (bitsL a w) (bitsL b w)).bind fun t231 => ((retargetref01_Number.f m t231).bind fun t234 => (some (t234, 0)))) else (if n = 8 then (retargetref01_Binary.j2 m n (w : Int) (a : Int) (b : Int) (bitsL a w) (bitsL b w) (bt a (w - 1) : Int) ([] : List Int) n (n == 8)) else (if n = 9 then (retargetref01_Binary.j2 m n (w : Int) (a : Int) (b : Int) (bitsL a w) (bitsL b w) (bt a (w - 1) : Int) ([] : List Int) n (n == 9)) else (retargetref01_Binary.j2 m n (w : Int) (a : Int) (b : Int) (bitsL a w) (bitsL b w) (bt a (w - 1) : Int) ([] : List Int) n (n == 10))))))) = some r) :
    retargetref01_Binary.f k n (w : Int) (a : Int) (b : Int) = some r := by
  obtain ⟨m, rfl⟩ : ∃ m, k = m + 2 := ⟨k - 2, by omega⟩
  have hw' := hw
  unfold W at hw'
  have e1 : wrap64 ((w : Int) - 1) = ((w - 1 : Nat) : Int) := w_sub1 w (by omega) (by omega)
  have hr := h m (by omega)
  rw [show m + 2 = (m + 1) + 1 from rfl, rbin_top hw n ha hb (m + 1) (by omega) h0 h1, retargetref01_Binary.j1, if_neg (by decide), bits_eq a w m (small_of hw ha) hw.2 (by omega), Option.bind_some, bits_eq b w m (small_of hw hb) hw.2 (by omega), Option.bind_some, e1, if_pos (by omega), if_pos (by rw [bitsL_len]; omega), rd_bits a w (w - 1) (by omega)]
  exact hr
theorem rbin_add : retargetref01_Binary.f k 5 (w : Int) (a : Int) (b : Int) = some (((((a + b) % 2 ^ w : Nat)) : Int), 0) := by
  refine rbin_body hw k hk ha hb 5 (by decide) (by decide) _ fun m hm => ?_
  have e : retargetref01_add.f m (bitsL a w) (bitsL b w) 0 = _ := add_eq (x := a) (y := b) (c := 0) (n := w) (by omega) (by have := hw.2; omega) m (by omega)
  rw [if_pos rfl, e, Option.bind_some, num_bits _ w m hw.2 (by omega), Option.bind_some]
  rfl
theorem rbin_sub : retargetref01_Binary.f k 6 (w : Int) (a : Int) (b : Int) = some ((cutN w ((a : Int) - (b : Int)) : Int), 0) := by
  refine rbin_body hw k hk ha hb 6 (by decide) (by decide) _ fun m hm => ?_
  have e : retargetref01_add.f m (bitsL a w) (bitsL (2 ^ w - 1 - b) w) 1 = _ := add_eq (x := a) (y := 2 ^ w - 1 - b) (c := 1) (n := w) (by omega) (by have := hw.2; omega) m (by omega)
  rw [if_neg (by decide), if_pos rfl, not_eq hb (by have := hw.2; omega) m (by omega), Option.bind_some, e, Option.bind_some, num_bits _ w m hw.2 (by omega), Option.bind_some, cutN_cast]
  congr 2
  rw [← Int.add_emod_right, Int.natCast_emod]
  congr 1
  omega
theorem rbin_mul : retargetref01_Binary.f k 7 (w : Int) (a : Int) (b : Int) = some (((a * b % 2 ^ w : Nat) : Int), 0) := by
  refine rbin_body hw k hk ha hb 7 (by decide) (by decide) _ fun m hm => ?_
  rw [if_neg (by decide), if_neg (by decide), if_pos rfl, mul_eq hb hw.1 (by have := hw.2; omega) m (by omega), Option.bind_some, num_bits _ w m hw.2 (by omega), Option.bind_some]
theorem rbin_bool (n : Int) (hn : n = 8 ∨ n = 9 ∨ n = 10) (c : Nat) (hc : Comb n a b c) (hlt : c < 2 ^ w) : retargetref01_Binary.f k n (w : Int) (a : Int) (b : Int) = some ((c : Int), 0) := by
  refine rbin_body hw k hk ha hb n (by omega) (by omega) _ fun m hm => ?_
  obtain ⟨q, rfl⟩ : ∃ q, m = q + 1 := ⟨m - 1, by omega⟩
  have h := bool_l0 n a b c w hw.2 hc w q 0 (by omega) (by have := hw.2; omega)
  rw [Nat.mod_eq_of_lt hlt] at h
  rcases hn with rfl | rfl | rfl
  · rw [if_neg (by decide), if_neg (by decide), if_neg (by decide), if_pos rfl, retargetref01_Binary.j2, if_pos (by rfl)]
    exact h
  · rw [if_neg (by decide), if_neg (by decide), if_neg (by decide), if_neg (by decide), if_pos rfl, retargetref01_Binary.j2, if_pos (by rfl)]
    exact h
  · rw [if_neg (by decide), if_neg (by decide), if_neg (by decide), if_neg (by decide), if_neg (by decide), retargetref01_Binary.j2, if_pos (by rfl)]
    exact h
theorem rbin_j2 (n : Int) (h0 : 11 ≤ n) (h1 : n ≤ 18) (r : Int × Int) (h : ∀ m, 800 ≤ m → (if n = 11 then ((retargetref01_places.f m (b : Int)).bind fun t283 => ((retargetref01_shift.f m (bitsL a w) (wrap64 (-t283)) 0).bind fun t284 => ((retargetref01_Number.f m t284).bind fun t287 => (some (t287, 0))))) else (if n = 12 then ((retargetref01_places.f m (b : Int)).bind fun t288 => ((retargetref01_shift.f m (bitsL a w) t288 0).bind fun t289 => ((retargetref01_Number.f m t289).bind fun t292 => (some (t292, 0))))) else (if n = 13 then ((retargetref01_places.f m (b : Int)).bind fun t293 => ((retargetref01_shift.f m (bitsL a w) t293 (bt a (w - 1) : Int)).bind fun t294 => ((retargetref01_Number.f m t294).bind fun t297 => (some (t297, 0))))) else (if n = 14 then ((retargetref01_divide.f m (bitsL a w) (bitsL b w)).bind fun bt298 => ((retargetref01_Number.f m bt298.1).bind fun t304 => (some (t304, 0)))) else (if n = 15 then ((retargetref01_divide.f m (bitsL a w) (bitsL b w)).bind fun bt305 => ((retargetref01_Number.f m bt305.2).bind fun t311 => (some (t311, 0)))) else (if n = 16 then ((retargetref01_truth.f ((a : Int) == (b : Int))).bind fun t312 => (some (t312, 0))) else (if n = 17 then ((retargetref01_less.f m (bitsL a w) (bitsL b w)).bind fun t313 => ((retargetref01_truth.f t313).bind fun t314 => (some (t314, 0)))) else (if (bt a (w - 1) : Int) = (bt b (w - 1) : Int) then ((retargetref01_less.f m (bitsL a w) (bitsL b w)).bind fun t316 => ((retargetref01_truth.f t316).bind fun t317 => (some (t317, 0)))) else ((retargetref01_truth.f ((bt a (w - 1) : Int) == 1)).bind fun t318 => (some (t318, 0))))))))))) = some r) :
    retargetref01_Binary.f k n (w : Int) (a : Int) (b : Int) = some r := by
  refine rbin_body hw k hk ha hb n (by omega) h1 _ fun m hm => ?_
  obtain ⟨q, rfl⟩ : ∃ q, m = q + 1 := ⟨m - 1, by omega⟩
  have hw' := hw
  unfold W at hw'
  have e1 : wrap64 ((w : Int) - 1) = ((w - 1 : Nat) : Int) := w_sub1 w (by omega) (by omega)
  have hr := h q (by omega)
  rw [if_neg (by omega), if_neg (by omega), if_neg (by omega), if_neg (by omega), if_neg (by omega), beq_eq_false_iff_ne.mpr (show n ≠ 10 by omega), retargetref01_Binary.j2, if_neg (by decide), e1, if_pos (show (0 : Int) ≤ ((w - 1 : Nat) : Int) by omega), if_pos (show ((w - 1 : Nat) : Int) < ((bitsL b w).length : Int) by rw [bitsL_len]; omega), rd_bits b w (w - 1) (by omega)]
  by_cases h18 : n = 18
  · subst h18
    rw [if_neg (by decide), if_neg (by decide), if_neg (by decide), if_neg (by decide), if_neg (by decide), if_neg (by decide), if_neg (by decide)] at hr ⊢
    rw [if_pos rfl]
    exact hr
  · rw [if_neg h18]
    have h7 : n = 11 ∨ n = 12 ∨ n = 13 ∨ n = 14 ∨ n = 15 ∨ n = 16 ∨ n = 17 := by omega
    rcases h7 with rfl | rfl | rfl | rfl | rfl | rfl | rfl
    · rw [if_pos rfl] at hr ⊢; exact hr
    · rw [if_neg (by decide), if_pos rfl] at hr ⊢; exact hr
    · rw [if_neg (by decide), if_neg (by decide), if_pos rfl] at hr ⊢; exact hr
    · rw [if_neg (by decide), if_neg (by decide), if_neg (by decide), if_pos rfl] at hr ⊢; exact hr
    · rw [if_neg (by decide), if_neg (by decide), if_neg (by decide), if_neg (by decide), if_pos rfl] at hr ⊢; exact hr
    · rw [if_neg (by decide), if_neg (by decide), if_neg (by decide), if_neg (by decide), if_neg (by decide), if_pos rfl] at hr ⊢; exact hr
    · rw [if_neg (by decide), if_neg (by decide), if_neg (by decide), if_neg (by decide), if_neg (by decide), if_neg (by decide), if_pos rfl] at hr ⊢; exact hr
end
/-! ### shifts -/
theorem bt_mul_pow (a s i : Nat) : bt (a * 2 ^ s) i = if i < s then 0 else bt a (i - s) := by
  rw [bt_eq, bt_eq, Nat.mul_comm, Nat.testBit_two_pow_mul]
  by_cases h : i < s
  · rw [if_pos h, decide_eq_false (by omega), Bool.false_and]; rfl
  · rw [if_neg h, decide_eq_true (by omega), Bool.true_and]
theorem bt_div_pow (a s i : Nat) : bt (a / 2 ^ s) i = bt a (i + s) := by
  rw [bt_eq, bt_eq, Nat.testBit_div_two_pow, Nat.add_comm]
theorem bt_high {a w i : Nat} (ha : a < 2 ^ w) (h : w ≤ i) : bt a i = 0 := by
  rw [bt_eq, rg_bit_hi ha (by omega)]; rfl
theorem shl_bits (a w s : Nat) (f : Int) : mapL (shL a w (-(s : Int)) f) w = bitsL (a * 2 ^ s) w := by
  refine mapL_bits fun i hi => ?_
  unfold shL
  rw [bt_mul_pow]
  by_cases h : i < s
  · rw [if_pos (by omega), if_pos h]; rfl
  · rw [if_neg (by omega), if_neg (by omega), if_neg h, show ((i : Int) + -(s : Int)).toNat = i - s by omega]
theorem shr_bits {a w : Nat} (ha : a < 2 ^ w) (s : Nat) : mapL (shL a w (s : Int) 0) w = bitsL (a / 2 ^ s) w := by
  refine mapL_bits fun i hi => ?_
  unfold shL
  rw [bt_div_pow, if_neg (by omega)]
  by_cases h : w ≤ i + s
  · rw [if_pos (by omega), bt_high ha h]; rfl
  · rw [if_neg (by omega), show ((i : Int) + (s : Int)).toNat = i + s by omega]
/-- A value whose highest bit is one, with s more ones in front. -/
theorem bt_front {a w : Nat} (ha : a < 2 ^ w) (s i : Nat) (hi : i < w) : bt ((2 ^ w * (2 ^ s - 1) + a) / 2 ^ s) i = if i + s ≥ w then 1 else bt a (i + s) := by
  rw [bt_div_pow, bt_eq, Nat.testBit_two_pow_mul_add _ ha]
  by_cases h : i + s ≥ w
  · rw [if_neg (show ¬ i + s < w by omega), if_pos h, Nat.testBit_two_pow_sub_one, decide_eq_true (by omega)]; rfl
  · rw [if_pos (show i + s < w by omega), if_neg h, bt_eq]
theorem sar_bits {a w : Nat} (ha : a < 2 ^ w) (s : Nat) : mapL (shL a w (s : Int) 1) w = bitsL ((2 ^ w * (2 ^ s - 1) + a) / 2 ^ s) w := by
  refine mapL_bits fun i hi => ?_
  unfold shL
  rw [bt_front ha s i hi, if_neg (by omega)]
  by_cases h : i + s ≥ w
  · rw [if_pos (by omega), if_pos h]; rfl
  · rw [if_neg (by omega), if_neg h, show ((i : Int) + (s : Int)).toNat = i + s by omega]
theorem sar_num {a w : Nat} (ha : a < 2 ^ w) (s : Nat) : (((2 ^ w * (2 ^ s - 1) + a) / 2 ^ s % 2 ^ w : Nat) : Int) = ((a : Int) - ((2 ^ w : Nat) : Int)) / ((2 ^ s : Nat) : Int) % ((2 ^ w : Nat) : Int) := by
  have hp := pow_pos s
  have e : ((2 ^ w * (2 ^ s - 1) + a : Nat) : Int) = ((a : Int) - ((2 ^ w : Nat) : Int)) + ((2 ^ w : Nat) : Int) * ((2 ^ s : Nat) : Int) := by
    rw [Int.natCast_add, Int.natCast_mul, Int.natCast_sub hp, Int.mul_sub]
    omega
  rw [Int.natCast_emod, Int.natCast_ediv, e, Int.add_mul_ediv_right _ _ (by omega), Int.add_emod_right]
theorem top_bit {a w : Nat} (hw : W w) (ha : a < 2 ^ w) : bt a (w - 1) = if a < 2 ^ (w - 1) then 0 else 1 := by
  have hp := pow_half w hw.1
  have h1 := pow_pos (w - 1)
  unfold bt
  by_cases h : a < 2 ^ (w - 1)
  · rw [if_pos h, Nat.div_eq_of_lt h]
  · rw [if_neg h, show a / 2 ^ (w - 1) = 1 from Nat.div_eq_of_lt_le (by omega) (by omega)]
section
variable {w : Nat} (hw : W w) {a b : Nat} (k : Nat) (hk : 1000 ≤ k) (ha : a < 2 ^ w) (hb : b < 2 ^ w)
include hw hk ha hb
theorem rbin_shl : retargetref01_Binary.f k 11 (w : Int) (a : Int) (b : Int) = some (((a * 2 ^ min b 64 % 2 ^ w : Nat) : Int), 0) := by
  refine rbin_j2 hw k hk ha hb 11 (by decide) (by decide) _ fun m hm => ?_
  have hm64 : min b 64 ≤ 64 := Nat.min_le_right _ _
  have ew : wrap64 (-((min b 64 : Nat) : Int)) = -((min b 64 : Nat) : Int) := wrap_small (by omega) (by omega)
  rw [if_pos rfl, places_eq b m (by omega), Option.bind_some, ew, shift_eq a w _ 0 (by omega) (by omega) (by have := hw.2; omega) m (by omega), Option.bind_some, shl_bits, num_bits _ w m hw.2 (by omega), Option.bind_some]
theorem rbin_shr : retargetref01_Binary.f k 12 (w : Int) (a : Int) (b : Int) = some (((a / 2 ^ min b 64 : Nat) : Int), 0) := by
  refine rbin_j2 hw k hk ha hb 12 (by decide) (by decide) _ fun m hm => ?_
  have hm64 : min b 64 ≤ 64 := Nat.min_le_right _ _
  have hlt : a / 2 ^ min b 64 < 2 ^ w := Nat.lt_of_le_of_lt (Nat.div_le_self _ _) ha
  rw [if_neg (by decide), if_pos rfl, places_eq b m (by omega), Option.bind_some, shift_eq a w _ 0 (by omega) (by omega) (by have := hw.2; omega) m (by omega), Option.bind_some, shr_bits ha, num_bits _ w m hw.2 (by omega), Option.bind_some, Nat.mod_eq_of_lt hlt]
theorem rbin_sar : retargetref01_Binary.f k 13 (w : Int) (a : Int) (b : Int) = some ((cutN w (sgn w a / ((2 ^ min b 64 : Nat) : Int)) : Int), 0) := by
  refine rbin_j2 hw k hk ha hb 13 (by decide) (by decide) _ fun m hm => ?_
  have hm64 : min b 64 ≤ 64 := Nat.min_le_right _ _
  have htop := top_bit hw ha
  rw [if_neg (by decide), if_neg (by decide), if_pos rfl, places_eq b m (by omega), Option.bind_some, shift_eq a w _ _ (by omega) (by omega) (by have := hw.2; omega) m (by omega), Option.bind_some, cutN_cast]
  unfold sgn
  by_cases h : a < 2 ^ (w - 1)
  · rw [if_pos h] at htop ⊢
    rw [htop]
    show Option.bind (retargetref01_Number.f m (mapL (shL a w ((min b 64 : Nat) : Int) 0) w)) _ = _
    rw [shr_bits ha, num_bits _ w m hw.2 (by omega), Option.bind_some, Int.natCast_emod, Int.natCast_ediv]
  · rw [if_neg h] at htop ⊢
    rw [htop]
    show Option.bind (retargetref01_Number.f m (mapL (shL a w ((min b 64 : Nat) : Int) 1) w)) _ = _
    rw [sar_bits ha, num_bits _ w m hw.2 (by omega), Option.bind_some, sar_num ha]
theorem rbin_udiv : retargetref01_Binary.f k 14 (w : Int) (a : Int) (b : Int) = some (((if b = 0 then 2 ^ w - 1 else a / b : Nat) : Int), 0) := by
  refine rbin_j2 hw k hk ha hb 14 (by decide) (by decide) _ fun m hm => ?_
  have hp := pow_pos w
  rw [if_neg (by decide), if_neg (by decide), if_neg (by decide), if_pos rfl, divide_eq ha hb hw.1 hw.2 m (by omega), Option.bind_some]
  by_cases h : b = 0
  · rw [if_pos h, if_pos h, num_bits _ w m hw.2 (by omega), Option.bind_some, Nat.mod_eq_of_lt (by omega)]
  · rw [if_neg h, if_neg h, num_bits _ w m hw.2 (by omega), Option.bind_some, Nat.mod_eq_of_lt (Nat.lt_of_le_of_lt (Nat.div_le_self _ _) ha)]
theorem rbin_urem : retargetref01_Binary.f k 15 (w : Int) (a : Int) (b : Int) = some (((if b = 0 then a else a % b : Nat) : Int), 0) := by
  refine rbin_j2 hw k hk ha hb 15 (by decide) (by decide) _ fun m hm => ?_
  rw [if_neg (by decide), if_neg (by decide), if_neg (by decide), if_neg (by decide), if_pos rfl, divide_eq ha hb hw.1 hw.2 m (by omega), Option.bind_some]
  by_cases h : b = 0
  · rw [if_pos h, if_pos h, num_bits _ w m hw.2 (by omega), Option.bind_some, Nat.mod_eq_of_lt ha]
  · rw [if_neg h, if_neg h, num_bits _ w m hw.2 (by omega), Option.bind_some, Nat.mod_eq_of_lt (Nat.lt_of_le_of_lt (Nat.mod_le _ _) ha)]
theorem rbin_eq : retargetref01_Binary.f k 16 (w : Int) (a : Int) (b : Int) = some (((if a = b then 1 else 0 : Nat) : Int), 0) := by
  refine rbin_j2 hw k hk ha hb 16 (by decide) (by decide) _ fun m hm => ?_
  have e : ((a : Int) == (b : Int)) = decide (a = b) := by
    by_cases h : a = b
    · rw [decide_eq_true h, beq_iff_eq]; omega
    · rw [decide_eq_false h, beq_eq_false_iff_ne]; omega
  rw [if_neg (by decide), if_neg (by decide), if_neg (by decide), if_neg (by decide), if_neg (by decide), if_pos rfl, e, truth_eq, Option.bind_some]
  simp only [decide_eq_true_eq]
theorem rbin_ult : retargetref01_Binary.f k 17 (w : Int) (a : Int) (b : Int) = some (((if a < b then 1 else 0 : Nat) : Int), 0) := by
  refine rbin_j2 hw k hk ha hb 17 (by decide) (by decide) _ fun m hm => ?_
  rw [if_neg (by decide), if_neg (by decide), if_neg (by decide), if_neg (by decide), if_neg (by decide), if_neg (by decide), if_pos rfl, less_eq ha hb (by have := hw.2; omega) m (by omega), Option.bind_some, truth_eq, Option.bind_some]
  simp only [decide_eq_true_eq]
theorem rbin_slt : retargetref01_Binary.f k 18 (w : Int) (a : Int) (b : Int) = some (((if sgn w a < sgn w b then 1 else 0 : Nat) : Int), 0) := by
  refine rbin_j2 hw k hk ha hb 18 (by decide) (by decide) _ fun m hm => ?_
  have h1 := top_bit hw ha
  have h2 := top_bit hw hb
  have hp := pow_half w hw.1
  have key : (if (bt a (w - 1) : Int) = (bt b (w - 1) : Int) then decide (a < b) else ((bt a (w - 1) : Int) == 1)) = decide (sgn w a < sgn w b) := by
    unfold sgn
    rw [h1, h2]
    by_cases c1 : a < 2 ^ (w - 1) <;> by_cases c2 : b < 2 ^ (w - 1)
    · rw [if_pos c1, if_pos c2, if_pos c1, if_pos c2, if_pos rfl]
      exact decide_eq_decide.2 (by omega)
    · rw [if_pos c1, if_neg c2, if_pos c1, if_neg c2, if_neg (by decide), decide_eq_false (by omega)]
      rfl
    · rw [if_neg c1, if_pos c2, if_neg c1, if_pos c2, if_neg (by decide), decide_eq_true (by omega)]
      rfl
    · rw [if_neg c1, if_neg c2, if_neg c1, if_neg c2, if_pos rfl]
      exact decide_eq_decide.2 (by omega)
  rw [if_neg (by decide), if_neg (by decide), if_neg (by decide), if_neg (by decide), if_neg (by decide), if_neg (by decide), if_neg (by decide), less_eq ha hb (by have := hw.2; omega) m (by omega)]
  by_cases c : (bt a (w - 1) : Int) = (bt b (w - 1) : Int)
  · rw [if_pos c] at key ⊢
    rw [Option.bind_some, key, truth_eq, Option.bind_some]
    simp only [decide_eq_true_eq]
  · rw [if_neg c] at key ⊢
    rw [key, truth_eq, Option.bind_some]
    simp only [decide_eq_true_eq]
/-- At every kind: the program's answer is the reference's. -/
theorem bin_same (n : Nat) (h0 : 5 ≤ n) (h1 : n ≤ 18) : ∃ v : Nat, bits_Binary.f k (n : Int) (w : Int) (a : Int) (b : Int) = some ((v : Int), 0) ∧ retargetref01_Binary.f k (n : Int) (w : Int) (a : Int) (b : Int) = some ((v : Int), 0) := by
  have h3 : 3 ≤ k := by omega
  have hn : n = 5 ∨ n = 6 ∨ n = 7 ∨ n = 8 ∨ n = 9 ∨ n = 10 ∨ n = 11 ∨ n = 12 ∨ n = 13 ∨ n = 14 ∨ n = 15 ∨ n = 16 ∨ n = 17 ∨ n = 18 := by omega
  rcases hn with rfl | rfl | rfl | rfl | rfl | rfl | rfl | rfl | rfl | rfl | rfl | rfl | rfl | rfl
  · exact ⟨_, bin_add hw k h3 ha hb, rbin_add hw k hk ha hb⟩
  · exact ⟨_, bin_sub hw k h3 ha hb, rbin_sub hw k hk ha hb⟩
  · exact ⟨_, bin_mul hw k h3 ha hb, rbin_mul hw k hk ha hb⟩
  · exact ⟨_, bin_and hw k h3 ha hb, rbin_bool hw k hk ha hb 8 (.inl rfl) _ (comb_and a b) (Nat.and_lt_two_pow a hb)⟩
  · exact ⟨_, bin_or hw k h3 ha hb, rbin_bool hw k hk ha hb 9 (.inr (.inl rfl)) _ (comb_or a b) (Nat.or_lt_two_pow ha hb)⟩
  · exact ⟨_, bin_xor hw k h3 ha hb, rbin_bool hw k hk ha hb 10 (.inr (.inr rfl)) _ (comb_xor a b) (Nat.xor_lt_two_pow ha hb)⟩
  · exact ⟨_, bin_shl hw k h3 ha hb, rbin_shl hw k hk ha hb⟩
  · exact ⟨_, bin_shr hw k h3 ha hb, rbin_shr hw k hk ha hb⟩
  · exact ⟨_, bin_sar hw k h3 ha hb, rbin_sar hw k hk ha hb⟩
  · exact ⟨_, bin_udiv hw k h3 ha hb, rbin_udiv hw k hk ha hb⟩
  · exact ⟨_, bin_urem hw k h3 ha hb, rbin_urem hw k hk ha hb⟩
  · exact ⟨_, bin_eq hw k h3 ha hb, rbin_eq hw k hk ha hb⟩
  · exact ⟨_, bin_ult hw k h3 ha hb, rbin_ult hw k hk ha hb⟩
  · exact ⟨_, bin_slt hw k h3 ha hb, rbin_slt hw k hk ha hb⟩
end
end Go.Proofs.Ytbckdelbkcfjkaa.BiP
