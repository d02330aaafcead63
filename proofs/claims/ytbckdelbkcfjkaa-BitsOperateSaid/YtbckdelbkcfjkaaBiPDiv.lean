/- Plain lemmas: the reference's division of lists of bits, and its operations on two values, as numbers. -/
import Derived.Test.YtbckdelbkcfjkaaBiPRef
import Derived.Test.YtbckdelbkcfjkaaBiFretargetref01divide
namespace Go.Proofs.Ytbckdelbkcfjkaa.BiP
set_option linter.unusedVariables false
set_option linter.unusedSimpArgs false
open Go.RowKit Go.Proofs.Ytbckdelbkcfjkaa.Bi Go.Proofs.YtbckdelbkcfjkaaW.PrintWords Go.Proofs.YtbckdelbkcfjkaaW.PrintLast Go.Proofs.YtbckdelbkcfjkaaW.PrintMore
theorem bt_odd (x b i : Nat) (hb : b < 2) : bt (2 * x + b) (i + 1) = bt x i := by
  unfold bt
  rw [Nat.pow_succ, Nat.mul_comm (2 ^ i) 2, ← Nat.div_div_eq_div_mul, show (2 * x + b) / 2 = x by omega]
theorem bitsL_cons (x n b : Nat) (hb : b < 2) : (b : Int) :: bitsL x n = bitsL (2 * x + b) (n + 1) := by
  induction n with
  | zero =>
    have h : (2 * x + b) % 2 = b := by omega
    rw [bitsL_step (2 * x + b) 0]
    unfold bt
    rw [Nat.pow_zero, Nat.div_one, h]
    rfl
  | succ n ih => rw [bitsL_step x n, ← List.cons_append, ih, bitsL_step (2 * x + b) (n + 1), bt_odd x b n hb]
theorem set_zero (r n b : Nat) (hb : b < 2) : (bitsL (2 * r) (n + 1)).set 0 (b : Int) = bitsL (2 * r + b) (n + 1) := by
  rw [← bitsL_double, List.set_cons_zero, bitsL_cons _ _ _ hb]
theorem bt_hi (q j i : Nat) : bt (q * 2 ^ (j + 1) + 2 ^ j) i = if i = j then 1 else bt (q * 2 ^ (j + 1)) i := by
  have e2 : q * 2 ^ (j + 1) = 2 ^ j * (2 * q) := by rw [Nat.pow_succ, Nat.mul_comm q, Nat.mul_assoc]
  have e1 : q * 2 ^ (j + 1) + 2 ^ j = 2 ^ j * (2 * q + 1) := by rw [e2, Nat.mul_add, Nat.mul_one]
  rw [bt_eq, bt_eq, e1, e2, Nat.testBit_two_pow_mul, Nat.testBit_two_pow_mul]
  by_cases h : i = j
  · subst h
    have h2 : (2 * q + 1).testBit 0 = true := by rw [Nat.testBit_zero]; exact decide_eq_true (by omega)
    rw [if_pos rfl, Nat.sub_self, h2, decide_eq_true (Nat.le_refl i)]
    rfl
  · rw [if_neg h]
    by_cases h2 : j ≤ i
    · obtain ⟨d, hd⟩ : ∃ d, i - j = d + 1 := ⟨i - j - 1, by omega⟩
      rw [hd, Nat.testBit_succ, Nat.testBit_succ, show (2 * q + 1) / 2 = q by omega, show 2 * q / 2 = q by omega]
    · rw [decide_eq_false h2, Bool.false_and, Bool.false_and]
theorem get_bits (x n i : Nat) (h : i < (bitsL x n).length) : (bitsL x n)[i] = (bt x i : Int) := by simp [bitsL, bt]
theorem set_bit (q j n : Nat) (hj : j < n) : (bitsL (q * 2 ^ (j + 1)) n).set j 1 = bitsL (q * 2 ^ (j + 1) + 2 ^ j) n := by
  apply List.ext_getElem
  · rw [List.length_set, bitsL_len, bitsL_len]
  · intro i h1 h2
    rw [List.getElem_set, get_bits, get_bits, bt_hi]
    by_cases h : i = j
    · rw [if_pos h.symm, if_pos h]; rfl
    · rw [if_neg (fun e => h e.symm), if_neg h]
theorem bitsL_wrap (x n : Nat) : bitsL (x + 2 ^ n) n = bitsL x n := by
  rw [← bitsL_mod (x + 2 ^ n) n, Nat.add_mod_right, bitsL_mod]
theorem div_small {X y b : Nat} (hy : 0 < y) (h : 2 * (X % y) + b < y) : (2 * X + b) / y = 2 * (X / y) ∧ (2 * X + b) % y = 2 * (X % y) + b := by
  have e := Nat.div_add_mod X y
  have e2 : 2 * X + b = (2 * (X % y) + b) + y * (2 * (X / y)) := by rw [Nat.mul_left_comm]; omega
  rw [e2, Nat.add_mul_div_left _ _ hy, Nat.add_mul_mod_self_left, Nat.div_eq_of_lt h, Nat.mod_eq_of_lt h]
  exact ⟨by omega, rfl⟩
theorem div_great {X y b : Nat} (hy : 0 < y) (hb : b < 2) (h : ¬ 2 * (X % y) + b < y) : (2 * X + b) / y = 2 * (X / y) + 1 ∧ (2 * X + b) % y = 2 * (X % y) + b - y := by
  have e := Nat.div_add_mod X y
  have hr := Nat.mod_lt X hy
  have e2 : 2 * X + b = (2 * (X % y) + b - y) + y * (2 * (X / y) + 1) := by rw [Nat.mul_add, Nat.mul_one, Nat.mul_left_comm]; omega
  rw [e2, Nat.add_mul_div_left _ _ hy, Nat.add_mul_mod_self_left, Nat.div_eq_of_lt (by omega), Nat.mod_eq_of_lt (by omega)]
  exact ⟨by omega, rfl⟩
theorem divide_l0 (x y n : Nat) (hy0 : 0 < y) (hy : y < 2 ^ n) (h0 : 1 ≤ n) (hn : n ≤ 64) : ∀ j k : Nat, j ≤ n → j + 200 < k →
    retargetref01_divide.l0 k (bitsL x n) (bitsL (x / 2 ^ j / y * 2 ^ j) n) (bitsL (x / 2 ^ j % y) (n + 1)) (bitsL y (n + 1)) ((j : Int) - 1) = some (bitsL (x / y) n, bitsL (x % y) n) := by
  have hpn : 2 ^ (n + 1) = 2 * 2 ^ n := by rw [Nat.pow_succ 2 n]; omega
  have hy2 : y < 2 ^ (n + 1) := by omega
  intro j
  induction j with
  | zero =>
    intro k h1 h2
    obtain ⟨m, rfl⟩ : ∃ m, k = m + 1 := ⟨k - 1, by omega⟩
    simp only [retargetref01_divide.l0]
    rw [if_neg (by omega), if_pos (by omega), if_pos (by rw [bitsL_len, bitsL_len]; omega), bitsL_len, Nat.pow_zero, Nat.div_one, Nat.mul_one, Int.toNat_natCast, bitsL_take _ _ _ (by omega)]
  | succ j ih =>
    intro k h1 h2
    obtain ⟨m, rfl⟩ : ∃ m, k = m + 1 := ⟨k - 1, by omega⟩
    have ej : ((j + 1 : Nat) : Int) - 1 = (j : Int) := by omega
    have hx := half_step x j
    have hb := bt_lt x j
    have hr : x / 2 ^ (j + 1) % y < y := Nat.mod_lt _ hy0
    have ih := ih m (by omega) (by omega)
    rw [hx] at ih
    have hw1 : wrap64 ((j : Int) - 1) = (j : Int) - 1 := wrap_small (by omega) (by omega)
    have hl := less_eq (x := 2 * (x / 2 ^ (j + 1) % y) + bt x j) (y := y) (n := n + 1) (by omega) hy2 (by omega) m (by omega)
    have hn1 := not_eq (x := y) (n := n + 1) hy2 (by omega) m (by omega)
    have ha : retargetref01_add.f m (bitsL (2 * (x / 2 ^ (j + 1) % y) + bt x j) (n + 1)) (bitsL (2 ^ (n + 1) - 1 - y) (n + 1)) 1 = _ := add_eq (x := 2 * (x / 2 ^ (j + 1) % y) + bt x j) (y := 2 ^ (n + 1) - 1 - y) (c := 1) (n := n + 1) (by omega) (by omega) m (by omega)
    have hrd := rd_bits x n j (by omega)
    have hset := fun r => set_zero r n (bt x j) hb
    by_cases hlt : 2 * (x / 2 ^ (j + 1) % y) + bt x j < y
    · rw [(div_small hy0 hlt).1, (div_small hy0 hlt).2, show 2 * (x / 2 ^ (j + 1) / y) * 2 ^ j = x / 2 ^ (j + 1) / y * 2 ^ (j + 1) by rw [Nat.pow_succ, Nat.mul_comm 2 (x / (2 ^ j * 2) / y), Nat.mul_assoc, Nat.mul_comm 2]] at ih
      rw [decide_eq_true hlt] at hl
      simp only [retargetref01_divide.l0]
      rw [ej, if_pos (by omega), up_eq _ (n + 1) (by omega) (by omega), Option.bind_some, if_pos (by omega), if_pos (by rw [bitsL_len]; omega), if_pos (by rw [bitsL_len]; omega), hrd, show ((0 : Int)).toNat = 0 from rfl, hset, Option.bind_some, hl, Option.bind_some, if_pos rfl, hw1]
      exact ih
    · rw [(div_great hy0 hb hlt).1, (div_great hy0 hb hlt).2, show (2 * (x / 2 ^ (j + 1) / y) + 1) * 2 ^ j = x / 2 ^ (j + 1) / y * 2 ^ (j + 1) + 2 ^ j by rw [Nat.add_mul, Nat.one_mul, Nat.pow_succ, Nat.mul_comm 2 (x / (2 ^ j * 2) / y), Nat.mul_assoc, Nat.mul_comm 2]] at ih
      rw [decide_eq_false hlt] at hl
      have e3 : 2 * (x / 2 ^ (j + 1) % y) + bt x j + (2 ^ (n + 1) - 1 - y) + 1 = 2 * (x / 2 ^ (j + 1) % y) + bt x j - y + 2 ^ (n + 1) := by omega
      rw [e3, bitsL_wrap] at ha
      simp only [retargetref01_divide.l0]
      rw [ej, if_pos (by omega), up_eq _ (n + 1) (by omega) (by omega), Option.bind_some, if_pos (by omega), if_pos (by rw [bitsL_len]; omega), if_pos (by rw [bitsL_len]; omega), hrd, show ((0 : Int)).toNat = 0 from rfl, hset, Option.bind_some, hl, Option.bind_some, if_neg (by decide), hn1, Option.bind_some, ha, Option.bind_some, if_pos (by rw [bitsL_len]; omega), hw1, Int.toNat_natCast, set_bit _ j n (by omega)]
      exact ih
theorem bitsL_top {y n : Nat} (hy : y < 2 ^ n) : bitsL y n ++ [0] = bitsL y (n + 1) := by
  rw [bitsL_step]
  unfold bt
  rw [Nat.div_eq_of_lt hy]
  rfl
theorem divide_eq {x y n : Nat} (hx : x < 2 ^ n) (hy : y < 2 ^ n) (h0 : 1 ≤ n) (hn : n ≤ 64) (k : Nat) (hk : 400 ≤ k) :
    retargetref01_divide.f k (bitsL x n) (bitsL y n) = some (if y = 0 then (bitsL (2 ^ n - 1) n, bitsL x n) else (bitsL (x / y) n, bitsL (x % y) n)) := by
  have hnum := number_eq (bitsL y n) (by rw [bitsL_len]; omega) k (by omega)
  rw [numL_val hy] at hnum
  have hw1 : wrap64 ((n : Int) - 1) = (n : Int) - 1 := wrap_small (by omega) (by omega)
  unfold retargetref01_divide.f
  rw [hnum, Option.bind_some]
  by_cases c : y = 0
  · have hnot := not_eq (x := 0) (n := n) (pow_pos n) (by omega) k (by omega)
    rw [Nat.sub_zero] at hnot
    rw [if_pos (by omega), if_pos c, bitsL_len, zeros_eq n (by omega), Option.bind_some, hnot, Option.bind_some]
  · have h := divide_l0 x y n (by omega) hy h0 hn n k (Nat.le_refl _) (by omega)
    rw [Nat.div_eq_of_lt hx, Nat.zero_div, Nat.zero_mul, Nat.zero_mod] at h
    rw [if_neg (by omega), if_neg c, bitsL_len, zeros_eq n (by omega), Option.bind_some, w_add1 n (by omega), zeros_eq (n + 1) (by omega), Option.bind_some, Option.bind_some, if_pos (by rw [bitsL_len, List.length_nil]; omega), List.nil_append, Option.bind_some, if_pos (by rw [bitsL_len]; omega), bitsL_top hy, hw1]
    exact h
end Go.Proofs.Ytbckdelbkcfjkaa.BiP
