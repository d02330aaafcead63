/- Plain lemmas: what the reference's functions over lists of bits do to numbers. -/
import Derived.Test.YtbckdelbkcfjkaaBiPRing
import Derived.Test.YtbckdelbkcfjkaaBiG5
import Derived.Test.YtbckdelbkcfjkaaBiFretargetref01mul
namespace Go.Proofs.Ytbckdelbkcfjkaa.BiP
set_option linter.unusedVariables false
set_option linter.unusedSimpArgs false
open Go.RowKit Go.Proofs.Ytbckdelbkcfjkaa.Bi Go.Proofs.YtbckdelbkcfjkaaW.PrintWords Go.Proofs.YtbckdelbkcfjkaaW.PrintLast Go.Proofs.YtbckdelbkcfjkaaW.PrintMore
/-- A bit of a number, as a number. -/
def bt (x i : Nat) : Nat := x / 2 ^ i % 2
theorem bt_lt (x i : Nat) : bt x i < 2 := Nat.mod_lt _ (by decide)
theorem bt_cases (x i : Nat) : bt x i = 0 ∨ bt x i = 1 := by have := bt_lt x i; omega
theorem rd_bits (x n i : Nat) (h : i < n) : rd (bitsL x n) (i : Int) = (bt x i : Int) := by
  unfold rd bitsL bt
  simp [h]
theorem bitsL_step (x n : Nat) : bitsL x (n + 1) = bitsL x n ++ [(bt x n : Int)] := bitsL_snoc x n
theorem bt_eq (x i : Nat) : bt x i = if x.testBit i then 1 else 0 := by
  unfold bt
  rw [Nat.testBit_eq_decide_div_mod_eq]
  by_cases h : x / 2 ^ i % 2 = 1
  · rw [if_pos (by simpa using h), h]
  · rw [if_neg (by simpa using h)]; omega
theorem bitsL_congr {x y n : Nat} (h : ∀ i, i < n → bt x i = bt y i) : bitsL x n = bitsL y n := by
  induction n with
  | zero => rfl
  | succ n ih => rw [bitsL_step, bitsL_step, ih (fun i hi => h i (by omega)), h n (by omega)]
theorem not_l0 (x n : Nat) (hx : x < 2 ^ n) : ∀ d k i : Nat, i + d = n → n ≤ 65 → d < k →
    retargetref01_not.l0 k (bitsL x n) (bitsL (2 ^ n - 1 - x) i) (i : Int) = some (bitsL (2 ^ n - 1 - x) n) := by
  intro d
  induction d with
  | zero =>
    intro k i h1 h2 h3
    obtain ⟨m, rfl⟩ : ∃ m, k = m + 1 := ⟨k - 1, by omega⟩
    obtain rfl : i = n := by omega
    simp only [retargetref01_not.l0]
    rw [if_neg (by rw [bitsL_len]; omega)]
  | succ d ih =>
    intro k i h1 h2 h3
    obtain ⟨m, rfl⟩ : ∃ m, k = m + 1 := ⟨k - 1, by omega⟩
    simp only [retargetref01_not.l0]
    rw [if_pos (by rw [bitsL_len]; omega), if_pos (by omega), if_pos (by rw [bitsL_len]; omega), rd_bits x n i (by omega), w_add1 i (by omega)]
    have e : wrap64 (1 - (bt x i : Int)) = (bt (2 ^ n - 1 - x) i : Int) := by
      rw [bt_eq (2 ^ n - 1 - x), rg_bit_not hx, decide_eq_true (by omega : i < n), bt_eq]
      unfold wrap64
      cases x.testBit i <;> decide
    rw [e, ← bitsL_step]
    exact ih m (i + 1) (by omega) h2 (by omega)
theorem not_eq {x n : Nat} (hx : x < 2 ^ n) (hn : n ≤ 65) (k : Nat) (hk : 70 ≤ k) : retargetref01_not.f k (bitsL x n) = some (bitsL (2 ^ n - 1 - x) n) := by
  unfold retargetref01_not.f
  exact not_l0 x n hx n k 0 (by omega) hn (by omega)
/-- The carry into place i of x + y + c. -/
def cy (x y c i : Nat) : Nat := (x % 2 ^ i + y % 2 ^ i + c) / 2 ^ i
theorem mod_step (x i : Nat) : x % 2 ^ (i + 1) = x % 2 ^ i + 2 ^ i * bt x i := by
  unfold bt
  rw [Nat.pow_succ, Nat.mod_mul]
theorem cy_step (x y c i : Nat) : cy x y c (i + 1) = (bt x i + bt y i + cy x y c i) / 2 := by
  unfold cy
  have hp := pow_pos i
  rw [mod_step, mod_step, Nat.pow_succ, ← Nat.div_div_eq_div_mul,
    show x % 2 ^ i + 2 ^ i * bt x i + (y % 2 ^ i + 2 ^ i * bt y i) + c = (x % 2 ^ i + y % 2 ^ i + c) + 2 ^ i * (bt x i + bt y i) by rw [Nat.mul_add]; omega,
    Nat.add_mul_div_left _ _ hp]
  congr 1; omega
theorem bt_add (x y c i : Nat) : bt (x + y + c) i = (bt x i + bt y i + cy x y c i) % 2 := by
  have hp := pow_pos i
  have hx := Nat.div_add_mod x (2 ^ i)
  have hy := Nat.div_add_mod y (2 ^ i)
  unfold cy
  show (x + y + c) / 2 ^ i % 2 = _
  rw [show x + y + c = (x % 2 ^ i + y % 2 ^ i + c) + 2 ^ i * (x / 2 ^ i + y / 2 ^ i) by rw [Nat.mul_add]; omega, Nat.add_mul_div_left _ _ hp]
  unfold bt
  omega
theorem cy_le (x y c i : Nat) (hc : c ≤ 1) : cy x y c i ≤ 1 := by
  have hp := pow_pos i
  have h1 := Nat.mod_lt x hp
  have h2 := Nat.mod_lt y hp
  unfold cy
  have : (x % 2 ^ i + y % 2 ^ i + c) / 2 ^ i < 2 := (Nat.div_lt_iff_lt_mul hp).2 (by omega)
  omega
theorem add_l0 (x y c n : Nat) (hc : c ≤ 1) : ∀ d k i : Nat, i + d = n → n ≤ 65 → d < k →
    retargetref01_add.l0 k (bitsL x n) (bitsL y n) (cy x y c i : Int) (bitsL (x + y + c) i) (i : Int) = some (bitsL (x + y + c) n) := by
  intro d
  induction d with
  | zero =>
    intro k i h1 h2 h3
    obtain ⟨m, rfl⟩ : ∃ m, k = m + 1 := ⟨k - 1, by omega⟩
    obtain rfl : i = n := by omega
    simp only [retargetref01_add.l0]
    rw [if_neg (by rw [bitsL_len]; omega)]
  | succ d ih =>
    intro k i h1 h2 h3
    obtain ⟨m, rfl⟩ : ∃ m, k = m + 1 := ⟨k - 1, by omega⟩
    have b1 := bt_lt x i
    have b2 := bt_lt y i
    have b3 := cy_le x y c i hc
    have e1 : wrap64 (wrap64 ((bt x i : Int) + (bt y i : Int)) + (cy x y c i : Int)) = ((bt x i + bt y i + cy x y c i : Nat) : Int) := by unfold wrap64; omega
    have e2 : Int.tmod ((bt x i + bt y i + cy x y c i : Nat) : Int) 2 = (bt (x + y + c) i : Int) := by
      rw [bt_add, Int.tmod_eq_emod_of_nonneg (Int.natCast_nonneg _)]; rfl
    have e3 : wrap64 (Int.tdiv ((bt x i + bt y i + cy x y c i : Nat) : Int) 2) = (cy x y c (i + 1) : Int) := by
      clear e1 e2
      rw [cy_step, Int.tdiv_eq_ediv_of_nonneg (Int.natCast_nonneg _)]
      exact w_nat ((bt x i + bt y i + cy x y c i) / 2) (by omega)
    simp only [retargetref01_add.l0]
    rw [if_pos (by rw [bitsL_len]; omega), if_pos (by omega), if_pos (by rw [bitsL_len]; omega), if_pos (by rw [bitsL_len]; omega), rd_bits x n i (by omega), rd_bits y n i (by omega), w_add1 i (by omega), e1, e2, e3, ← bitsL_step]
    exact ih m (i + 1) (by omega) h2 (by omega)
theorem add_eq {x y c n : Nat} (hc : c ≤ 1) (hn : n ≤ 65) (k : Nat) (hk : 70 ≤ k) : retargetref01_add.f k (bitsL x n) (bitsL y n) (c : Int) = some (bitsL (x + y + c) n) := by
  unfold retargetref01_add.f
  have h := add_l0 x y c n hc n k 0 (by omega) hn (by omega)
  rw [show cy x y c 0 = c by unfold cy; simp [Nat.mod_one]] at h
  exact h
theorem places_l0 (y : Nat) : ∀ d k i : Nat, i + d = min y 64 → d < k → retargetref01_places.l0 k (y : Int) (i : Int) = some ((min y 64 : Nat) : Int) := by
  intro d
  induction d with
  | zero =>
    intro k i h1 h2
    obtain ⟨m, rfl⟩ : ∃ m, k = m + 1 := ⟨k - 1, by omega⟩
    obtain rfl : i = min y 64 := by omega
    simp only [retargetref01_places.l0]
    by_cases h : y < 64
    · rw [if_pos (by omega), u64_small (Int.natCast_nonneg _) (by omega), if_neg (by omega)]
    · rw [if_neg (by omega)]
  | succ d ih =>
    intro k i h1 h2
    obtain ⟨m, rfl⟩ : ∃ m, k = m + 1 := ⟨k - 1, by omega⟩
    simp only [retargetref01_places.l0]
    rw [if_pos (by omega), u64_small (Int.natCast_nonneg _) (by omega), if_pos (by omega), w_add1 i (by omega)]
    exact ih m (i + 1) (by omega) (by omega)
theorem places_eq (y k : Nat) (hk : 70 ≤ k) : retargetref01_places.f k (y : Int) = some ((min y 64 : Nat) : Int) := by
  unfold retargetref01_places.f
  exact places_l0 y (min y 64) k 0 (by omega) (by omega)
theorem half_step (x j : Nat) : x / 2 ^ j = 2 * (x / 2 ^ (j + 1)) + bt x j := by
  unfold bt
  rw [Nat.pow_succ, ← Nat.div_div_eq_div_mul]
  omega
theorem less_l0 (x y n : Nat) (hn : n ≤ 65) : ∀ j k : Nat, j ≤ n → j < k → x / 2 ^ j = y / 2 ^ j →
    retargetref01_less.l0 k (bitsL x n) (bitsL y n) ((j : Int) - 1) = some (decide (x < y)) := by
  intro j
  induction j with
  | zero =>
    intro k h1 h2 h3
    obtain ⟨m, rfl⟩ : ∃ m, k = m + 1 := ⟨k - 1, by omega⟩
    rw [Nat.pow_zero, Nat.div_one, Nat.div_one] at h3
    subst h3
    simp only [retargetref01_less.l0]
    rw [if_neg (by omega), decide_eq_false (by omega)]
  | succ j ih =>
    intro k h1 h2 h3
    obtain ⟨m, rfl⟩ : ∃ m, k = m + 1 := ⟨k - 1, by omega⟩
    have ej : ((j + 1 : Nat) : Int) - 1 = (j : Int) := by omega
    have hx := half_step x j
    have hy := half_step y j
    have b1 := bt_lt x j
    have b2 := bt_lt y j
    simp only [retargetref01_less.l0]
    rw [ej, if_pos (by omega), if_pos (by omega), if_pos (by rw [bitsL_len]; omega), if_pos (by rw [bitsL_len]; omega), rd_bits x n j (by omega), rd_bits y n j (by omega)]
    by_cases h : bt x j = bt y j
    · rw [if_pos (by omega), show wrap64 ((j : Int) - 1) = (j : Int) - 1 by unfold wrap64; omega]
      exact ih m (by omega) (by omega) (by omega)
    · rw [if_neg (by omega)]
      congr 1
      have hp := pow_pos j
      have hlt : bt x j < bt y j ↔ x < y := by
        constructor
        · intro hl
          have h4 : x / 2 ^ j < y / 2 ^ j := by omega
          exact Nat.lt_of_not_le fun hle => absurd (Nat.div_le_div_right (c := 2 ^ j) hle) (by omega)
        · intro hl
          have h4 : x / 2 ^ j ≤ y / 2 ^ j := Nat.div_le_div_right (by omega)
          omega
      exact decide_eq_decide.2 (by omega)
theorem less_eq {x y n : Nat} (hx : x < 2 ^ n) (hy : y < 2 ^ n) (hn : n ≤ 65) (k : Nat) (hk : 70 ≤ k) : retargetref01_less.f k (bitsL x n) (bitsL y n) = some (decide (x < y)) := by
  unfold retargetref01_less.f
  rw [bitsL_len, show wrap64 ((n : Int) - 1) = (n : Int) - 1 by unfold wrap64; omega]
  exact less_l0 x y n hn n k (by omega) (by omega) (by rw [Nat.div_eq_of_lt hx, Nat.div_eq_of_lt hy])
theorem bitsL_zero (n : Nat) : bitsL 0 n = List.replicate n 0 := by
  induction n with
  | zero => rfl
  | succ n ih => rw [bitsL_step, ih, List.replicate_succ']; simp [bt]
theorem zeros_eq (n : Nat) (hn : n ≤ 65) : retargetref01_zeros.f (n : Int) = some (bitsL 0 n) := by
  unfold retargetref01_zeros.f
  rw [if_pos (by omega), if_pos (by simp; omega), bitsL_zero]
  rfl
theorem bt_double (x i : Nat) : bt (2 * x) (i + 1) = bt x i := by
  unfold bt
  rw [Nat.pow_succ, Nat.mul_comm (2 ^ i) 2, Nat.mul_div_mul_left _ _ (by decide)]
theorem bitsL_double (x n : Nat) : 0 :: bitsL x n = bitsL (2 * x) (n + 1) := by
  induction n with
  | zero => simp [bitsL]
  | succ n ih => rw [bitsL_step x n, ← List.cons_append, ih, bitsL_step (2 * x) (n + 1), bt_double]
theorem bitsL_take (x n m : Nat) (h : m ≤ n) : (bitsL x n).take m = bitsL x m := by
  unfold bitsL
  rw [← List.map_take, List.take_range, Nat.min_eq_left h]
theorem up_eq (x n : Nat) (h0 : 1 ≤ n) (hn : n ≤ 65) : retargetref01_up.f (bitsL x n) = some (bitsL (2 * x) n) := by
  obtain ⟨m, rfl⟩ : ∃ m, n = m + 1 := ⟨n - 1, by omega⟩
  unfold retargetref01_up.f
  rw [bitsL_len, show wrap64 (((m + 1 : Nat) : Int) - 1) = (m : Int) by unfold wrap64; omega, Option.bind_some, if_pos (by omega), if_pos (by omega), Int.toNat_natCast, bitsL_take _ _ _ (by omega), if_pos (by rw [bitsL_len]; simp; omega)]
  exact congrArg some (bitsL_double x m)
theorem bitsL_mod (x n : Nat) : bitsL (x % 2 ^ n) n = bitsL x n := by
  refine bitsL_congr fun i hi => ?_
  rw [bt_eq, bt_eq, Nat.testBit_mod_two_pow, decide_eq_true hi, Bool.true_and]
theorem mul_l0 (x y n : Nat) (h0 : 1 ≤ n) (hn : n ≤ 65) : ∀ d k i : Nat, i + d = n → d + 80 < k →
    retargetref01_mul.l0 k (bitsL (x * 2 ^ i) n) (bitsL y n) (bitsL (x * (y % 2 ^ i)) n) (i : Int) = some (bitsL (x * (y % 2 ^ n)) n) := by
  intro d
  induction d with
  | zero =>
    intro k i h1 h2
    obtain ⟨m, rfl⟩ : ∃ m, k = m + 1 := ⟨k - 1, by omega⟩
    obtain rfl : i = n := by omega
    simp only [retargetref01_mul.l0]
    rw [if_neg (by rw [bitsL_len]; omega)]
  | succ d ih =>
    intro k i h1 h2
    obtain ⟨m, rfl⟩ : ∃ m, k = m + 1 := ⟨k - 1, by omega⟩
    have hu := up_eq (x * 2 ^ i) n h0 hn
    rw [show 2 * (x * 2 ^ i) = x * 2 ^ (i + 1) by rw [Nat.pow_succ, Nat.mul_left_comm, Nat.mul_comm 2]] at hu
    have ih := ih m (i + 1) (by omega) (by omega)
    simp only [retargetref01_mul.l0]
    rw [if_pos (by rw [bitsL_len]; omega), if_pos (by omega), rd_bits y n i (by omega), w_add1 i (by omega), hu]
    simp only [Option.bind_some]
    rw [mod_step, Nat.mul_add, Nat.mul_left_comm x (2 ^ i), Nat.mul_comm (2 ^ i)] at ih
    rcases bt_cases y i with h | h
    · rw [h] at ih ⊢
      rw [if_neg (by omega)]
      rw [Nat.mul_zero, Nat.zero_mul, Nat.add_zero] at ih
      exact ih
    · rw [h] at ih ⊢
      have ha := add_eq (x := x * (y % 2 ^ i)) (y := x * 2 ^ i) (c := 0) (n := n) (by omega) hn m (by omega)
      rw [if_pos (by omega), show (0 : Int) = ((0 : Nat) : Int) from rfl, ha, Option.bind_some, Nat.add_zero]
      rw [Nat.mul_one] at ih
      exact ih
theorem mul_eq {x y n : Nat} (hy : y < 2 ^ n) (h0 : 1 ≤ n) (hn : n ≤ 65) (k : Nat) (hk : 200 ≤ k) : retargetref01_mul.f k (bitsL x n) (bitsL y n) = some (bitsL (x * y) n) := by
  unfold retargetref01_mul.f
  have h := mul_l0 x y n h0 hn n k 0 (by omega) (by omega)
  rw [Nat.pow_zero, Nat.mul_one, Nat.mod_one, Nat.mul_zero, Nat.mod_eq_of_lt hy] at h
  rw [bitsL_len, zeros_eq n hn, Option.bind_some]
  exact h
/-- A list by its places. -/
def mapL (g : Nat → Int) (n : Nat) : List Int := (List.range n).map g
theorem mapL_len (g : Nat → Int) (n : Nat) : (mapL g n).length = n := by simp [mapL]
theorem mapL_step (g : Nat → Int) (n : Nat) : mapL g (n + 1) = mapL g n ++ [g n] := by simp [mapL, List.range_succ]
theorem mapL_bits {g : Nat → Int} {x n : Nat} (h : ∀ i, i < n → g i = (bt x i : Int)) : mapL g n = bitsL x n := by
  induction n with
  | zero => rfl
  | succ n ih => rw [mapL_step, bitsL_step, ih (fun i hi => h i (by omega)), h n (by omega)]
/-- What shift puts at place i. -/
def shL (x n : Nat) (s fill : Int) (i : Nat) : Int := if (i : Int) + s < 0 then 0 else if (i : Int) + s ≥ n then fill else (bt x ((i : Int) + s).toNat : Int)
theorem shift_l0 (x n : Nat) (s fill : Int) (hs0 : -1000 ≤ s) (hs1 : s ≤ 1000) (hn : n ≤ 65) : ∀ d k i : Nat, i + d = n → d < k →
    retargetref01_shift.l0 k (bitsL x n) s fill (mapL (shL x n s fill) i) (i : Int) = some (mapL (shL x n s fill) n) := by
  intro d
  induction d with
  | zero =>
    intro k i h1 h2
    obtain ⟨m, rfl⟩ : ∃ m, k = m + 1 := ⟨k - 1, by omega⟩
    obtain rfl : i = n := by omega
    simp only [retargetref01_shift.l0]
    rw [if_neg (by rw [bitsL_len]; omega)]
  | succ d ih =>
    intro k i h1 h2
    obtain ⟨m, rfl⟩ : ∃ m, k = m + 1 := ⟨k - 1, by omega⟩
    have ih := ih m (i + 1) (by omega) (by omega)
    rw [mapL_step] at ih
    have ew : wrap64 ((i : Int) + s) = (i : Int) + s := by unfold wrap64; omega
    simp only [retargetref01_shift.l0]
    rw [if_pos (by rw [bitsL_len]; omega), ew, w_add1 i (by omega)]
    clear ew
    by_cases c1 : (i : Int) + s < 0
    · rw [if_pos c1, if_pos (by rw [mapL_len]; omega)]
      rw [show shL x n s fill i = 0 by unfold shL; rw [if_pos c1]] at ih
      exact ih
    · rw [if_neg c1, bitsL_len]
      by_cases c2 : (i : Int) + s ≥ n
      · rw [if_pos c2, if_pos (by rw [mapL_len]; omega)]
        rw [show shL x n s fill i = fill by unfold shL; rw [if_neg c1, if_pos c2]] at ih
        exact ih
      · rw [if_neg c2, if_pos (by omega), if_pos (by omega), if_pos (by rw [mapL_len]; omega)]
        obtain ⟨j, hj⟩ : ∃ j : Nat, (i : Int) + s = (j : Int) := ⟨((i : Int) + s).toNat, by omega⟩
        rw [show shL x n s fill i = (bt x j : Int) by unfold shL; rw [if_neg c1, if_neg c2, hj, Int.toNat_natCast]] at ih
        rw [hj, rd_bits x n j (by omega)]
        exact ih
theorem shift_eq (x n : Nat) (s fill : Int) (hs0 : -1000 ≤ s) (hs1 : s ≤ 1000) (hn : n ≤ 65) (k : Nat) (hk : 70 ≤ k) :
    retargetref01_shift.f k (bitsL x n) s fill = some (mapL (shL x n s fill) n) := by
  unfold retargetref01_shift.f
  exact shift_l0 x n s fill hs0 hs1 hn n k 0 (by omega) (by omega)
end Go.Proofs.Ytbckdelbkcfjkaa.BiP
