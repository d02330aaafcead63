/- Plain lemmas on widths, masks, powers and lists of bits, in plain words. -/
import Derived.Test.YtbckdelbkcfjkaaBiG1
import Derived.Test.YtbckdelbkcfjkaaBiG3
import Derived.Test.YtbckdelbkcfjkaaBiG2
namespace Go.Proofs.Ytbckdelbkcfjkaa.BiP
open Go.RowKit Go.Proofs.Ytbckdelbkcfjkaa.Bi Go.Proofs.YtbckdelbkcfjkaaW.PrintWords Go.Proofs.YtbckdelbkcfjkaaW.PrintLast Go.Proofs.YtbckdelbkcfjkaaW.PrintMore

/-! ### whole numbers -/
theorem wrap_small {x : Int} (h0 : -9223372036854775808 ≤ x) (h1 : x < 9223372036854775808) : wrap64 x = x := by unfold wrap64; omega
theorem wrap_great {x : Int} (h0 : 9223372036854775808 ≤ x) (h1 : x < 18446744073709551616) : wrap64 x = x - 18446744073709551616 := by unfold wrap64; omega
theorem u64_small {x : Int} (h0 : 0 ≤ x) (h1 : x < 18446744073709551616) : IntKind.u64.wrap x = x := by
  simp only [IntKind.wrap, IntKind.bits, IntKind.signed, Bool.false_and, Bool.false_eq_true, if_false]; exact Int.emod_eq_of_lt h0 (by omega)
theorem u64_mod (x : Int) : IntKind.u64.wrap x = x % 18446744073709551616 := by
  simp only [IntKind.wrap, IntKind.bits, IntKind.signed, Bool.false_and, Bool.false_eq_true, if_false]; rfl
theorem w_add1 (i : Nat) (h : i < 4611686018427387904) : wrap64 ((i : Int) + 1) = ((i + 1 : Nat) : Int) := by unfold wrap64; omega
theorem w_sub1 (i : Nat) (h0 : 0 < i) (h : i < 4611686018427387904) : wrap64 ((i : Int) - 1) = ((i - 1 : Nat) : Int) := by unfold wrap64; omega
theorem w_sub (i j : Nat) (h0 : j ≤ i) (h : i < 4611686018427387904) : wrap64 ((i : Int) - (j : Int)) = ((i - j : Nat) : Int) := by unfold wrap64; omega
theorem w_nat (i : Nat) (h : i < 4611686018427387904) : wrap64 (i : Int) = (i : Int) := by unfold wrap64; omega
theorem w64_sub (w : Nat) (h : w ≤ 64) : wrap64 (64 - (w : Int)) = ((64 - w : Nat) : Int) := by unfold wrap64; omega
theorem wf_u64 {x : Int} (h : (Lit.int .u64 x).wf = true) : ∃ n : Nat, x = n ∧ n < 2 ^ 64 := by
  simp only [Lit.wf, IntKind.min, IntKind.max, IntKind.bits, IntKind.signed, Bool.false_eq_true, if_false, Bool.and_eq_true, decide_eq_true_eq] at h
  obtain ⟨n, rfl⟩ := Int.eq_ofNat_of_zero_le h.1
  exact ⟨n, rfl, by have := h.2; omega⟩
theorem wf_i64 {x : Int} (h : (Lit.int .i64 x).wf = true) : -9223372036854775808 ≤ x ∧ x < 9223372036854775808 := by
  simp only [Lit.wf, IntKind.min, IntKind.max, IntKind.bits, IntKind.signed, if_true, Bool.and_eq_true, decide_eq_true_eq] at h
  omega
theorem wf_u8 {x : Int} (h : (Lit.int .u8 x).wf = true) : ∃ n : Nat, x = n ∧ n < 256 := by
  simp only [Lit.wf, IntKind.min, IntKind.max, IntKind.bits, IntKind.signed, Bool.false_eq_true, if_false, Bool.and_eq_true, decide_eq_true_eq] at h
  obtain ⟨n, rfl⟩ := Int.eq_ofNat_of_zero_le h.1
  exact ⟨n, rfl, by have := h.2; omega⟩
theorem pow_le (w : Nat) (h : w ≤ 64) : 2 ^ w ≤ 18446744073709551616 := by
  have := Nat.pow_le_pow_right (n := 2) (by decide) h
  simpa using this
theorem pow_lt (w : Nat) (h : w ≤ 63) : 2 ^ w ≤ 9223372036854775808 := by
  have := Nat.pow_le_pow_right (n := 2) (by decide) h
  simpa using this
theorem pow_pos (w : Nat) : 1 ≤ 2 ^ w := Nat.one_le_two_pow
theorem pow_half (w : Nat) (h : 1 ≤ w) : 2 ^ w = 2 * 2 ^ (w - 1) := by
  obtain ⟨m, rfl⟩ : ∃ m, w = m + 1 := ⟨w - 1, by omega⟩
  rw [Nat.pow_succ, Nat.add_sub_cancel]; omega
theorem cpow (w : Nat) : ((2 ^ w : Nat) : Int) = (2 : Int) ^ w := by simp

/-! ### widths -/
/-- A width in range. -/
def W (w : Nat) : Prop := 1 ≤ w ∧ w ≤ 64
theorem wide_or (w : Int) : (∃ n : Nat, w = n ∧ W n) ∨ ¬ (1 ≤ w ∧ w ≤ 64) := by
  by_cases h : 1 ≤ w ∧ w ≤ 64
  · obtain ⟨n, rfl⟩ := Int.eq_ofNat_of_zero_le (show 0 ≤ w by omega)
    exact .inl ⟨n, rfl, by unfold W; omega⟩
  · exact .inr h
theorem wide_yes {w : Nat} (h : W w) : bits_wide.f (w : Int) = some true := by
  unfold W at h; unfold bits_wide.f; rw [if_pos (by omega), decide_eq_true (by omega)]
theorem wide_no {w : Int} (h : ¬ (1 ≤ w ∧ w ≤ 64)) : bits_wide.f w = some false := by
  unfold bits_wide.f
  by_cases h1 : w ≥ 1
  · rw [if_pos h1, decide_eq_false (by omega)]
  · rw [if_neg h1]
theorem rwide_yes {w : Nat} (h : W w) : retargetref01_Wide.f (w : Int) = some true := by
  unfold W at h; unfold retargetref01_Wide.f; rw [if_pos (by omega), decide_eq_true (by omega)]
theorem rwide_no {w : Int} (h : ¬ (1 ≤ w ∧ w ≤ 64)) : retargetref01_Wide.f w = some false := by
  unfold retargetref01_Wide.f
  by_cases h1 : w ≥ 1
  · rw [if_pos h1, decide_eq_false (by omega)]
  · rw [if_neg h1]

/-! ### masks -/
theorem mask_tab : ∀ w : Fin 65, 18446744073709551615 / 2 ^ (64 - w.val) = 2 ^ w.val - 1 := by decide +kernel
theorem shr_nat (x n : Nat) (h : n ≤ 64) : shr .u64 (x : Int) (n : Int) = ((x / 2 ^ n : Nat) : Int) := by
  unfold shr
  rw [show min (n : Int).toNat IntKind.u64.bits = n from Nat.min_eq_left h]
  rw [Int.natCast_ediv, cpow]
theorem mask_yes {w : Nat} (h : W w) : bits_Mask.f (w : Int) = some (((2 ^ w - 1 : Nat)) : Int) := by
  unfold bits_Mask.f
  rw [wide_yes h]
  simp only [Option.bind_some]
  unfold W at h
  rw [if_pos trivial, w64_sub w h.2, if_pos (by omega)]
  rw [show (18446744073709551615 : Int) = ((18446744073709551615 : Nat) : Int) from rfl, shr_nat _ _ (by omega), mask_tab ⟨w, by omega⟩]
theorem mask_no {w : Int} (h : ¬ (1 ≤ w ∧ w ≤ 64)) : bits_Mask.f w = some 0 := by
  unfold bits_Mask.f
  rw [wide_no h]
  rfl

theorem and_mask (x w : Nat) (hx : x < 2 ^ 64) (h : w ≤ 64) : Go.bits .and .u64 (x : Int) ((2 ^ w - 1 : Nat) : Int) = ((x % 2 ^ w : Nat) : Int) := by
  have hp := pow_le w h
  have h1 := pow_pos w
  have hk : ∀ n : Int, 0 ≤ n → n < 2 ^ 64 → IntKind.u64.wrap n = n := fun n a b => u64_small a (by simpa using b)
  rw [(bits_nat .u64 64 (by decide) hk x (2 ^ w - 1) hx (by omega)).1, Nat.and_two_pow_sub_one_eq_mod]
theorem and_nat (x y : Nat) (hx : x < 2 ^ 64) (hy : y < 2 ^ 64) : Go.bits .and .u64 (x : Int) (y : Int) = ((x &&& y : Nat) : Int) :=
  (bits_nat .u64 64 (by decide) (fun n a b => u64_small a (by simpa using b)) x y hx hy).1
theorem or_nat (x y : Nat) (hx : x < 2 ^ 64) (hy : y < 2 ^ 64) : Go.bits .or .u64 (x : Int) (y : Int) = ((x ||| y : Nat) : Int) :=
  (bits_nat .u64 64 (by decide) (fun n a b => u64_small a (by simpa using b)) x y hx hy).2

/-! ### checks of values -/
/-- The error of a value of a width in range. -/
def chk (w x : Nat) : Int := if x < 2 ^ w then 0 else 8
theorem check_l0 {w : Nat} (h : W w) (xs : List Nat) (hl : xs.length ≤ 64) : ∀ d k i, i + d = xs.length → d < k →
    bits_check.l0 k (w : Int) (xs.map fun x : Nat => (x : Int)) (xs.length : Int) (i : Int) = some (if (xs.drop i).all (fun x => decide (x < 2 ^ w)) then 0 else 8) := by
  intro d
  induction d with
  | zero =>
    intro k i h1 h2
    obtain ⟨m, rfl⟩ : ∃ m, k = m + 1 := ⟨k - 1, by omega⟩
    simp only [bits_check.l0]
    rw [if_neg (by omega), List.drop_eq_nil_of_le (by omega)]
    rfl
  | succ d ih =>
    intro k i h1 h2
    obtain ⟨m, rfl⟩ : ∃ m, k = m + 1 := ⟨k - 1, by omega⟩
    have hi : i < xs.length := by omega
    have hr : rd (xs.map fun x : Nat => (x : Int)) (i : Int) = (xs[i] : Int) := by simp [rd, hi]
    have h1p := pow_pos w
    have hm : (xs.map fun x : Nat => (x : Int)).length = xs.length := List.length_map _
    simp only [bits_check.l0]
    rw [hm, if_pos (by omega), if_pos (by omega), if_pos (by omega), mask_yes h]
    simp only [Option.bind_some]
    rw [hr, w_add1 i (by omega), ih m (i + 1) (by omega) (by omega), List.drop_eq_getElem_cons hi, List.all_cons]
    by_cases hx : xs[i] < 2 ^ w
    · rw [if_neg (by omega), decide_eq_true hx, Bool.true_and]
    · rw [if_pos (by omega), decide_eq_false hx, Bool.false_and, if_neg (by decide)]
theorem check_list {w : Nat} (h : W w) (xs : List Nat) (hl : xs.length ≤ 64) (k : Nat) (hk : xs.length < k) :
    bits_check.f k (w : Int) (xs.map fun x : Nat => (x : Int)) = some (if xs.all (fun x => decide (x < 2 ^ w)) then 0 else 8) := by
  unfold bits_check.f
  rw [wide_yes h]
  simp only [Option.bind_some, if_true]
  rw [List.length_map]
  exact check_l0 h xs hl xs.length k 0 (by omega) (by omega)
theorem check_one {w : Nat} (h : W w) (x k : Nat) (hk : 2 ≤ k) : bits_check.f k (w : Int) [(x : Int)] = some (chk w x) := by
  have := check_list h [x] (by simp only [List.length_cons, List.length_nil]; omega) k (by simp only [List.length_cons, List.length_nil]; omega)
  simp only [List.map_cons, List.map_nil, List.all_cons, List.all_nil, Bool.and_true, decide_eq_true_eq] at this
  exact this
theorem check_two {w : Nat} (h : W w) (x y k : Nat) (hk : 3 ≤ k) : bits_check.f k (w : Int) [(x : Int), (y : Int)] = some (if x < 2 ^ w ∧ y < 2 ^ w then 0 else 8) := by
  have := check_list h [x, y] (by simp only [List.length_cons, List.length_nil]; omega) k (by simp only [List.length_cons, List.length_nil]; omega)
  simp only [List.map_cons, List.map_nil, List.all_cons, List.all_nil, Bool.and_true, Bool.and_eq_true, decide_eq_true_eq] at this
  exact this
theorem check_no {w : Int} (h : ¬ (1 ≤ w ∧ w ≤ 64)) (l : List Int) (k : Nat) : bits_check.f k w l = some 14 := by
  unfold bits_check.f
  rw [wide_no h]
  rfl

/-! ### signed values -/
def sgn (w x : Nat) : Int := if x < 2 ^ (w - 1) then (x : Int) else (x : Int) - (2 ^ w : Nat)
theorem shl_nat (x n : Nat) (hn : n ≤ 64) (h : x * 2 ^ n < 18446744073709551616) : shl .u64 (x : Int) (n : Int) = ((x * 2 ^ n : Nat) : Int) := by
  unfold shl
  rw [show min (n : Int).toNat IntKind.u64.bits = n from Nat.min_eq_left hn, ← cpow, ← Int.natCast_mul, u64_small (by omega) (by omega)]
theorem shl_mod (x n : Nat) (hn : n ≤ 64) : shl .u64 (x : Int) (n : Int) = ((x * 2 ^ n % 18446744073709551616 : Nat) : Int) := by
  unfold shl
  rw [show min (n : Int).toNat IntKind.u64.bits = n from Nat.min_eq_left hn, ← cpow, ← Int.natCast_mul, u64_mod]
  rfl
theorem signed_yes {w : Nat} (h : W w) {x : Nat} (hx : x < 2 ^ w) : bits_signed.f (w : Int) (x : Int) = some (sgn w x) := by
  unfold W at h
  unfold bits_signed.f
  have hs : 2 ^ w * 2 ^ (64 - w) = 18446744073709551616 := by rw [← Nat.pow_add, show w + (64 - w) = 64 by omega]
  have hh := pow_half w h.1
  have hq := pow_pos (64 - w)
  have hlt : x * 2 ^ (64 - w) < 18446744073709551616 := by rw [← hs]; exact Nat.mul_lt_mul_of_pos_right hx hq
  rw [w64_sub w h.2, if_pos (by omega), shl_nat _ _ (by omega) hlt]
  unfold shr
  rw [show min ((64 - w : Nat) : Int).toNat IntKind.i64.bits = 64 - w from Nat.min_eq_left (show 64 - w ≤ 64 by omega), ← cpow]
  unfold sgn
  by_cases hc : x < 2 ^ (w - 1)
  · have h2 : 2 ^ (w - 1) * 2 ^ (64 - w) = 9223372036854775808 := by rw [← Nat.pow_add, show w - 1 + (64 - w) = 63 by omega]
    have h3 : x * 2 ^ (64 - w) < 9223372036854775808 := by rw [← h2]; exact Nat.mul_lt_mul_of_pos_right hc hq
    rw [if_pos hc, wrap_small (by omega) (by omega), ← Int.natCast_ediv, Nat.mul_div_cancel _ (by omega)]
  · have h2 : 2 ^ (w - 1) * 2 ^ (64 - w) = 9223372036854775808 := by rw [← Nat.pow_add, show w - 1 + (64 - w) = 63 by omega]
    have h3 : 9223372036854775808 ≤ x * 2 ^ (64 - w) := by rw [← h2]; exact Nat.mul_le_mul_right _ (by omega)
    rw [if_neg hc, wrap_great (by omega) (by omega)]
    have h4 : ((x * 2 ^ (64 - w) : Nat) : Int) - 18446744073709551616 = ((x : Int) - (2 ^ w : Nat)) * ((2 ^ (64 - w) : Nat) : Int) := by
      rw [Int.sub_mul, ← Int.natCast_mul, ← Int.natCast_mul, hs]; rfl
    rw [h4, Int.mul_ediv_cancel _ (by omega)]

/-! ### the reference's numbers -/
theorem power_l0 : ∀ d k n i : Nat, n ≤ 64 → i + d = n → d < k → i ≤ 63 → retargetref01_Power.l0 k (n : Int) ((2 ^ i : Nat) : Int) (i : Int) = some ((2 ^ n % 18446744073709551616 : Nat) : Int) := by
  intro d
  induction d with
  | zero =>
    intro k n i h1 h2 h3 h4
    obtain ⟨m, rfl⟩ : ∃ m, k = m + 1 := ⟨k - 1, by omega⟩
    simp only [retargetref01_Power.l0]
    obtain rfl : i = n := by omega
    have := pow_lt i h4
    rw [if_neg (by omega), Nat.mod_eq_of_lt (by omega)]
  | succ d ih =>
    intro k n i h1 h2 h3 h4
    obtain ⟨m, rfl⟩ : ∃ m, k = m + 1 := ⟨k - 1, by omega⟩
    simp only [retargetref01_Power.l0]
    have hp := pow_lt i h4
    rw [if_pos (by omega), w_add1 i (by omega)]
    by_cases hi : i = 63
    · subst hi
      obtain rfl : n = 64 := by omega
      obtain rfl : d = 0 := by omega
      obtain ⟨m', rfl⟩ : ∃ m', m = m' + 1 := ⟨m - 1, by omega⟩
      simp only [retargetref01_Power.l0]
      rw [if_neg (by omega), u64_mod]
      decide +kernel
    · have e : IntKind.u64.wrap (((2 ^ i : Nat) : Int) + ((2 ^ i : Nat) : Int)) = ((2 ^ (i + 1) : Nat) : Int) := by
        have hp2 := pow_lt (i + 1) (by omega)
        have : 2 ^ (i + 1) = 2 ^ i + 2 ^ i := by rw [Nat.pow_succ]; omega
        rw [u64_small (Int.add_nonneg (Int.natCast_nonneg _) (Int.natCast_nonneg _)) (by omega)]; omega
      rw [e]
      exact ih m n (i + 1) h1 (by omega) (by omega) (by omega)
theorem power_eq (n k : Nat) (h : n ≤ 63) (hk : 65 ≤ k) : retargetref01_Power.f k (n : Int) = some ((2 ^ n : Nat) : Int) := by
  unfold retargetref01_Power.f
  have h0 := power_l0 n k n 0 (by omega) (by omega) (by omega) (by omega)
  have := pow_lt n h
  rw [Nat.mod_eq_of_lt (by omega)] at h0
  exact h0
theorem rok_yes {w : Nat} (h : W w) (x k : Nat) (hx : x < 2 ^ 64) (hk : 65 ≤ k) : retargetref01_Ok.f k (w : Int) (x : Int) = some (decide (x < 2 ^ w)) := by
  unfold retargetref01_Ok.f
  rw [rwide_yes h]
  simp only [Option.bind_some, if_true]
  unfold W at h
  by_cases e : w = 64
  · subst e; rw [if_pos (by rfl), decide_eq_true hx]
  · rw [if_neg (by omega), power_eq w k (by omega) hk]
    simp only [Option.bind_some]
    congr 1
    exact decide_eq_decide.2 (by omega)
theorem rok_no {w : Int} (h : ¬ (1 ≤ w ∧ w ≤ 64)) (x : Int) (k : Nat) : retargetref01_Ok.f k w x = some false := by
  unfold retargetref01_Ok.f
  rw [rwide_no h]
  rfl
theorem ok_yes {w : Nat} (h : W w) (x : Nat) : bits_Ok.f (w : Int) (x : Int) = some (decide (x < 2 ^ w)) := by
  unfold bits_Ok.f
  rw [wide_yes h, mask_yes h]
  simp only [Option.bind_some, if_true]
  have := pow_pos w
  congr 1
  exact decide_eq_decide.2 (by omega)
theorem ok_no {w : Int} (h : ¬ (1 ≤ w ∧ w ≤ 64)) (x : Int) : bits_Ok.f w x = some false := by
  unfold bits_Ok.f
  rw [wide_no h]
  rfl
theorem rmask_yes {w : Nat} (h : W w) (k : Nat) (hk : 65 ≤ k) : retargetref01_Mask.f k (w : Int) = some ((2 ^ w - 1 : Nat) : Int) := by
  unfold retargetref01_Mask.f
  rw [rwide_yes h]
  simp only [Option.bind_some, if_true]
  unfold W at h
  have hp := pow_lt (w - 1) (by omega)
  have h1 := pow_pos (w - 1)
  have h2 := pow_half w h.1
  rw [w_sub1 w (by omega) (by omega), power_eq (w - 1) k (by omega) hk]
  simp only [Option.bind_some]
  have e1 : IntKind.u64.wrap (((2 ^ (w - 1) : Nat) : Int) - 1) = ((2 ^ (w - 1) : Nat) : Int) - 1 := u64_small (by omega) (by omega)
  rw [e1, u64_small (by omega) (by omega), h2]
  congr 1; omega
theorem rmask_no {w : Int} (h : ¬ (1 ≤ w ∧ w ≤ 64)) (k : Nat) : retargetref01_Mask.f k w = some 0 := by
  unfold retargetref01_Mask.f
  rw [rwide_no h]
  rfl
theorem bit_eq (x i k : Nat) (hx : x < 2 ^ 64) (hi : i ≤ 63) (hk : 65 ≤ k) : retargetref01_Bit.f k (x : Int) (i : Int) = some ((x / 2 ^ i % 2 : Nat) : Int) := by
  unfold retargetref01_Bit.f
  rw [power_eq i k hi hk]
  simp only [Option.bind_some]
  have h1 := pow_pos i
  have h2 : x / 2 ^ i ≤ x := Nat.div_le_self _ _
  rw [if_neg (by omega), Int.tdiv_eq_ediv_of_nonneg (Int.natCast_nonneg _), ← Int.natCast_ediv]
  have h3 : x / 2 ^ i % 2 < 2 := Nat.mod_lt _ (by decide)
  generalize x / 2 ^ i = q at h2 h3
  rw [u64_small (by omega) (by omega), Int.tmod_eq_emod_of_nonneg (Int.natCast_nonneg _)]
  rw [show (q : Int) % 2 = ((q % 2 : Nat) : Int) from by omega]
  generalize q % 2 = b at h3
  by_cases hb : b = 1
  · subst hb; rfl
  · obtain rfl : b = 0 := by omega
    rfl

/-! ### lists of bits -/
/-- The lowest n bits of a number. -/
def bitsL (x : Nat) (n : Nat) : List Int := (List.range n).map fun i => ((x / 2 ^ i % 2 : Nat) : Int)
theorem bitsL_len (x n : Nat) : (bitsL x n).length = n := by simp [bitsL]
theorem bitsL_snoc (x n : Nat) : bitsL x (n + 1) = bitsL x n ++ [((x / 2 ^ n % 2 : Nat) : Int)] := by simp [bitsL, List.range_succ]
theorem bits_l0 (x : Nat) (hx : x < 2 ^ 64) : ∀ d k w i : Nat, i + d = w → w ≤ 64 → d + 65 < k →
    retargetref01_Bits.l0 k (w : Int) (x : Int) (bitsL x i) (i : Int) = some (bitsL x w) := by
  intro d
  induction d with
  | zero =>
    intro k w i h1 h2 h3
    obtain ⟨m, rfl⟩ : ∃ m, k = m + 1 := ⟨k - 1, by omega⟩
    obtain rfl : i = w := by omega
    simp only [retargetref01_Bits.l0]
    rw [if_neg (by omega)]
  | succ d ih =>
    intro k w i h1 h2 h3
    obtain ⟨m, rfl⟩ : ∃ m, k = m + 1 := ⟨k - 1, by omega⟩
    simp only [retargetref01_Bits.l0]
    rw [if_pos (by omega), bit_eq x i m hx (by omega) (by omega)]
    simp only [Option.bind_some]
    rw [if_pos (by rw [bitsL_len]; omega), ← bitsL_snoc, w_add1 i (by omega)]
    exact ih m w (i + 1) (by omega) h2 (by omega)
theorem bits_eq (x w k : Nat) (hx : x < 2 ^ 64) (hw : w ≤ 64) (hk : 130 ≤ k) : retargetref01_Bits.f k (w : Int) (x : Int) = some (bitsL x w) := by
  unfold retargetref01_Bits.f
  exact bits_l0 x hx w k w 0 (by omega) hw (by omega)

/-- The number of a list of bits. -/
def numL : List Int → Nat
  | [] => 0
  | b :: l => (if b = 1 then 1 else 0) + 2 * numL l
theorem numL_cons (b : Int) (l : List Int) : numL (b :: l) = (if b = 1 then 1 else 0) + 2 * numL l := rfl
theorem numL_lt : ∀ l : List Int, numL l < 2 ^ l.length
  | [] => by simp [numL]
  | b :: l => by
    have := numL_lt l
    unfold numL
    rw [List.length_cons, Nat.pow_succ]
    split <;> omega
theorem numL_append : ∀ a b : List Int, numL (a ++ b) = numL a + 2 ^ a.length * numL b
  | [], b => by simp [numL]
  | x :: a, b => by
    rw [List.cons_append, numL_cons, numL_cons, numL_append a b, List.length_cons, Nat.pow_succ]
    rw [show 2 ^ a.length * 2 * numL b = 2 * (2 ^ a.length * numL b) by rw [Nat.mul_comm (2 ^ a.length) 2, Nat.mul_assoc]]
    generalize 2 ^ a.length * numL b = t
    omega
theorem number_l0 (l : List Int) (hl : l.length ≤ 64) : ∀ d k i, i + d = l.length → d + 65 < k →
    retargetref01_Number.l0 k l (numL (l.take i) : Int) (i : Int) = some (numL l : Int) := by
  intro d
  induction d with
  | zero =>
    intro k i h1 h2
    obtain ⟨m, rfl⟩ : ∃ m, k = m + 1 := ⟨k - 1, by omega⟩
    simp only [retargetref01_Number.l0]
    rw [if_neg (by omega), List.take_of_length_le (by omega)]
  | succ d ih =>
    intro k i h1 h2
    obtain ⟨m, rfl⟩ : ∃ m, k = m + 1 := ⟨k - 1, by omega⟩
    have hlt : i < l.length := by omega
    have hs : l.take (i + 1) = l.take i ++ [l[i]] := List.take_succ_eq_append_getElem hlt
    have ht : (l.take i).length = i := List.length_take_of_le (by omega)
    have hn : numL (l.take (i + 1)) = numL (l.take i) + 2 ^ i * (if l[i] = 1 then 1 else 0) := by rw [hs, numL_append, ht]; simp [numL]
    have hb : numL (l.take i) < 2 ^ i := by have := numL_lt (l.take i); rwa [ht] at this
    have hp := pow_lt i (by omega)
    have ih' := ih m (i + 1) (by omega) (by omega)
    simp only [retargetref01_Number.l0]
    have hr : rd l (i : Int) = l[i] := by simp [rd, hlt]
    rw [if_pos (by omega), if_pos (by omega), hr, w_add1 i (by omega)]
    by_cases hb1 : l[i] = 1
    · rw [if_pos hb1, power_eq i m (by omega) (by omega)]
      simp only [Option.bind_some]
      rw [if_pos hb1, Nat.mul_one] at hn
      rw [u64_small (by omega) (by omega), ← Int.natCast_add, ← hn]
      exact ih'
    · rw [if_neg hb1]
      rw [if_neg hb1, Nat.mul_zero] at hn
      rw [← show numL (l.take (i + 1)) = numL (l.take i) from hn]
      exact ih'
theorem number_eq (l : List Int) (hl : l.length ≤ 64) (k : Nat) (hk : 130 ≤ k) : retargetref01_Number.f k l = some (numL l : Int) := by
  unfold retargetref01_Number.f
  exact number_l0 l hl l.length k 0 (by omega) (by omega)
theorem numL_bits (x : Nat) : ∀ n, numL (bitsL x n) = x % 2 ^ n
  | 0 => by simp [bitsL, numL, Nat.mod_one]
  | n + 1 => by
    rw [bitsL_snoc, numL_append, bitsL_len, numL_bits x n]
    have h : numL [((x / 2 ^ n % 2 : Nat) : Int)] = x / 2 ^ n % 2 := by
      have h3 : x / 2 ^ n % 2 < 2 := Nat.mod_lt _ (by decide)
      generalize x / 2 ^ n % 2 = b at h3
      by_cases hb : b = 1
      · subst hb; rfl
      · obtain rfl : b = 0 := by omega
        rfl
    rw [h, Nat.pow_succ, Nat.mod_mul]
theorem numL_val {x w : Nat} (h : x < 2 ^ w) : numL (bitsL x w) = x := by rw [numL_bits, Nat.mod_eq_of_lt h]
theorem u64_and_mask (n : Int) (w : Nat) (hw : w ≤ 64) : Go.bits .and .u64 (IntKind.u64.wrap n) ((2 ^ w - 1 : Nat) : Int) = ((n % ((2 ^ w : Nat) : Int)).toNat : Int) ∧ (n % ((2 ^ w : Nat) : Int)).toNat < 2 ^ w ∧ ((n % ((2 ^ w : Nat) : Int)).toNat : Int) = n % ((2 ^ w : Nat) : Int) := by
  have hp := pow_pos w
  have h0 : 0 ≤ n % 18446744073709551616 := Int.emod_nonneg _ (by decide)
  have h1 : n % 18446744073709551616 < 18446744073709551616 := Int.emod_lt_of_pos _ (by decide)
  have h2 : 0 ≤ n % ((2 ^ w : Nat) : Int) := Int.emod_nonneg _ (by omega)
  have h3 : n % ((2 ^ w : Nat) : Int) < ((2 ^ w : Nat) : Int) := Int.emod_lt_of_pos _ (by omega)
  refine ⟨?_, by omega, by omega⟩
  rw [u64_mod]
  have hd : ((2 ^ w : Nat) : Int) ∣ 18446744073709551616 := by
    refine ⟨((2 ^ (64 - w) : Nat) : Int), ?_⟩
    rw [← Int.natCast_mul, ← Nat.pow_add, show w + (64 - w) = 64 by omega]
    rfl
  have hm := Int.emod_emod_of_dvd n hd
  generalize n % 18446744073709551616 = y at h0 h1 hm
  obtain ⟨y, rfl⟩ := Int.eq_ofNat_of_zero_le h0
  rw [and_mask y w (by omega) hw, ← hm, Int.toNat_of_nonneg (Int.emod_nonneg _ (by omega)), Int.natCast_emod]
end Go.Proofs.Ytbckdelbkcfjkaa.BiP
