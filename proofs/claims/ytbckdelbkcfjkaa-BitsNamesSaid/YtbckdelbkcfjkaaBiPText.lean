/- Plain lemmas: the texts of bit vectors, as the program and as the reference tell them. -/
import Derived.Test.YtbckdelbkcfjkaaBiPBase
import Derived.Test.YtbckdelbkcfjkaaBiFbitsText
import Derived.Test.YtbckdelbkcfjkaaBiFretargetref01Text
namespace Go.Proofs.Ytbckdelbkcfjkaa.BiP
set_option linter.unusedVariables false
set_option linter.unusedSimpArgs false
open Go.RowKit Go.Proofs.Ytbckdelbkcfjkaa.Bi Go.Proofs.YtbckdelbkcfjkaaW.PrintWords Go.Proofs.YtbckdelbkcfjkaaW.PrintLast Go.Proofs.YtbckdelbkcfjkaaW.PrintMore

abbrev LIT : ByteArray := ⟨#[48, 49, 50, 51, 52, 53, 54, 55, 56, 57, 97, 98, 99, 100, 101, 102]⟩
/-- The sign of a digit. -/
def dg (d : Nat) : Int := if d < 10 then 48 + d else 87 + d
theorem dg_tab : ∀ d : Fin 16, bt LIT (d.val : Int) = dg d.val := by decide +kernel
theorem cut_tab : ∀ d : Fin 16, LIT.extract d.val (d.val + 1) = strOfNums [dg d.val] := by decide +kernel
theorem bt_dg {d : Nat} (h : d < 16) : bt LIT (d : Int) = dg d := dg_tab ⟨d, h⟩
theorem cut_dg {d : Nat} (h : d < 16) : LIT.extract d (d + 1) = strOfNums [dg d] := cut_tab ⟨d, h⟩
theorem str_append (a b : List Int) : strOfNums a ++ strOfNums b = strOfNums (a ++ b) := by
  apply ByteArray.ext
  simp [strOfNums, ByteArray.data_append]
theorem str_nil : (⟨#[]⟩ : ByteArray) = strOfNums [] := rfl
theorem str_colon : (⟨#[58]⟩ : ByteArray) = strOfNums [58] := rfl

/-- The n lowest digits of a number. -/
def lowN (x : Nat) : Nat → List Int
  | 0 => []
  | n + 1 => dg (x / 16 ^ n % 16) :: lowN x n
theorem lowN_len (x : Nat) : ∀ n, (lowN x n).length = n
  | 0 => rfl
  | n + 1 => by rw [lowN, List.length_cons, lowN_len x n]
def nd (w : Nat) : Nat := (w + 3) / 4
def front (w : Nat) : List Int := (if w > 9 then [dg (w / 10)] else []) ++ [dg (w % 10), 58]
/-- The text of a value of a width. -/
def txt (w x : Nat) : List Int := front w ++ lowN x (nd w)
theorem nd_le {w : Nat} (h : W w) : 1 ≤ nd w ∧ nd w ≤ 16 := by unfold W at h; unfold nd; omega
theorem w_nd (w : Nat) (h : w ≤ 64) : wrap64 (Int.tdiv (wrap64 ((w : Int) + 3)) 4) = (nd w : Int) := by
  rw [wrap_small (x := (w : Int) + 3) (by omega) (by omega), Int.tdiv_eq_ediv_of_nonneg (by omega), wrap_small (by omega) (by omega)]
  unfold nd; omega
theorem front_len (w : Nat) : (front w).length = if w > 9 then 3 else 2 := by unfold front; split <;> rfl

/-! ### the program's text -/
theorem digit_at (x n i : Nat) (hx : x < 2 ^ 64) (hi : i < n) (hn : n ≤ 16) :
    Go.bits .and .u64 (shr .u64 (x : Int) (wrap64 (4 * (wrap64 ((wrap64 ((n : Int) - 1)) - (i : Int)))))) 15 = ((x / 16 ^ (n - 1 - i) % 16 : Nat) : Int) := by
  rw [wrap_small (x := (n : Int) - 1) (by omega) (by omega), wrap_small (x := (n : Int) - 1 - (i : Int)) (by omega) (by omega), wrap_small (by omega) (by omega)]
  rw [show 4 * ((n : Int) - 1 - (i : Int)) = ((4 * (n - 1 - i) : Nat) : Int) by omega, shr_nat x _ (by omega)]
  have e : 2 ^ (4 * (n - 1 - i)) = 16 ^ (n - 1 - i) := by rw [Nat.pow_mul]
  rw [e]
  have h1 : x / 16 ^ (n - 1 - i) ≤ x := Nat.div_le_self _ _
  generalize x / 16 ^ (n - 1 - i) = q at h1
  have := and_mask q 4 (Nat.lt_of_le_of_lt h1 hx) (by decide)
  exact this
theorem text_l0 (x n : Nat) (hx : x < 2 ^ 64) (hn : n ≤ 16) : ∀ d k i (acc : List Int), i + d = n → d < k → acc.length ≤ 10 + i →
    bits_Text.l0 k (x : Int) acc (n : Int) (n : Int) (i : Int) = some (strOfNums (acc ++ lowN x d), 0) := by
  intro d
  induction d with
  | zero =>
    intro k i acc h1 h2 h3
    obtain ⟨m, rfl⟩ : ∃ m, k = m + 1 := ⟨k - 1, by omega⟩
    simp only [bits_Text.l0]
    rw [if_neg (by omega), lowN, List.append_nil]
  | succ d ih =>
    intro k i acc h1 h2 h3
    obtain ⟨m, rfl⟩ : ∃ m, k = m + 1 := ⟨k - 1, by omega⟩
    have hlt : x / 16 ^ (n - 1 - i) % 16 < 16 := Nat.mod_lt _ (by decide)
    simp only [bits_Text.l0]
    have ew : (0 : Int) ≤ wrap64 (4 * wrap64 (wrap64 ((n : Int) - 1) - (i : Int))) := by
      rw [wrap_small (x := (n : Int) - 1) (by omega) (by omega), wrap_small (x := (n : Int) - 1 - (i : Int)) (by omega) (by omega), wrap_small (by omega) (by omega)]; omega
    rw [if_pos (by omega), if_pos ew, digit_at x n i hx (by omega) hn, if_pos (by omega), if_pos (by omega), if_pos (by omega), bt_dg hlt, w_add1 i (by omega), ih m (i + 1) _ (by omega) (by omega) (by rw [List.length_append, List.length_singleton]; omega)]
    rw [show n - 1 - i = d by omega, List.append_assoc, List.singleton_append, lowN]
theorem text_yes {w : Nat} (h : W w) (x k : Nat) (hx64 : x < 2 ^ 64) (hk : 30 ≤ k) : bits_Text.f k (w : Int) (x : Int) = some (if x < 2 ^ w then (strOfNums (txt w x), 0) else (strOfNums [], 8)) := by
  obtain ⟨m, rfl⟩ : ∃ m, k = m + 1 := ⟨k - 1, by omega⟩
  have h' := h
  unfold W at h'
  have hnd := nd_le h
  have j0 : ∀ acc : List Int, acc.length ≤ 5 → bits_Text.j0 (m + 1) (w : Int) (x : Int) acc = some (strOfNums (acc ++ [dg (w % 10), 58] ++ lowN x (nd w)), 0) := by
    intro acc ha
    simp only [bits_Text.j0]
    have e : Int.tmod (w : Int) 10 = ((w % 10 : Nat) : Int) := by rw [Int.tmod_eq_emod_of_nonneg (Int.natCast_nonneg _)]; omega
    rw [e, if_pos (by omega), if_pos (by omega), bt_dg (by omega)]
    rw [Option.bind_some, if_pos (by simp only [List.length_cons, List.length_nil]; omega), w_nd w h'.2]
    exact text_l0 x (nd w) hx64 hnd.2 (nd w) m 0 _ (by omega) (by omega) (by rw [List.length_append]; simp only [List.length_cons, List.length_nil]; omega)
  unfold bits_Text.f
  rw [check_one h x (m + 1) (by omega), Option.bind_some]
  unfold chk
  by_cases hx : x < 2 ^ w
  · rw [if_pos hx, if_pos rfl, if_pos hx]
    unfold txt front
    by_cases h9 : w > 9
    · have e : wrap64 (Int.tdiv (w : Int) 10) = ((w / 10 : Nat) : Int) := by
        rw [Int.tdiv_eq_ediv_of_nonneg (Int.natCast_nonneg _), wrap_small (by omega) (by omega)]; omega
      rw [if_pos (by omega), e, if_pos (by omega), if_pos (by omega), if_pos (by decide), bt_dg (by omega), j0 _ (by simp), if_pos h9]
      rfl
    · rw [if_neg (by omega), j0 _ (by simp), if_neg h9]
  · rw [if_neg hx, if_neg (by decide), if_neg hx]
    rfl
theorem text_no {w : Int} (h : ¬ (1 ≤ w ∧ w ≤ 64)) (x : Int) (k : Nat) : bits_Text.f k w x = some (strOfNums [], 14) := by
  unfold bits_Text.f
  rw [check_no h]
  rfl

/-! ### the reference's text -/
theorem cut_at {d : Nat} (h : d < 16) {j : Int} (hj : j = (d : Int)) : LIT.extract j.toNat (wrap64 (j + 1)).toNat = strOfNums [dg d] := by
  subst hj
  rw [w_add1 d (by omega)]
  exact cut_dg h
theorem rtext_l0 {w : Nat} (h : W w) (x0 : Nat) (hx : x0 < 2 ^ 64) : ∀ d k i, i + d = nd w → d < k →
    retargetref01_Text.l0 k (w : Int) ((x0 / 16 ^ i : Nat) : Int) LIT (strOfNums (lowN x0 i)) (i : Int) = some (strOfNums (txt w x0), 0) := by
  have h' := h
  unfold W at h'
  have hnd := nd_le h
  intro d
  induction d with
  | zero =>
    intro k i h1 h2
    obtain ⟨m, rfl⟩ : ∃ m, k = m + 1 := ⟨k - 1, by omega⟩
    obtain rfl : i = nd w := by omega
    simp only [retargetref01_Text.l0]
    have e : Int.tmod (w : Int) 10 = ((w % 10 : Nat) : Int) := by rw [Int.tmod_eq_emod_of_nonneg (Int.natCast_nonneg _)]; omega
    have e2 : wrap64 (Int.tdiv (w : Int) 10) = ((w / 10 : Nat) : Int) := by
      rw [Int.tdiv_eq_ediv_of_nonneg (Int.natCast_nonneg _), wrap_small (by omega) (by omega)]; omega
    have hs : (LIT.size : Int) = 16 := rfl
    rw [w_nd w h'.2, if_neg (by omega), e, cut_at (d := w % 10) (by omega) rfl, e2, cut_at (d := w / 10) (by omega) rfl, str_colon, w_add1 _ (by omega), w_add1 _ (by omega), hs]
    rw [str_append, str_append, str_append, str_append, str_append]
    rw [if_pos (by omega), if_pos (by omega), if_pos (by omega)]
    simp only [strOfNums_size]
    unfold txt front
    by_cases h9 : w > 9
    · rw [if_pos (by omega), if_pos (by omega), if_pos (by omega), if_pos (by omega), if_pos (by simp), if_pos (by simp), if_pos (by simp [lowN_len]; omega), if_pos h9]
      rfl
    · rw [if_neg (by omega), if_pos (by simp), if_pos (by simp [lowN_len]; omega), if_neg h9]
      rfl
  | succ d ih =>
    intro k i h1 h2
    obtain ⟨m, rfl⟩ : ∃ m, k = m + 1 := ⟨k - 1, by omega⟩
    simp only [retargetref01_Text.l0]
    have hq : x0 / 16 ^ i ≤ x0 := Nat.div_le_self _ _
    have hd : x0 / 16 ^ i / 16 = x0 / 16 ^ (i + 1) := by rw [Nat.div_div_eq_div_mul, Nat.pow_succ]
    have hb : x0 / 16 ^ i % 16 < 16 := Nat.mod_lt _ (by decide)
    have hl : lowN x0 (i + 1) = dg (x0 / 16 ^ i % 16) :: lowN x0 i := rfl
    have e : wrap64 (Int.tmod ((x0 / 16 ^ i : Nat) : Int) 16) = ((x0 / 16 ^ i % 16 : Nat) : Int) := by
      rw [Int.tmod_eq_emod_of_nonneg (Int.natCast_nonneg _)]
      rw [show ((x0 / 16 ^ i : Nat) : Int) % 16 = ((x0 / 16 ^ i % 16 : Nat) : Int) by omega]
      exact w_nat _ (by omega)
    have e2 : IntKind.u64.wrap (Int.tdiv ((x0 / 16 ^ i : Nat) : Int) 16) = ((x0 / 16 ^ (i + 1) : Nat) : Int) := by
      rw [Int.tdiv_eq_ediv_of_nonneg (Int.natCast_nonneg _), show ((x0 / 16 ^ i : Nat) : Int) / 16 = ((x0 / 16 ^ i / 16 : Nat) : Int) by omega, hd]
      have : x0 / 16 ^ (i + 1) ≤ x0 := Nat.div_le_self _ _
      generalize x0 / 16 ^ (i + 1) = q at this
      exact u64_small (Int.natCast_nonneg _) (by omega)
    have hs : (LIT.size : Int) = 16 := rfl
    have ih' := ih m (i + 1) (by omega) (by omega)
    rw [w_nd w h'.2, if_pos (by omega), e, e2, cut_at hb rfl, w_add1 _ (by omega), hs, w_add1 i (by omega), str_append, List.singleton_append, ← hl]
    clear e e2
    rw [if_pos (by omega), if_pos (by omega), if_pos (by omega), if_pos (by rw [strOfNums_size, strOfNums_size, lowN_len, List.length_singleton]; omega)]
    exact ih'
theorem rtext_yes {w : Nat} (h : W w) (x k : Nat) (hx64 : x < 2 ^ 64) (hk : 70 ≤ k) : retargetref01_Text.f k (w : Int) (x : Int) = some (if x < 2 ^ w then (strOfNums (txt w x), 0) else (strOfNums [], 8)) := by
  unfold retargetref01_Text.f
  have hnd := nd_le h
  rw [rwide_yes h, Option.bind_some, if_pos rfl, rok_yes h x k hx64 (by omega), Option.bind_some]
  by_cases hx : x < 2 ^ w
  · rw [decide_eq_true hx, if_pos rfl, if_pos hx]
    have := rtext_l0 h x hx64 (nd w) k 0 (by omega) (by omega)
    rw [Nat.pow_zero, Nat.div_one] at this
    exact this
  · rw [decide_eq_false hx, if_neg (by decide), if_neg hx]
    rfl
theorem rtext_no {w : Int} (h : ¬ (1 ≤ w ∧ w ≤ 64)) (x : Int) (k : Nat) : retargetref01_Text.f k w x = some (strOfNums [], 14) := by
  unfold retargetref01_Text.f
  rw [rwide_no h]
  rfl
end Go.Proofs.Ytbckdelbkcfjkaa.BiP
