/- Plain lemmas: the chapter's examples hold; signed values come back. -/
import Derived.Test.YtbckdelbkcfjkaaBiPOps
import Derived.Test.YtbckdelbkcfjkaaBiPParts
import Derived.Test.YtbckdelbkcfjkaaBiPText
import Derived.Test.YtbckdelbkcfjkaaBiFretargetlaw01alive
namespace Go.Proofs.Ytbckdelbkcfjkaa.BiP
set_option linter.unusedVariables false
set_option linter.unusedSimpArgs false
open Go.RowKit Go.Proofs.Ytbckdelbkcfjkaa.Bi Go.Proofs.YtbckdelbkcfjkaaW.PrintWords Go.Proofs.YtbckdelbkcfjkaaW.PrintLast Go.Proofs.YtbckdelbkcfjkaaW.PrintMore
theorem W8 : W 8 := by unfold W; decide
theorem alive_eq (k : Nat) (hk : 100 ≤ k) : retargetlaw01_alive.f k = some true := by
  have h1 : bits_Signed.f k 8 200 = some (-56, 0) := (Signed_yes W8 200 k (by omega)).trans (by decide)
  have h2 : bits_Text.f k 8 15 = some (strOfNums [56, 58, 48, 102], 0) := (text_yes W8 15 k (by decide) (by omega)).trans (by rfl)
  have h3 : retargetlaw01_op.f k 5 8 200 100 = some 44 := op_of (bin_add W8 (a := 200) (b := 100) k (by omega) (by decide) (by decide))
  have h4 : retargetlaw01_op.f k 13 8 200 4 = some 252 := op_of (bin_sar W8 (a := 200) (b := 4) k (by omega) (by decide) (by decide))
  have h5 : retargetlaw01_op.f k 14 8 7 0 = some 255 := op_of (bin_udiv W8 (a := 7) (b := 0) k (by omega) (by decide) (by decide))
  unfold retargetlaw01_alive.f
  rw [h1, Option.bind_some, h2, Option.bind_some, h3, Option.bind_some, if_pos rfl, h4, Option.bind_some, if_pos rfl, h5, Option.bind_some, if_pos rfl, if_pos rfl, if_pos rfl, if_pos rfl]
  show some ((strOfNums [56, 58, 48, 102]).toList == ([56, 58, 48, 102] : List UInt8)) = some true
  rw [ByteArray.toList_eq]
  rfl
/-- A number in the signed range comes back. -/
theorem sgn_cut {w : Nat} (hw : W w) (n : Int) (h0 : -((2 ^ (w - 1) : Nat) : Int) ≤ n) (h1 : n < ((2 ^ (w - 1) : Nat) : Int)) : sgn w (cutN w n) = n := by
  have hh := pow_half w hw.1
  have hp1 := pow_pos (w - 1)
  have hc := cutN_cast w n
  have hl := cutN_lt w n
  generalize cutN w n = c at hc hl
  unfold sgn
  by_cases h : 0 ≤ n
  · rw [Int.emod_eq_of_lt h (by omega)] at hc
    rw [if_pos (by omega)]; exact hc
  · have : n % ((2 ^ w : Nat) : Int) = n + ((2 ^ w : Nat) : Int) := by
      rw [← Int.add_emod_right, Int.emod_eq_of_lt (by omega) (by omega)]
    rw [this] at hc
    rw [if_neg (by omega)]; omega
theorem cut_sgn {w a : Nat} (hw : W w) (ha : a < 2 ^ w) : cutN w (sgn w a) = a := by
  have hh := pow_half w hw.1
  have hp1 := pow_pos (w - 1)
  unfold cutN sgn
  by_cases h : a < 2 ^ (w - 1)
  · rw [if_pos h, Int.emod_eq_of_lt (by omega) (by omega)]; rfl
  · rw [if_neg h, ← Int.add_emod_right, Int.emod_eq_of_lt (by omega) (by omega)]; omega
theorem sgn_zero {w : Nat} (hw : W w) : sgn w 0 = 0 := by
  have hp1 := pow_pos (w - 1)
  unfold sgn; rw [if_pos (by omega)]; rfl
theorem cutN_neg1 {w : Nat} (hw : W w) : cutN w (-1) = 2 ^ w - 1 := by
  have hp := pow_half w hw.1
  have hp1 := pow_pos (w - 1)
  unfold cutN
  rw [← Int.add_emod_right, Int.emod_eq_of_lt (by omega) (by omega)]; omega
theorem div_lo {w m : Nat} (hw : W w) (n : Int) (h0 : -((2 ^ (w - 1) : Nat) : Int) ≤ n) (h1 : n < ((2 ^ (w - 1) : Nat) : Int)) :
    -((2 ^ (w - 1) : Nat) : Int) ≤ n / ((2 ^ m : Nat) : Int) ∧ n / ((2 ^ m : Nat) : Int) < ((2 ^ (w - 1) : Nat) : Int) := by
  have hm := pow_pos m
  have hp1 := pow_pos (w - 1)
  by_cases h : 0 ≤ n
  · have a1 : 0 ≤ n / ((2 ^ m : Nat) : Int) := Int.ediv_nonneg h (by omega)
    have a2 : n / ((2 ^ m : Nat) : Int) ≤ n := Int.ediv_le_self _ h
    omega
  · have a1 : n / ((2 ^ m : Nat) : Int) < 0 := Int.ediv_neg_of_neg_of_pos (by omega) (by omega)
    have a2 : n ≤ n / ((2 ^ m : Nat) : Int) := by
      rw [Int.le_ediv_iff_mul_le (by omega)]
      have : n * ((2 ^ m : Nat) : Int) ≤ n * 1 := Int.mul_le_mul_of_nonpos_left (by omega) (by omega)
      omega
    omega
end Go.Proofs.Ytbckdelbkcfjkaa.BiP
