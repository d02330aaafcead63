/- Plain lemmas: what the program's operations on two values answer. -/
import Derived.Test.YtbckdelbkcfjkaaBiPBase
import Derived.Test.YtbckdelbkcfjkaaBiHBinary
import Derived.Test.YtbckdelbkcfjkaaBiFretargetlaw01op
import Derived.Test.YtbckdelbkcfjkaaBiFretargetlaw01cut
namespace Go.Proofs.Ytbckdelbkcfjkaa.BiP
set_option linter.unusedVariables false
set_option linter.unusedSimpArgs false
open Go.RowKit Go.Proofs.Ytbckdelbkcfjkaa.Bi Go.Proofs.YtbckdelbkcfjkaaW.PrintWords Go.Proofs.YtbckdelbkcfjkaaW.PrintLast Go.Proofs.YtbckdelbkcfjkaaW.PrintMore

theorem bin_of {w : Nat} (hw : W w) (n a b k : Nat) (hk : 3 ≤ k) (h0 : 5 ≤ n) (h1 : n ≤ 18) (ha : a < 2 ^ w) (hb : b < 2 ^ w) (v : Int) (hv : opsF n (w : Int) (a : Int) (b : Int) = some v) (r : Nat)
    (hr : Go.bits .and .u64 v ((2 ^ w - 1 : Nat) : Int) = (r : Int)) : bits_Binary.f k (n : Int) (w : Int) (a : Int) (b : Int) = some ((r : Int), 0) := by
  unfold bits_Binary.f
  rw [wide_yes hw, Option.bind_some, if_pos rfl, if_neg (by omega), if_neg (by omega), check_two hw a b k hk, Option.bind_some, show (if a < 2 ^ w ∧ b < 2 ^ w then (0 : Int) else 8) = 0 from if_pos ⟨ha, hb⟩, if_pos rfl, show ((n : Int)).toNat = n from rfl, hv, Option.bind_some, mask_yes hw, Option.bind_some, hr]
theorem bin_bad {w : Nat} (hw : W w) (n a b k : Nat) (hk : 3 ≤ k) (h0 : 5 ≤ n) (h1 : n ≤ 18) (hab : ¬ (a < 2 ^ w ∧ b < 2 ^ w)) : bits_Binary.f k (n : Int) (w : Int) (a : Int) (b : Int) = some (0, 8) := by
  unfold bits_Binary.f
  rw [wide_yes hw, Option.bind_some, if_pos rfl, if_neg (by omega), if_neg (by omega), check_two hw a b k hk, Option.bind_some, show (if a < 2 ^ w ∧ b < 2 ^ w then (0 : Int) else 8) = 8 from if_neg hab, if_neg (by decide)]
theorem bin_kind {w : Nat} (hw : W w) (n : Int) (a b : Int) (k : Nat) (h : ¬ (5 ≤ n ∧ n ≤ 18)) : bits_Binary.f k n (w : Int) a b = some (0, 2) := by
  unfold bits_Binary.f
  rw [wide_yes hw, Option.bind_some, if_pos rfl]
  by_cases h0 : n < 5
  · rw [if_pos h0]
  · rw [if_neg h0, if_pos (by omega)]
theorem bin_no {w : Int} (hw : ¬ (1 ≤ w ∧ w ≤ 64)) (n a b : Int) (k : Nat) : bits_Binary.f k n w a b = some (0, 14) := by
  unfold bits_Binary.f
  rw [wide_no hw, Option.bind_some, if_neg (by decide)]
theorem op_of {k : Nat} {n w a b : Int} {r : Int} (h : bits_Binary.f k n w a b = some (r, 0)) : retargetlaw01_op.f k n w a b = some r := by
  unfold retargetlaw01_op.f
  rw [h, Option.bind_some, if_pos rfl]

/-- A number, cut to a width. -/
def cutN (w : Nat) (n : Int) : Nat := (n % ((2 ^ w : Nat) : Int)).toNat
theorem cutN_nat (w n : Nat) : cutN w (n : Int) = n % 2 ^ w := by
  unfold cutN; rw [← Int.natCast_emod]; rfl
theorem cutN_lt (w : Nat) (n : Int) : cutN w n < 2 ^ w := by
  have hp := pow_pos w
  have h2 : 0 ≤ n % ((2 ^ w : Nat) : Int) := Int.emod_nonneg _ (by omega)
  have h3 : n % ((2 ^ w : Nat) : Int) < ((2 ^ w : Nat) : Int) := Int.emod_lt_of_pos _ (by omega)
  unfold cutN; omega
theorem cutN_cast (w : Nat) (n : Int) : (cutN w n : Int) = n % ((2 ^ w : Nat) : Int) := by
  have hp := pow_pos w
  have h2 : 0 ≤ n % ((2 ^ w : Nat) : Int) := Int.emod_nonneg _ (by omega)
  unfold cutN; omega
theorem small_of {w x : Nat} (hw : W w) (hx : x < 2 ^ w) : x < 18446744073709551616 := Nat.lt_of_lt_of_le hx (pow_le w hw.2)

theorem few_eq (b : Nat) : bits_few.f (b : Int) = some ((min b 64 : Nat) : Int) := by
  unfold bits_few.f mn
  congr 1
  split <;> omega
theorem one_eq (t : Bool) : bits_one.f t = some ((if t = true then 1 else 0 : Nat) : Int) := by cases t <;> rfl
section
variable {w : Nat} (hw : W w) {a b : Nat} (k : Nat) (hk : 3 ≤ k) (ha : a < 2 ^ w) (hb : b < 2 ^ w)
include hw hk ha hb
theorem bin_add : bits_Binary.f k 5 (w : Int) (a : Int) (b : Int) = some (((((a + b) % 2 ^ w : Nat)) : Int), 0) := by
  refine bin_of hw 5 a b k hk (by decide) (by decide) ha hb (IntKind.u64.wrap ((a : Int) + (b : Int))) rfl _ ?_
  rw [(u64_and_mask _ w hw.2).1, ← Int.natCast_add]
  exact congrArg _ (cutN_nat w (a + b))
theorem bin_sub : bits_Binary.f k 6 (w : Int) (a : Int) (b : Int) = some ((cutN w ((a : Int) - (b : Int)) : Int), 0) :=
  bin_of hw 6 a b k hk (by decide) (by decide) ha hb (IntKind.u64.wrap ((a : Int) - (b : Int))) rfl _ (u64_and_mask _ w hw.2).1
theorem bin_mul : bits_Binary.f k 7 (w : Int) (a : Int) (b : Int) = some (((a * b % 2 ^ w : Nat) : Int), 0) := by
  refine bin_of hw 7 a b k hk (by decide) (by decide) ha hb (IntKind.u64.wrap ((a : Int) * (b : Int))) rfl _ ?_
  rw [(u64_and_mask _ w hw.2).1, ← Int.natCast_mul]
  exact congrArg _ (cutN_nat w (a * b))
theorem bin_and : bits_Binary.f k 8 (w : Int) (a : Int) (b : Int) = some (((a &&& b : Nat) : Int), 0) := by
  refine bin_of hw 8 a b k hk (by decide) (by decide) ha hb (Go.bits .and .u64 (a : Int) (b : Int)) rfl _ ?_
  have h := Nat.and_lt_two_pow a hb
  rw [and_nat a b (small_of hw ha) (small_of hw hb), and_mask _ w (small_of hw h) hw.2, Nat.mod_eq_of_lt h]
theorem bin_or : bits_Binary.f k 9 (w : Int) (a : Int) (b : Int) = some (((a ||| b : Nat) : Int), 0) := by
  refine bin_of hw 9 a b k hk (by decide) (by decide) ha hb (Go.bits .or .u64 (a : Int) (b : Int)) rfl _ ?_
  have h := Nat.or_lt_two_pow ha hb
  rw [or_nat a b (small_of hw ha) (small_of hw hb), and_mask _ w (small_of hw h) hw.2, Nat.mod_eq_of_lt h]
theorem bin_xor : bits_Binary.f k 10 (w : Int) (a : Int) (b : Int) = some (((a ^^^ b : Nat) : Int), 0) := by
  refine bin_of hw 10 a b k hk (by decide) (by decide) ha hb (Go.bits .xor .u64 (a : Int) (b : Int)) rfl _ ?_
  have h := Nat.xor_lt_two_pow ha hb
  have e : Go.bits .xor .u64 (a : Int) (b : Int) = ((a ^^^ b : Nat) : Int) := by
    have h1 := small_of hw ha
    have h2 := small_of hw hb
    have h3 := small_of hw h
    have ea : a % 2 ^ IntKind.u64.bits = a := Nat.mod_eq_of_lt h1
    have eb : b % 2 ^ IntKind.u64.bits = b := Nat.mod_eq_of_lt h2
    simp only [Go.bits, BitVec.ofInt_natCast, BitVec.toNat_xor, BitVec.toNat_ofNat, ea, eb]
    exact u64_small (Int.natCast_nonneg _) (by omega)
  rw [e, and_mask _ w (small_of hw h) hw.2, Nat.mod_eq_of_lt h]
theorem bin_shl : bits_Binary.f k 11 (w : Int) (a : Int) (b : Int) = some (((a * 2 ^ min b 64 % 2 ^ w : Nat) : Int), 0) := by
  have hm : min b 64 ≤ 64 := Nat.min_le_right _ _
  refine bin_of hw 11 a b k hk (by decide) (by decide) ha hb (shl .u64 (a : Int) ((min b 64 : Nat) : Int)) ?_ _ ?_
  · show bits_operation__7.f (w : Int) (a : Int) (b : Int) = _
    unfold bits_operation__7.f
    rw [few_eq b, Option.bind_some, if_pos (Int.natCast_nonneg _)]
  · rw [shl_mod a _ hm, and_mask _ w (Nat.mod_lt _ (by decide)) hw.2]
    congr 1
    have hd : 2 ^ w ∣ 18446744073709551616 := by
      refine ⟨2 ^ (64 - w), ?_⟩
      rw [← Nat.pow_add, show w + (64 - w) = 64 by have := hw.2; omega]
    exact Nat.mod_mod_of_dvd _ hd
theorem bin_shr : bits_Binary.f k 12 (w : Int) (a : Int) (b : Int) = some (((a / 2 ^ min b 64 : Nat) : Int), 0) := by
  have hm : min b 64 ≤ 64 := Nat.min_le_right _ _
  refine bin_of hw 12 a b k hk (by decide) (by decide) ha hb (shr .u64 (a : Int) ((min b 64 : Nat) : Int)) ?_ _ ?_
  · show bits_operation__8.f (w : Int) (a : Int) (b : Int) = _
    unfold bits_operation__8.f
    rw [few_eq b, Option.bind_some, if_pos (Int.natCast_nonneg _)]
  · have h : a / 2 ^ min b 64 < 2 ^ w := Nat.lt_of_le_of_lt (Nat.div_le_self _ _) ha
    rw [shr_nat a _ hm, and_mask _ w (small_of hw h) hw.2, Nat.mod_eq_of_lt h]
theorem bin_sar : bits_Binary.f k 13 (w : Int) (a : Int) (b : Int) = some ((cutN w (sgn w a / ((2 ^ min b 64 : Nat) : Int)) : Int), 0) := by
  have hm : min b 64 ≤ 64 := Nat.min_le_right _ _
  refine bin_of hw 13 a b k hk (by decide) (by decide) ha hb (IntKind.u64.wrap (shr .i64 (sgn w a) ((min b 64 : Nat) : Int))) ?_ _ ?_
  · show bits_operation__9.f (w : Int) (a : Int) (b : Int) = _
    unfold bits_operation__9.f
    rw [signed_yes hw ha, Option.bind_some, few_eq b, Option.bind_some, if_pos (Int.natCast_nonneg _)]
  · rw [(u64_and_mask _ w hw.2).1]
    unfold shr cutN
    rw [show min (((min b 64 : Nat) : Int)).toNat IntKind.i64.bits = min b 64 from Nat.min_eq_left hm, ← cpow]
theorem bin_udiv : bits_Binary.f k 14 (w : Int) (a : Int) (b : Int) = some (((if b = 0 then 2 ^ w - 1 else a / b : Nat) : Int), 0) := by
  by_cases h0 : b = 0
  · subst h0
    refine bin_of hw 14 a 0 k hk (by decide) (by decide) ha hb 18446744073709551615 ?_ _ ?_
    · show bits_operation__10.f (w : Int) (a : Int) ((0 : Nat) : Int) = _
      unfold bits_operation__10.f
      rw [if_pos (by rfl)]
    · have := and_mask 18446744073709551615 w (by decide) hw.2
      rw [if_pos rfl]
      refine this.trans ?_
      congr 1
      have hs : 2 ^ w * 2 ^ (64 - w) = 18446744073709551616 := by rw [← Nat.pow_add, show w + (64 - w) = 64 by have := hw.2; omega]
      have hp := pow_pos (64 - w)
      have hq := pow_pos w
      have e : 18446744073709551615 = (2 ^ w - 1) + 2 ^ w * (2 ^ (64 - w) - 1) := by
        rw [Nat.mul_sub, hs, Nat.mul_one]
        have : 2 ^ w ≤ 18446744073709551616 := pow_le w hw.2
        omega
      rw [e, Nat.add_mul_mod_self_left, Nat.mod_eq_of_lt (by omega)]
  · refine bin_of hw 14 a b k hk (by decide) (by decide) ha hb (IntKind.u64.wrap (Int.tdiv (a : Int) (b : Int))) ?_ _ ?_
    · show bits_operation__10.f (w : Int) (a : Int) (b : Int) = _
      unfold bits_operation__10.f
      rw [if_neg (by omega)]
    · have h : a / b < 2 ^ w := Nat.lt_of_le_of_lt (Nat.div_le_self _ _) ha
      have h' := small_of hw h
      rw [if_neg h0, Int.tdiv_eq_ediv_of_nonneg (Int.natCast_nonneg _), ← Int.natCast_ediv]
      generalize a / b = q at h h'
      rw [u64_small (Int.natCast_nonneg _) (by omega), and_mask _ w h' hw.2, Nat.mod_eq_of_lt h]
theorem bin_urem : bits_Binary.f k 15 (w : Int) (a : Int) (b : Int) = some (((if b = 0 then a else a % b : Nat) : Int), 0) := by
  by_cases h0 : b = 0
  · subst h0
    refine bin_of hw 15 a 0 k hk (by decide) (by decide) ha hb (a : Int) ?_ _ ?_
    · show bits_operation__11.f (w : Int) (a : Int) ((0 : Nat) : Int) = _
      unfold bits_operation__11.f
      rw [if_pos (by rfl)]
    · rw [if_pos rfl, and_mask _ w (small_of hw ha) hw.2, Nat.mod_eq_of_lt ha]
  · refine bin_of hw 15 a b k hk (by decide) (by decide) ha hb (Int.tmod (a : Int) (b : Int)) ?_ _ ?_
    · show bits_operation__11.f (w : Int) (a : Int) (b : Int) = _
      unfold bits_operation__11.f
      rw [if_neg (by omega)]
    · have h : a % b < 2 ^ w := Nat.lt_of_le_of_lt (Nat.mod_le _ _) ha
      rw [if_neg h0, Int.tmod_eq_emod_of_nonneg (Int.natCast_nonneg _), ← Int.natCast_emod, and_mask _ w (small_of hw h) hw.2, Nat.mod_eq_of_lt h]
theorem bin_one (n : Nat) (h0 : 5 ≤ n) (h1 : n ≤ 18) (t : Bool) (h : opsF n (w : Int) (a : Int) (b : Int) = some ((if t = true then 1 else 0 : Nat) : Int)) :
    bits_Binary.f k (n : Int) (w : Int) (a : Int) (b : Int) = some (((if t = true then 1 else 0 : Nat) : Int), 0) := by
  refine bin_of hw n a b k hk h0 h1 ha hb _ h _ ?_
  have hp := pow_half w hw.1
  have hq := pow_pos (w - 1)
  have hl : (if t = true then 1 else 0) < 2 ^ w := by split <;> omega
  rw [and_mask _ w (small_of hw hl) hw.2, Nat.mod_eq_of_lt hl]
theorem bin_eq : bits_Binary.f k 16 (w : Int) (a : Int) (b : Int) = some (((if a = b then 1 else 0 : Nat) : Int), 0) := by
  have h := bin_one hw k hk ha hb 16 (by decide) (by decide) (decide (a = b)) (by
    show bits_operation__12.f (w : Int) (a : Int) (b : Int) = _
    unfold bits_operation__12.f
    have e : ((a : Int) == (b : Int)) = decide (a = b) := by
      by_cases h : a = b
      · rw [decide_eq_true h, beq_iff_eq]; omega
      · rw [decide_eq_false h, beq_eq_false_iff_ne]; omega
    rw [e, one_eq, Option.bind_some])
  simp only [decide_eq_true_eq] at h
  exact h
theorem bin_ult : bits_Binary.f k 17 (w : Int) (a : Int) (b : Int) = some (((if a < b then 1 else 0 : Nat) : Int), 0) := by
  have h := bin_one hw k hk ha hb 17 (by decide) (by decide) (decide (a < b)) (by
    show bits_operation__13.f (w : Int) (a : Int) (b : Int) = _
    unfold bits_operation__13.f
    have e : decide ((a : Int) < (b : Int)) = decide (a < b) := decide_eq_decide.2 (by omega)
    rw [e, one_eq, Option.bind_some])
  simp only [decide_eq_true_eq] at h
  exact h
theorem bin_slt : bits_Binary.f k 18 (w : Int) (a : Int) (b : Int) = some (((if sgn w a < sgn w b then 1 else 0 : Nat) : Int), 0) := by
  have h := bin_one hw k hk ha hb 18 (by decide) (by decide) (decide (sgn w a < sgn w b)) (by
    show bits_operation__14.f (w : Int) (a : Int) (b : Int) = _
    unfold bits_operation__14.f
    rw [signed_yes hw ha, Option.bind_some, signed_yes hw hb, Option.bind_some, one_eq, Option.bind_some])
  simp only [decide_eq_true_eq] at h
  exact h
end

/-- A width from 1 to 64, and a value of it. -/
theorem cut_eq (v x : Nat) (hx : x < 2 ^ 64) : ∃ w a : Nat, W w ∧ a < 2 ^ w ∧ w = v % 64 + 1 ∧ a = x % 2 ^ w ∧ retargetlaw01_cut.f (v : Int) (x : Int) = some ((w : Int), (a : Int)) := by
  have hw : W (v % 64 + 1) := by unfold W; omega
  refine ⟨v % 64 + 1, x % 2 ^ (v % 64 + 1), hw, Nat.mod_lt _ (Nat.two_pow_pos _), rfl, rfl, ?_⟩
  have hw2 := hw.2
  unfold retargetlaw01_cut.f
  have e1 : wrap64 (wrap64 (Int.tmod (v : Int) 64) + 1) = ((v % 64 + 1 : Nat) : Int) := by
    rw [Int.tmod_eq_emod_of_nonneg (Int.natCast_nonneg _), wrap_small (x := (v : Int) % 64) (by omega) (by omega), wrap_small (by omega) (by omega)]; omega
  rw [e1]
  clear e1
  generalize v % 64 + 1 = w at hw hw2
  have e2 : IntKind.u64.wrap (64 - IntKind.u64.wrap (w : Int)) = ((64 - w : Nat) : Int) := by
    rw [u64_small (x := (w : Int)) (by omega) (by omega), u64_small (by omega) (by omega)]; omega
  rw [e2, if_pos (Int.natCast_nonneg _)]
  have e3 := shr_nat 18446744073709551615 (64 - w) (by omega)
  have e4 : shr .u64 18446744073709551615 ((64 - w : Nat) : Int) = ((2 ^ w - 1 : Nat) : Int) := e3.trans (by rw [mask_tab ⟨w, by omega⟩])
  rw [e4, and_mask x w hx hw.2]
end Go.Proofs.Ytbckdelbkcfjkaa.BiP
