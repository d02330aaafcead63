/- Plain lemmas for BitsRing: ring and logic on numbers below a power of two. -/
import Derived.Test.YtbckdelbkcfjkaaBiPOps
import Derived.Test.YtbckdelbkcfjkaaBiHUnary
namespace Go.Proofs.Ytbckdelbkcfjkaa.BiP
set_option linter.unusedVariables false
set_option linter.unusedSimpArgs false
open Go.RowKit Go.Proofs.Ytbckdelbkcfjkaa.Bi
theorem rg_add_assoc (m a b c : Nat) : ((a + b) % m + c) % m = (a + (b + c) % m) % m := by
  rw [Nat.add_mod ((a + b) % m) c, Nat.mod_mod, ← Nat.add_mod, Nat.add_mod a ((b + c) % m), Nat.mod_mod, ← Nat.add_mod, Nat.add_assoc]
theorem rg_mul_assoc (m a b c : Nat) : (a * b % m * c) % m = (a * (b * c % m)) % m := by
  rw [Nat.mul_mod (a * b % m) c, Nat.mod_mod, ← Nat.mul_mod, Nat.mul_mod a (b * c % m), Nat.mod_mod, ← Nat.mul_mod, Nat.mul_assoc]
theorem rg_distrib (m a b c : Nat) : (a * b % m + a * c % m) % m = (a * ((b + c) % m)) % m := by
  rw [← Nat.add_mod, Nat.mul_mod a ((b + c) % m), Nat.mod_mod, ← Nat.mul_mod, Nat.mul_add]
theorem rg_sub {w a b : Nat} (ha : a < 2 ^ w) (hb : b < 2 ^ w) : cutN w ((((a + b) % 2 ^ w : Nat) : Int) - (b : Int)) = a := by
  have hc := cutN_cast w ((((a + b) % 2 ^ w : Nat) : Int) - (b : Int))
  generalize cutN w ((((a + b) % 2 ^ w : Nat) : Int) - (b : Int)) = q at hc
  by_cases h : a + b < 2 ^ w
  · rw [Nat.mod_eq_of_lt h, show ((a + b : Nat) : Int) - (b : Int) = (a : Int) by omega, Int.emod_eq_of_lt (by omega) (by omega)] at hc
    omega
  · have e : (a + b) % 2 ^ w = a + b - 2 ^ w := by rw [Nat.mod_eq_sub_mod (by omega), Nat.mod_eq_of_lt (by omega)]
    rw [e, ← Int.add_emod_right, show ((a + b - 2 ^ w : Nat) : Int) - (b : Int) + ((2 ^ w : Nat) : Int) = (a : Int) by omega, Int.emod_eq_of_lt (by omega) (by omega)] at hc
    omega
theorem rg_neg {w a : Nat} (ha : a < 2 ^ w) : cutN w (-(a : Int)) = (2 ^ w - a) % 2 ^ w := by
  have hc := cutN_cast w (-(a : Int))
  generalize cutN w (-(a : Int)) = q at hc
  by_cases h : a = 0
  · subst h
    rw [Nat.sub_zero, Nat.mod_self]
    rw [show (-((0 : Nat) : Int)) = 0 from rfl, Int.zero_emod] at hc
    omega
  · rw [← Int.add_emod_right, Int.emod_eq_of_lt (by omega) (by omega)] at hc
    rw [Nat.mod_eq_of_lt (by omega)]
    omega
theorem rg_add_neg {w a : Nat} (ha : a < 2 ^ w) : (a + (2 ^ w - a) % 2 ^ w) % 2 ^ w = 0 := by
  rw [Nat.add_mod a ((2 ^ w - a) % 2 ^ w), Nat.mod_mod, ← Nat.add_mod, show a + (2 ^ w - a) = 2 ^ w by omega, Nat.mod_self]
theorem rg_bit_not {w a : Nat} (ha : a < 2 ^ w) (i : Nat) : (2 ^ w - 1 - a).testBit i = (decide (i < w) && !a.testBit i) := by
  rw [show 2 ^ w - 1 - a = 2 ^ w - (a + 1) by omega]
  exact Nat.testBit_two_pow_sub_succ ha i
theorem rg_bit_hi {w a i : Nat} (ha : a < 2 ^ w) (h : ¬ i < w) : a.testBit i = false :=
  Nat.testBit_lt_two_pow (Nat.lt_of_lt_of_le ha (Nat.pow_le_pow_right (by omega) (by omega)))
theorem rg_and_not {w a : Nat} (ha : a < 2 ^ w) : a &&& (2 ^ w - 1 - a) = 0 := by
  apply Nat.eq_of_testBit_eq
  intro i
  rw [Nat.testBit_and, rg_bit_not ha, Nat.zero_testBit]
  cases a.testBit i <;> simp
theorem rg_or_not {w a : Nat} (ha : a < 2 ^ w) : a ||| (2 ^ w - 1 - a) = 2 ^ w - 1 := by
  apply Nat.eq_of_testBit_eq
  intro i
  rw [Nat.testBit_or, rg_bit_not ha, Nat.testBit_two_pow_sub_one]
  by_cases h : i < w
  · rw [decide_eq_true h]; cases a.testBit i <;> rfl
  · rw [rg_bit_hi ha h, decide_eq_false h]; rfl
theorem rg_xor {a b : Nat} (ha : a < 2 ^ 64) (hb : b < 2 ^ 64) : (a ^^^ b) + (a &&& b) = a ||| b := by
  have h1 := Nat.xor_lt_two_pow ha hb
  have h2 := Nat.and_lt_two_pow a hb
  have h3 := Nat.or_lt_two_pow ha hb
  have e := BitVec.add_eq_or_of_and_eq_zero (BitVec.ofNat 65 (a ^^^ b)) (BitVec.ofNat 65 (a &&& b)) (by
    apply BitVec.eq_of_toNat_eq
    rw [BitVec.toNat_and, BitVec.toNat_ofNat, BitVec.toNat_ofNat, Nat.mod_eq_of_lt (by omega), Nat.mod_eq_of_lt (by omega)]
    apply Nat.eq_of_testBit_eq
    intro i
    rw [Nat.testBit_and, Nat.testBit_xor, Nat.testBit_and]
    show _ = (0 : Nat).testBit i
    rw [Nat.zero_testBit]
    cases a.testBit i <;> cases b.testBit i <;> rfl)
  have e2 := congrArg BitVec.toNat e
  rw [BitVec.toNat_add, BitVec.toNat_or, BitVec.toNat_ofNat, BitVec.toNat_ofNat, Nat.mod_eq_of_lt (show (a ^^^ b) < 2 ^ 65 by omega), Nat.mod_eq_of_lt (show (a &&& b) < 2 ^ 65 by omega), Nat.mod_eq_of_lt (by omega)] at e2
  rw [e2]
  apply Nat.eq_of_testBit_eq
  intro i
  rw [Nat.testBit_or, Nat.testBit_xor, Nat.testBit_and, Nat.testBit_or]
  cases a.testBit i <;> cases b.testBit i <;> rfl
theorem rg_not64 {a : Nat} (ha : a < 2 ^ 64) : Go.bits .xor .u64 IntKind.u64.max (a : Int) = ((2 ^ 64 - 1 - a : Nat) : Int) := by
  have e : (2 ^ 64 - 1) ^^^ a = 2 ^ 64 - 1 - a := by
    apply Nat.eq_of_testBit_eq
    intro i
    rw [Nat.testBit_xor, rg_bit_not ha, Nat.testBit_two_pow_sub_one]
    by_cases h : i < 64
    · rw [decide_eq_true h]; cases a.testBit i <;> rfl
    · rw [rg_bit_hi ha h, decide_eq_false h]; rfl
  have ea : a % 2 ^ IntKind.u64.bits = a := Nat.mod_eq_of_lt ha
  have eb : (2 ^ 64 - 1) % 2 ^ IntKind.u64.bits = 2 ^ 64 - 1 := Nat.mod_eq_of_lt (by decide)
  rw [show IntKind.u64.max = ((2 ^ 64 - 1 : Nat) : Int) by decide]
  simp only [Go.bits, BitVec.ofInt_natCast, BitVec.toNat_xor, BitVec.toNat_ofNat, ea, eb]
  rw [e]
  exact u64_small (Int.natCast_nonneg _) (by omega)
theorem rg_not_mod {w a : Nat} (hw : w ≤ 64) (ha : a < 2 ^ w) : (2 ^ 64 - 1 - a) % 2 ^ w = 2 ^ w - 1 - a := by
  have h : 2 ^ 64 = 2 ^ w * 2 ^ (64 - w) := by rw [← Nat.pow_add]; congr 1; omega
  have h1 := pow_pos (64 - w)
  obtain ⟨q, hq⟩ : ∃ q, 2 ^ (64 - w) = q + 1 := ⟨2 ^ (64 - w) - 1, by omega⟩
  rw [h, hq, Nat.mul_add, Nat.mul_one, show 2 ^ w * q + 2 ^ w - 1 - a = 2 ^ w * q + (2 ^ w - 1 - a) by omega, Nat.mul_add_mod, Nat.mod_eq_of_lt (by omega)]
theorem rg_uneg {w a : Nat} (hw : W w) (ha : a < 2 ^ w) (k : Nat) (hk : 3 ≤ k) : bits_Unary.f k 4 (w : Int) (a : Int) = some ((((2 ^ w - a) % 2 ^ w : Nat) : Int), 0) := by
  unfold bits_Unary.f
  rw [wide_yes hw, Option.bind_some, if_pos rfl, if_neg (by decide), if_pos rfl, check_one hw a k (by omega)]
  unfold chk
  rw [if_pos ha, Option.bind_some, if_pos rfl, mask_yes hw, Option.bind_some, (u64_and_mask _ w hw.2).1]
  rw [show ((-(a : Int)) % ((2 ^ w : Nat) : Int)).toNat = cutN w (-(a : Int)) from rfl, rg_neg ha]
theorem rg_unot {w a : Nat} (hw : W w) (ha : a < 2 ^ w) (k : Nat) (hk : 3 ≤ k) : bits_Unary.f k 3 (w : Int) (a : Int) = some (((2 ^ w - 1 - a : Nat) : Int), 0) := by
  have ha64 := small_of hw ha
  unfold bits_Unary.f
  rw [wide_yes hw, Option.bind_some, if_pos rfl, if_pos rfl, check_one hw a k (by omega)]
  unfold chk
  rw [if_pos ha, Option.bind_some, if_pos rfl, mask_yes hw, Option.bind_some, rg_not64 ha64, and_mask _ w (by omega) hw.2, rg_not_mod hw.2 ha]
end Go.Proofs.Ytbckdelbkcfjkaa.BiP
