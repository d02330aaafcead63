/- Plain lemmas: the parts of bit vectors, as the program and as the reference tell them. -/
import Derived.Test.YtbckdelbkcfjkaaBiPBase
import Derived.Test.YtbckdelbkcfjkaaBiG3
import Derived.Test.YtbckdelbkcfjkaaBiG4
namespace Go.Proofs.Ytbckdelbkcfjkaa.BiP
set_option linter.unusedVariables false
set_option linter.unusedSimpArgs false
open Go.RowKit Go.Proofs.Ytbckdelbkcfjkaa.Bi Go.Proofs.YtbckdelbkcfjkaaW.PrintWords Go.Proofs.YtbckdelbkcfjkaaW.PrintLast Go.Proofs.YtbckdelbkcfjkaaW.PrintMore

theorem sgn_lo {w x : Nat} (h : W w) (hx : x < 2 ^ w) : -((2 ^ (w - 1) : Nat) : Int) ≤ sgn w x ∧ sgn w x < ((2 ^ (w - 1) : Nat) : Int) := by
  unfold W at h
  have hh := pow_half w h.1
  unfold sgn
  split <;> omega

/-! ### Signed -/
def signedS (w x : Nat) : Int × Int := if x < 2 ^ w then (sgn w x, 0) else (0, 8)
theorem Signed_yes {w : Nat} (h : W w) (x k : Nat) (hk : 3 ≤ k) : bits_Signed.f k (w : Int) (x : Int) = some (signedS w x) := by
  unfold bits_Signed.f
  rw [check_one h x k (by omega)]
  simp only [Option.bind_some]
  unfold chk signedS
  by_cases hx : x < 2 ^ w
  · rw [if_pos hx, if_pos rfl, signed_yes h hx, if_pos hx]
    rfl
  · rw [if_neg hx, if_neg (by decide), if_neg hx]
theorem Signed_no {w : Int} (h : ¬ (1 ≤ w ∧ w ≤ 64)) (x : Int) (k : Nat) : bits_Signed.f k w x = some (0, 14) := by
  unfold bits_Signed.f
  rw [check_no h]
  rfl
theorem rSigned_yes {w : Nat} (h : W w) (x k : Nat) (hx : x < 2 ^ 64) (hk : 65 ≤ k) : retargetref01_Signed.f k (w : Int) (x : Int) = some (signedS w x) := by
  unfold retargetref01_Signed.f
  rw [rwide_yes h, rok_yes h x k hx hk]
  have h' := h
  unfold W at h'
  simp only [Option.bind_some, if_true]
  unfold signedS
  by_cases hw : x < 2 ^ w
  · have hh := pow_half w h'.1
    have hp := pow_lt (w - 1) (by omega)
    have hp1 := pow_pos (w - 1)
    rw [decide_eq_true hw, if_pos rfl, if_pos hw, w_sub1 w (by omega) (by omega), bit_eq x (w - 1) k hx (by omega) hk, rmask_yes h k hk]
    simp only [Option.bind_some]
    unfold sgn
    by_cases hc : x < 2 ^ (w - 1)
    · rw [Nat.div_eq_of_lt hc, if_pos hc, if_pos (by rfl), wrap_small (by omega) (by omega)]
    · have e : x / 2 ^ (w - 1) = 1 := by
        rw [Nat.div_eq_iff (by omega)]; omega
      rw [e, if_neg hc, if_neg (by decide)]
      have e1 : ((2 ^ w - 1 : Nat) : Int) - (x : Int) = ((2 ^ w - 1 - x : Nat) : Int) := by omega
      have e2 : 2 ^ w - 1 - x < 2 ^ (w - 1) := by omega
      rw [e1]
      generalize hd : 2 ^ w - 1 - x = d at e2
      rw [u64_small (by omega) (by omega), wrap_small (x := (d : Int)) (by omega) (by omega), wrap_small (x := -(d : Int)) (by omega) (by omega), wrap_small (by omega) (by omega)]
      congr 2; omega
  · rw [decide_eq_false hw, if_neg (by decide), if_neg hw]
theorem rSigned_no {w : Int} (h : ¬ (1 ≤ w ∧ w ≤ 64)) (x : Int) (k : Nat) : retargetref01_Signed.f k w x = some (0, 14) := by
  unfold retargetref01_Signed.f
  rw [rwide_no h]
  rfl

/-! ### Of -/
def ofS (w : Nat) (n : Int) : Int × Int := if -((2 ^ (w - 1) : Nat) : Int) ≤ n ∧ n < ((2 ^ (w - 1) : Nat) : Int) then (n % ((2 ^ w : Nat) : Int), 0) else (0, 24)
theorem Of_yes {w : Nat} (h : W w) (n : Int) : bits_Of.f (w : Int) n = some (ofS w n) := by
  unfold bits_Of.f
  rw [wide_yes h, mask_yes h]
  have h' := h
  unfold W at h'
  simp only [Option.bind_some, if_true]
  obtain ⟨e1, e2, e3⟩ := u64_and_mask n w h'.2
  rw [e1, signed_yes h e2]
  simp only [Option.bind_some]
  have hh := pow_half w h'.1
  have hp1 := pow_pos (w - 1)
  have hs := sgn_lo h e2
  unfold ofS
  by_cases hc : -((2 ^ (w - 1) : Nat) : Int) ≤ n ∧ n < ((2 ^ (w - 1) : Nat) : Int)
  · have e : sgn w (n % ((2 ^ w : Nat) : Int)).toNat = n := by
      unfold sgn
      by_cases h0 : 0 ≤ n
      · have : n % ((2 ^ w : Nat) : Int) = n := Int.emod_eq_of_lt h0 (by omega)
        rw [this]
        rw [if_pos (by omega)]; omega
      · have : n % ((2 ^ w : Nat) : Int) = n + ((2 ^ w : Nat) : Int) := by
          rw [← Int.add_emod_right, Int.emod_eq_of_lt (by omega) (by omega)]
        rw [this]
        rw [if_neg (by omega)]; omega
    rw [if_pos hc, if_pos e, e3]
  · rw [if_neg hc, if_neg (fun e => hc (by rw [e] at hs; omega))]
theorem Of_no {w : Int} (h : ¬ (1 ≤ w ∧ w ≤ 64)) (n : Int) : bits_Of.f w n = some (0, 14) := by
  unfold bits_Of.f
  rw [wide_no h]
  rfl
theorem rOf_yes {w : Nat} (h : W w) (n : Int) (h0 : -9223372036854775808 ≤ n) (h1 : n < 9223372036854775808) (k : Nat) (hk : 65 ≤ k) : retargetref01_Of.f k (w : Int) n = some (ofS w n) := by
  unfold retargetref01_Of.f
  have h' := h
  unfold W at h'
  have hh := pow_half w h'.1
  have hp := pow_lt (w - 1) (by omega)
  have hp1 := pow_pos (w - 1)
  rw [rwide_yes h, rmask_yes h k hk, w_sub1 w (by omega) (by omega), power_eq (w - 1) k (by omega) hk]
  simp only [Option.bind_some, if_true]
  unfold ofS
  by_cases hn : 0 ≤ n
  · rw [if_pos (show n ≥ 0 from hn), u64_small hn (by omega)]
    by_cases hc : n ≥ ((2 ^ (w - 1) : Nat) : Int)
    · rw [if_pos hc, if_neg (by omega)]
    · rw [if_neg hc, if_pos (by omega), Int.emod_eq_of_lt hn (by omega)]
  · rw [if_neg (show ¬ n ≥ 0 from hn), wrap_small (x := n + 1) (by omega) (by omega), wrap_small (x := -(n + 1)) (by omega) (by omega), u64_small (x := -(n + 1)) (by omega) (by omega)]
    by_cases hc : -(n + 1) ≥ ((2 ^ (w - 1) : Nat) : Int)
    · rw [if_pos hc, if_neg (by omega)]
    · rw [if_neg hc, if_pos (by omega)]
      have hpw := pow_le w h'.2
      have : n % ((2 ^ w : Nat) : Int) = n + ((2 ^ w : Nat) : Int) := by
        rw [← Int.add_emod_right, Int.emod_eq_of_lt (by omega) (by omega)]
      rw [this, u64_small (by omega) (by omega)]
      congr 2; omega
theorem rOf_no {w : Int} (h : ¬ (1 ≤ w ∧ w ≤ 64)) (n : Int) (k : Nat) : retargetref01_Of.f k w n = some (0, 14) := by
  unfold retargetref01_Of.f
  rw [rwide_no h]
  rfl

/-! ### Extract -/
def extractS (w x : Nat) (low many : Int) : Int × Int :=
  if x < 2 ^ w then (if 0 ≤ low ∧ 1 ≤ many ∧ low + many ≤ w then (((x / 2 ^ low.toNat % 2 ^ many.toNat : Nat) : Int), 0) else (0, 2)) else (0, 8)
theorem Extract_yes {w : Nat} (h : W w) (x k : Nat) (low many : Int) (hl0 : -9223372036854775808 ≤ low) (hl1 : low < 9223372036854775808) (hx64 : x < 2 ^ 64) (hk : 3 ≤ k) :
    bits_Extract.f k (w : Int) (x : Int) low many = some (extractS w x low many) := by
  unfold bits_Extract.f
  rw [check_one h x k (by omega)]
  have h' := h
  unfold W at h'
  simp only [Option.bind_some]
  unfold chk extractS
  by_cases hx : x < 2 ^ w
  · rw [if_pos hx, if_pos rfl, if_pos hx]
    by_cases h1 : low < 0
    · rw [if_pos h1, if_neg (by omega)]
    rw [if_neg h1]
    by_cases h2 : many < 1
    · rw [if_pos h2, if_neg (by omega)]
    rw [if_neg h2]
    by_cases h3 : many > (w : Int)
    · rw [if_pos h3, if_neg (by omega)]
    rw [if_neg h3, wrap_small (x := (w : Int) - many) (by omega) (by omega)]
    by_cases h4 : low > (w : Int) - many
    · rw [if_pos h4, if_neg (by omega)]
    rw [if_neg h4, if_pos (by omega), if_pos (by omega)]
    obtain ⟨a, rfl⟩ := Int.eq_ofNat_of_zero_le (show 0 ≤ low by omega)
    obtain ⟨b, rfl⟩ := Int.eq_ofNat_of_zero_le (show 0 ≤ many by omega)
    have hd : x / 2 ^ a ≤ x := Nat.div_le_self _ _
    rw [mask_yes (w := b) (by unfold W; omega), shr_nat x a (by omega)]
    simp only [Option.bind_some]
    rw [and_mask _ b (by omega) (by omega)]
    rfl
  · rw [if_neg hx, if_neg (by decide), if_neg hx]
theorem Extract_no {w : Int} (h : ¬ (1 ≤ w ∧ w ≤ 64)) (x low many : Int) (k : Nat) : bits_Extract.f k w x low many = some (0, 14) := by
  unfold bits_Extract.f
  rw [check_no h]
  rfl
theorem bitsL_cut (x : Nat) (w a b : Nat) (h : a + b ≤ w) : ((bitsL x w).take (a + b)).drop a = bitsL (x / 2 ^ a) b := by
  apply List.ext_getElem?
  intro i
  rw [List.getElem?_drop, List.getElem?_take]
  unfold bitsL
  by_cases hi : i < b
  · rw [if_pos (by omega)]
    simp only [List.getElem?_map, List.getElem?_range (show a + i < w by omega), List.getElem?_range hi, Option.map_some]
    rw [Nat.div_div_eq_div_mul, ← Nat.pow_add]
  · rw [if_neg (by omega), List.getElem?_eq_none (by simp; omega)]
theorem rExtract_yes {w : Nat} (h : W w) (x k : Nat) (low many : Int) (hl0 : -9223372036854775808 ≤ low) (hl1 : low < 9223372036854775808) (hx64 : x < 2 ^ 64) (hk : 200 ≤ k) :
    retargetref01_Extract.f k (w : Int) (x : Int) low many = some (extractS w x low many) := by
  obtain ⟨m, rfl⟩ : ∃ m, k = m + 1 := ⟨k - 1, by omega⟩
  unfold retargetref01_Extract.f
  rw [rwide_yes h, rok_yes h x _ hx64 (by omega)]
  have h' := h
  unfold W at h'
  simp only [Option.bind_some, if_true]
  unfold extractS
  by_cases hx : x < 2 ^ w
  · have hbad : retargetref01_Extract.j0 (m + 1) (w : Int) (x : Int) low many true = some (0, 2) := by simp only [retargetref01_Extract.j0, if_true]
    rw [decide_eq_true hx, if_pos rfl, if_pos hx, hbad]
    by_cases h1 : low < 0
    · rw [if_pos h1, if_neg (by omega)]
    rw [if_neg h1]
    by_cases h2 : many < 1
    · rw [if_pos h2, if_neg (by omega)]
    rw [if_neg h2]
    by_cases h3 : low > (w : Int)
    · rw [if_pos h3, if_neg (by omega)]
    rw [if_neg h3]
    by_cases h4 : many > (w : Int)
    · rw [if_pos h4, if_neg (by omega)]
    rw [if_neg h4, wrap_small (x := low + many) (by omega) (by omega)]
    by_cases h5 : low + many > (w : Int)
    · rw [decide_eq_true h5, hbad, if_neg (by omega)]
    rw [decide_eq_false h5, if_pos (by omega)]
    simp only [retargetref01_Extract.j0]
    rw [if_neg (by decide), bits_eq x w m hx64 h'.2 (by omega)]
    simp only [Option.bind_some]
    rw [wrap_small (x := low + many) (by omega) (by omega), bitsL_len, if_pos (by omega), if_pos (by omega), if_pos (by omega)]
    obtain ⟨a, rfl⟩ := Int.eq_ofNat_of_zero_le (show 0 ≤ low by omega)
    obtain ⟨b, rfl⟩ := Int.eq_ofNat_of_zero_le (show 0 ≤ many by omega)
    rw [show ((a : Int) + (b : Int)).toNat = a + b by omega, show (a : Int).toNat = a from rfl, show (b : Int).toNat = b from rfl, bitsL_cut x w a b (by omega), number_eq _ (by rw [bitsL_len]; omega) m (by omega), numL_bits]
    rfl
  · rw [decide_eq_false hx, if_neg (by decide), if_neg hx]
theorem rExtract_no {w : Int} (h : ¬ (1 ≤ w ∧ w ≤ 64)) (x low many : Int) (k : Nat) : retargetref01_Extract.f k w x low many = some (0, 14) := by
  unfold retargetref01_Extract.f
  rw [rwide_no h]
  rfl

/-! ### Concat -/
def concatS (h a l b : Nat) : Int × Int :=
  if h + l ≤ 64 then (if a < 2 ^ h ∧ b < 2 ^ l then (((a * 2 ^ l + b : Nat) : Int), 0) else (0, 8)) else (0, 14)
theorem or_shift (a b l : Nat) (hb : b < 2 ^ l) (h : a * 2 ^ l + 2 ^ l ≤ 18446744073709551616) : Go.bits .or .u64 ((a * 2 ^ l : Nat) : Int) (b : Int) = ((a * 2 ^ l + b : Nat) : Int) := by
  have h1 : a * 2 ^ l < 18446744073709551616 := by have := pow_pos l; omega
  have h2 : b < 18446744073709551616 := by omega
  rw [or_nat _ _ h1 h2, Nat.mul_comm a, Nat.two_pow_add_eq_or_of_lt hb a]
theorem join_nat {a b h l : Nat} (ha : a < 2 ^ h) (hb : b < 2 ^ l) (hl : l ≤ 64) (hlt : a * 2 ^ l + 2 ^ l ≤ 18446744073709551616) : Go.bits .or .u64 (shl .u64 (a : Int) (l : Int)) (b : Int) = ((a * 2 ^ l + b : Nat) : Int) := by
  have h1 : a * 2 ^ l < 18446744073709551616 := by have := pow_pos l; omega
  rw [shl_nat a l hl h1, or_shift a b l hb hlt]
theorem mul_pow_lt {a h l : Nat} (ha : a < 2 ^ h) (hs : h + l ≤ 64) : a * 2 ^ l + 2 ^ l ≤ 18446744073709551616 := by
  have h2 := pow_le (h + l) hs
  have h1 : (a + 1) * 2 ^ l ≤ 2 ^ (h + l) := by rw [Nat.pow_add]; exact Nat.mul_le_mul_right _ ha
  have h3 : (a + 1) * 2 ^ l = a * 2 ^ l + 2 ^ l := by rw [Nat.add_mul, Nat.one_mul]
  exact h3 ▸ (Nat.le_trans h1 h2)
theorem Concat_yes {h l : Nat} (hh : W h) (hl : W l) (a b k : Nat) (hk : 2 ≤ k) : bits_Concat.f k (h : Int) (a : Int) (l : Int) (b : Int) = some (concatS h a l b) := by
  obtain ⟨m, rfl⟩ : ∃ m, k = m + 1 := ⟨k - 1, by omega⟩
  unfold bits_Concat.f
  rw [wide_yes hh, Option.bind_some, if_pos rfl, wide_yes hl, Option.bind_some, if_pos rfl]
  have hh' := hh
  have hl' := hl
  unfold W at hh' hl'
  rw [wrap_small (x := (h : Int) + (l : Int)) (by omega) (by omega)]
  unfold concatS
  by_cases hs : h + l ≤ 64
  · rw [show (h : Int) + (l : Int) = ((h + l : Nat) : Int) by omega, wide_yes (w := h + l) (by unfold W; omega)]
    rw [Option.bind_some, if_pos hs]
    show bits_Concat.j0 (m + 1) (h : Int) (a : Int) (l : Int) (b : Int) false = _
    simp only [bits_Concat.j0]
    rw [if_neg (by decide), ok_yes hh, ok_yes hl, Option.bind_some, Option.bind_some]
    by_cases ha : a < 2 ^ h
    · rw [decide_eq_true ha, if_pos rfl]
      by_cases hb : b < 2 ^ l
      · rw [decide_eq_true hb, if_pos rfl, if_pos (Int.natCast_nonneg _), if_pos ⟨ha, hb⟩, join_nat ha hb hl'.2 (mul_pow_lt ha hs)]
      · rw [decide_eq_false hb, if_neg (by decide), if_neg (fun x => hb x.2)]
    · rw [decide_eq_false ha, if_neg (by decide), if_neg (fun x => ha x.1)]
  · rw [wide_no (by omega)]
    rw [Option.bind_some, if_neg hs]
    show bits_Concat.j0 (m + 1) (h : Int) (a : Int) (l : Int) (b : Int) true = _
    simp only [bits_Concat.j0]
    rw [if_pos trivial]
theorem Concat_no {h l : Int} (hn : ¬ ((1 ≤ h ∧ h ≤ 64) ∧ (1 ≤ l ∧ l ≤ 64))) (a b : Int) (k : Nat) (hk : 2 ≤ k) : bits_Concat.f k h a l b = some (0, 14) := by
  obtain ⟨m, rfl⟩ : ∃ m, k = m + 1 := ⟨k - 1, by omega⟩
  unfold bits_Concat.f
  rcases wide_or h with ⟨h, rfl, hh⟩ | hh
  · rcases wide_or l with ⟨l, rfl, hl⟩ | hl
    · unfold W at hh hl; omega
    · rw [wide_yes hh, wide_no hl]; rfl
  · rw [wide_no hh]; rfl
theorem rConcat_yes {h l : Nat} (hh : W h) (hl : W l) (a b k : Nat) (ha64 : a < 2 ^ 64) (hb64 : b < 2 ^ 64) (hk : 200 ≤ k) : retargetref01_Concat.f k (h : Int) (a : Int) (l : Int) (b : Int) = some (concatS h a l b) := by
  obtain ⟨m, rfl⟩ : ∃ m, k = m + 1 := ⟨k - 1, by omega⟩
  unfold retargetref01_Concat.f
  rw [rwide_yes hh, Option.bind_some, if_pos rfl, rwide_yes hl, Option.bind_some, if_pos rfl]
  have hh' := hh
  have hl' := hl
  unfold W at hh' hl'
  rw [wrap_small (x := (h : Int) + (l : Int)) (by omega) (by omega)]
  have g1 : 65 ≤ m := by omega
  have g3 : l + h < 17592186044416 := by omega
  unfold concatS
  by_cases hs : h + l ≤ 64
  · rw [decide_eq_false (by omega), if_pos hs]
    simp only [retargetref01_Concat.j0]
    rw [if_neg (by decide), rok_yes hh a _ ha64 g1, rok_yes hl b _ hb64 g1, Option.bind_some, Option.bind_some]
    obtain ⟨m, rfl⟩ : ∃ m', m = m' + 1 := ⟨m - 1, by omega⟩
    have g2 : 130 ≤ m := by omega
    by_cases ha : a < 2 ^ h
    · rw [decide_eq_true ha, if_pos rfl]
      by_cases hb : b < 2 ^ l
      · rw [decide_eq_true hb, if_pos ⟨ha, hb⟩]
        simp only [Bool.not_true, retargetref01_Concat.j1]
        rw [if_neg (by decide), bits_eq b l m hb64 hl'.2 g2, bits_eq a h m ha64 hh'.2 g2]
        simp only [Option.bind_some]
        rw [if_pos (by rw [bitsL_len, bitsL_len]; exact g3), number_eq _ (by rw [List.length_append, bitsL_len, bitsL_len, Nat.add_comm]; exact hs) m g2, numL_append, bitsL_len, numL_val hb, numL_val ha]
        simp only [Option.bind_some]
        rw [Nat.mul_comm a, Nat.add_comm]
      · rw [decide_eq_false hb, if_neg (fun x => hb x.2)]
        simp only [Bool.not_false, retargetref01_Concat.j1]
        rw [if_pos trivial]
    · rw [decide_eq_false ha, if_neg (by decide), if_neg (fun x => ha x.1)]
      simp only [retargetref01_Concat.j1]
      rw [if_pos trivial]
  · rw [decide_eq_true (by omega), if_neg hs]
    simp only [retargetref01_Concat.j0]
    rw [if_pos trivial]
theorem rConcat_no {h l : Int} (hn : ¬ ((1 ≤ h ∧ h ≤ 64) ∧ (1 ≤ l ∧ l ≤ 64))) (a b : Int) (k : Nat) (hk : 2 ≤ k) : retargetref01_Concat.f k h a l b = some (0, 14) := by
  obtain ⟨m, rfl⟩ : ∃ m, k = m + 1 := ⟨k - 1, by omega⟩
  unfold retargetref01_Concat.f
  rcases wide_or h with ⟨h, rfl, hh⟩ | hh
  · rcases wide_or l with ⟨l, rfl, hl⟩ | hl
    · unfold W at hh hl; omega
    · rw [rwide_yes hh, rwide_no hl]; rfl
  · rw [rwide_no hh]; rfl

/-! ### Extend -/
def extendS (w x tw : Nat) (sign : Bool) : Int × Int :=
  if w ≤ tw then (if x < 2 ^ w then (if sign = true ∧ 2 ^ (w - 1) ≤ x then ((x + 2 ^ tw - 2 ^ w : Nat) : Int) else (x : Int), 0) else (0, 8)) else (0, 14)
theorem Extend_yes {w tw : Nat} (hw : W w) (ht : W tw) (x k : Nat) (sign : Bool) (hk : 4 ≤ k) : bits_Extend.f k (w : Int) (x : Int) (tw : Int) sign = some (extendS w x tw sign) := by
  obtain ⟨m, rfl⟩ : ∃ m, k = m + 1 := ⟨k - 1, by omega⟩
  unfold bits_Extend.f
  rw [wide_yes hw, wide_yes ht]
  have hw' := hw
  have ht' := ht
  unfold W at hw' ht'
  simp only [Option.bind_some, if_true]
  unfold extendS
  by_cases hs : w ≤ tw
  · rw [decide_eq_false (by omega), if_pos hs]
    simp only [bits_Extend.j0]
    rw [if_neg (by decide), check_one hw x m (by omega)]
    simp only [Option.bind_some]
    unfold chk
    by_cases hx : x < 2 ^ w
    · rw [if_pos hx, if_pos rfl, if_pos hx]
      have hle : 2 ^ w ≤ 2 ^ tw := Nat.pow_le_pow_right (by decide) hs
      cases sign with
      | true =>
        rw [if_pos rfl, signed_yes hw hx, mask_yes ht]
        simp only [Option.bind_some]
        obtain ⟨e1, e2, e3⟩ := u64_and_mask (sgn w x) tw ht'.2
        rw [e1, e3]
        have hh := pow_half w hw'.1
        unfold sgn
        by_cases hc : x < 2 ^ (w - 1)
        · rw [if_pos hc, if_neg (by omega), Int.emod_eq_of_lt (by omega) (by omega)]
        · rw [if_neg hc, if_pos ⟨trivial, by omega⟩, ← Int.add_emod_right, Int.emod_eq_of_lt (by omega) (by omega)]
          congr 2; omega
      | false => rw [if_neg (by decide), if_neg (fun y => by simp at y)]
    · rw [if_neg hx, if_neg (by decide), if_neg hx]
  · rw [decide_eq_true (by omega), if_neg hs]
    simp only [bits_Extend.j0]
    rw [if_pos trivial]
theorem Extend_no {w tw : Int} (hn : ¬ ((1 ≤ w ∧ w ≤ 64) ∧ (1 ≤ tw ∧ tw ≤ 64))) (x : Int) (sign : Bool) (k : Nat) (hk : 2 ≤ k) : bits_Extend.f k w x tw sign = some (0, 14) := by
  obtain ⟨m, rfl⟩ : ∃ m, k = m + 1 := ⟨k - 1, by omega⟩
  unfold bits_Extend.f
  rcases wide_or w with ⟨h, rfl, hh⟩ | hh
  · rcases wide_or tw with ⟨l, rfl, hl⟩ | hl
    · unfold W at hh hl; omega
    · rw [wide_yes hh, wide_no hl]; rfl
  · rw [wide_no hh]; rfl
theorem numL_ones (n : Nat) : numL (List.replicate n 1) = 2 ^ n - 1 := by
  induction n with
  | zero => rfl
  | succ n ih =>
    have := pow_pos n
    rw [List.replicate_succ, numL_cons, ih, if_pos rfl, Nat.pow_succ]; omega
theorem numL_zeros (n : Nat) : numL (List.replicate n 0) = 0 := by
  induction n with
  | zero => rfl
  | succ n ih => rw [List.replicate_succ, numL_cons, ih, if_neg (by decide)]
theorem rextend_l0 (tw : Nat) (ht : tw ≤ 64) (sign : Bool) (top : Int) : ∀ d k (l : List Int), l.length + d = tw → d + 200 < k →
    retargetref01_Extend.l0 k (tw : Int) sign l top = some ((numL (l ++ List.replicate d (if sign = true then top else 0)) : Int), 0) := by
  intro d
  induction d with
  | zero =>
    intro k l h1 h2
    obtain ⟨m, rfl⟩ : ∃ m, k = m + 1 := ⟨k - 1, by omega⟩
    simp only [retargetref01_Extend.l0]
    rw [if_neg (by omega), number_eq l (by omega) m (by omega)]
    simp
  | succ d ih =>
    intro k l h1 h2
    obtain ⟨m, rfl⟩ : ∃ m, k = m + 1 := ⟨k - 1, by omega⟩
    simp only [retargetref01_Extend.l0]
    rw [if_pos (by omega), List.replicate_succ]
    cases sign with
    | true =>
      rw [if_pos rfl, if_pos (by omega), ih m (l ++ [top]) (by rw [List.length_append, List.length_singleton]; omega) (by omega)]
      simp
    | false =>
      rw [if_neg (by decide), if_pos (by omega), ih m (l ++ [0]) (by rw [List.length_append, List.length_singleton]; omega) (by omega)]
      simp
theorem rExtend_yes {w tw : Nat} (hw : W w) (ht : W tw) (x k : Nat) (sign : Bool) (hx64 : x < 2 ^ 64) (hk : 400 ≤ k) : retargetref01_Extend.f k (w : Int) (x : Int) (tw : Int) sign = some (extendS w x tw sign) := by
  obtain ⟨m, rfl⟩ : ∃ m, k = m + 1 := ⟨k - 1, by omega⟩
  unfold retargetref01_Extend.f
  rw [rwide_yes hw, rwide_yes ht]
  have hw' := hw
  have ht' := ht
  unfold W at hw' ht'
  simp only [Option.bind_some, if_true]
  unfold extendS
  by_cases hs : w ≤ tw
  · rw [decide_eq_false (by omega), if_pos hs]
    simp only [retargetref01_Extend.j0]
    rw [if_neg (by decide), rok_yes hw x m hx64 (by omega)]
    simp only [Option.bind_some]
    by_cases hx : x < 2 ^ w
    · rw [decide_eq_true hx, if_pos rfl, if_pos hx, bits_eq x w m hx64 hw'.2 (by omega)]
      simp only [Option.bind_some]
      have hh := pow_half w hw'.1
      have hp1 := pow_pos (w - 1)
      rw [w_sub1 w (by omega) (by omega), bitsL_len, if_pos (by omega), if_pos (by omega), rextend_l0 tw ht'.2 sign _ (tw - w) m _ (by rw [bitsL_len]; omega) (by omega), numL_append, bitsL_len, numL_val hx]
      have hr : rd (bitsL x w) ((w - 1 : Nat) : Int) = ((x / 2 ^ (w - 1) % 2 : Nat) : Int) := by
        simp [rd, bitsL, show w - 1 < w by omega]
      rw [hr]
      cases sign with
      | true =>
        rw [if_pos rfl]
        by_cases hc : x < 2 ^ (w - 1)
        · rw [Nat.div_eq_of_lt hc, if_neg (by omega)]
          rw [show ((0 % 2 : Nat) : Int) = 0 from rfl, numL_zeros]; rfl
        · have e : x / 2 ^ (w - 1) = 1 := by rw [Nat.div_eq_iff (by omega)]; omega
          rw [e, if_pos ⟨rfl, by omega⟩]
          rw [show ((1 % 2 : Nat) : Int) = 1 from rfl, numL_ones, Nat.mul_sub, Nat.mul_one, ← Nat.pow_add, show w + (tw - w) = tw by omega]
          have hle : 2 ^ w ≤ 2 ^ tw := Nat.pow_le_pow_right (by decide) hs
          congr 3; omega
      | false =>
        rw [if_neg (by decide), numL_zeros, if_neg (fun y => by simp at y)]; rfl
    · rw [decide_eq_false hx, if_neg (by decide), if_neg hx]
  · rw [decide_eq_true (by omega), if_neg hs]
    simp only [retargetref01_Extend.j0]
    rw [if_pos trivial]
theorem rExtend_no {w tw : Int} (hn : ¬ ((1 ≤ w ∧ w ≤ 64) ∧ (1 ≤ tw ∧ tw ≤ 64))) (x : Int) (sign : Bool) (k : Nat) (hk : 2 ≤ k) : retargetref01_Extend.f k w x tw sign = some (0, 14) := by
  obtain ⟨m, rfl⟩ : ∃ m, k = m + 1 := ⟨k - 1, by omega⟩
  unfold retargetref01_Extend.f
  rcases wide_or w with ⟨h, rfl, hh⟩ | hh
  · rcases wide_or tw with ⟨l, rfl, hl⟩ | hl
    · unfold W at hh hl; omega
    · rw [rwide_yes hh, rwide_no hl]; rfl
  · rw [rwide_no hh]; rfl
end Go.Proofs.Ytbckdelbkcfjkaa.BiP
