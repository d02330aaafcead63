/- Plain lemmas: the bytes of a table, by the program and by the reference. -/
import Derived.Test.YtbckdelbkcfjkaaRoPSame
import Derived.Test.YtbckdelbkcfjkaaRoHPack
namespace Go.Proofs.Ytbckdelbkcfjkaa.RoP
set_option linter.unusedVariables false
set_option linter.unusedSimpArgs false
open Go.RowKit Go.Proofs.Ytbckdelbkcfjkaa.Ro Go.Proofs.YtbckdelbkcfjkaaW.PrintWords Go.Proofs.YtbckdelbkcfjkaaW.PrintLast Go.Proofs.YtbckdelbkcfjkaaW.PrintMore
/-- The varying bytes of a number, of at most d bytes. -/
def varF : Nat → Nat → List Int
  | 0, _ => []
  | d + 1, n => if n < 128 then [(n : Int)] else ((n % 128 + 128 : Nat) : Int) :: varF d (n / 128)
theorem varF_len : ∀ d n, (varF d n).length ≤ d
  | 0, _ => Nat.le_refl _
  | d + 1, n => by
    unfold varF
    split
    · simp
    · rw [List.length_cons]; have := varF_len d (n / 128); omega
theorem or128_tab : ∀ x : Fin 256, Go.bits .or .u8 ((x.val : Nat) : Int) 128 = ((x.val % 128 + 128 : Nat) : Int) := by decide +kernel
theorem or128 (n : Nat) : Go.bits .or .u8 ((n : Int) % 256) 128 = ((n % 128 + 128 : Nat) : Int) := by
  have h := or128_tab ⟨n % 256, Nat.mod_lt _ (by decide)⟩
  have e : ((n : Int) % 256) = ((n % 256 : Nat) : Int) := by omega
  rw [e]
  refine h.trans ?_
  show ((n % 256 % 128 + 128 : Nat) : Int) = _
  rw [Nat.mod_mod_of_dvd _ (by decide : 128 ∣ 256)]
theorem varying_l0 : ∀ (d n k : Nat) (b : List Int), n < 128 ^ (d + 1) → d < k → b.length + d < 140737488355328 → rows_varying.l0 k b (n : Int) = some (b ++ varF (d + 1) n) := by
  intro d
  induction d with
  | zero =>
    intro n k b h1 h2 h3
    obtain ⟨m, rfl⟩ : ∃ m, k = m + 1 := ⟨k - 1, by omega⟩
    have hn : n < 128 := by simpa using h1
    simp only [rows_varying.l0]
    rw [if_neg (by omega), if_pos (by omega), varF, if_pos hn, show (n : Int) % 256 = (n : Int) by omega]
  | succ d ih =>
    intro n k b h1 h2 h3
    obtain ⟨m, rfl⟩ : ∃ m, k = m + 1 := ⟨k - 1, by omega⟩
    simp only [rows_varying.l0]
    rw [varF]
    by_cases hn : n < 128
    · rw [if_neg (by omega), if_pos (by omega), if_pos hn, show (n : Int) % 256 = (n : Int) by omega]
    · have hq : n / 128 < 128 ^ (d + 1) := by
        rw [Nat.div_lt_iff_lt_mul (by decide), ← Nat.pow_succ]; exact h1
      rw [if_pos (by omega), if_pos (by omega), if_neg hn, or128, show (n : Int) / 128 = ((n / 128 : Nat) : Int) by omega, ih (n / 128) m _ hq (by omega) (by rw [List.length_append, List.length_singleton]; omega), List.append_assoc]
      rfl
theorem varying_eq (n k : Nat) (b : List Int) (hn : n < 18446744073709551616) (hk : 10 ≤ k) (hb : b.length ≤ 140737488355000) : rows_varying.f k b (n : Int) = some (b ++ varF 10 n) := by
  unfold rows_varying.f
  exact varying_l0 9 n k b (by omega) (by omega) (by omega)
/-- A number without sign for one with a sign. -/
def foldN (m : Int) : Nat := if m < 0 then (-2 * m - 1).toNat else (2 * m).toNat
theorem foldN_lt {m : Int} (h0 : -4611686018427387904 ≤ m) (h1 : m < 4611686018427387904) : foldN m < 9223372036854775808 := by unfold foldN; split <;> omega
theorem fold_eq {m : Int} (h0 : -2305843009213693952 ≤ m) (h1 : m < 2305843009213693952) : rows_fold.f m = some (foldN m : Int) := by
  unfold rows_fold.f foldN
  by_cases h : m < 0
  · rw [if_pos h, if_pos h, wrap_small (x := -2 * m) (by omega) (by omega), wrap_small (by omega) (by omega), u64_in (by omega) (by omega), Int.toNat_of_nonneg (by omega)]
  · rw [if_neg h, if_neg h, wrap_small (by omega) (by omega), u64_in (by omega) (by omega), Int.toNat_of_nonneg (by omega)]
/-- Whether a difference has one byte. -/
def shortP (d : Nat) (m : Int) : Prop := 1 ≤ d ∧ d ≤ 14 ∧ -8 ≤ m ∧ m ≤ 7
instance (d : Nat) (m : Int) : Decidable (shortP d m) := by unfold shortP; infer_instance
theorem short_eq (d : Nat) (m : Int) : rows_short.f (d : Int) m = some (decide (shortP d m)) := by
  unfold rows_short.f
  by_cases h1 : (d : Int) ≥ 1
  · rw [if_pos h1]
    by_cases h2 : (d : Int) ≤ 14
    · rw [if_pos h2]
      by_cases h3 : m ≥ -8
      · rw [if_pos h3]
        exact congrArg some (decide_eq_decide.2 ⟨fun h => ⟨by omega, by omega, h3, h⟩, fun h => h.2.2.2⟩)
      · rw [if_neg h3, decide_eq_false (fun h : shortP d m => h3 h.2.2.1)]
    · rw [if_neg h2, decide_eq_false (fun h : shortP d m => h2 (by have := h.2.1; omega))]
  · rw [if_neg h1, decide_eq_false (fun h : shortP d m => h1 (by have := h.1; omega))]
/-- The bytes of a difference. -/
def stepV (d : Nat) (m : Int) : List Int := if shortP d m then [32 + 16 * ((d : Int) - 1) + m + 8] else 1 :: (varF 10 d ++ varF 10 (foldN m))
theorem stepV_len (d : Nat) (m : Int) : (stepV d m).length ≤ 21 := by
  unfold stepV
  split
  · simp
  · rw [List.length_cons, List.length_append]; have := varF_len 10 d; have := varF_len 10 (foldN m); omega
theorem step_eq {d : Nat} {m : Int} (hd : d < 18446744073709551616) (h0 : -2305843009213693952 ≤ m) (h1 : m < 2305843009213693952) (b : List Int) (hb : b.length ≤ 1000000) (k : Nat) (hk : 10 ≤ k) : packStep k b (d : Int) m = some (b ++ stepV d m) := by
  unfold packStep stepV
  rw [short_eq, Option.bind_some]
  by_cases h : shortP d m
  · rw [decide_eq_true h, if_pos rfl, if_pos (by omega), if_pos h]
  · have hf := foldN_lt (m := m) (by omega) (by omega)
    have hl := varF_len 10 d
    rw [decide_eq_false h, if_neg (by decide), if_pos (by omega), if_neg h, varying_eq d k _ hd hk (by rw [List.length_append, List.length_singleton]; omega), Option.bind_some, fold_eq h0 h1, Option.bind_some, varying_eq (foldN m) k _ (by omega) hk (by rw [List.length_append, List.length_append, List.length_singleton]; omega)]
    simp
/-- The differences of row i to the one before, as the code reckons them. -/
def dD (l : List S72) (i : Nat) : Nat := (IntKind.u64.wrap ((rw_ l i).f0 - prev (fun j => (rw_ l j).f0) i)).toNat
def dM (l : List S72) (i : Nat) : Int := wrap64 ((rw_ l i).f1 - prev (fun j => (rw_ l j).f1) i)
theorem u64_range (x : Int) : 0 ≤ IntKind.u64.wrap x ∧ IntKind.u64.wrap x < 18446744073709551616 := by
  simp only [IntKind.wrap, IntKind.bits, IntKind.signed, Bool.false_and, Bool.false_eq_true, if_false]
  exact ⟨Int.emod_nonneg _ (by decide), Int.emod_lt_of_pos _ (by decide)⟩
theorem dD_cast (l : List S72) (i : Nat) : (dD l i : Int) = IntKind.u64.wrap ((rw_ l i).f0 - prev (fun j => (rw_ l j).f0) i) := Int.toNat_of_nonneg (u64_range _).1
theorem dD_lt (l : List S72) (i : Nat) : dD l i < 18446744073709551616 := by have := (u64_range ((rw_ l i).f0 - prev (fun j => (rw_ l j).f0) i)).2; rw [← dD_cast] at this; omega
def bytesL (l : List S72) : Nat → List Int
  | 0 => []
  | i + 1 => bytesL l i ++ stepV (dD l i) (dM l i)
theorem bytesL_len (l : List S72) : ∀ i, (bytesL l i).length ≤ 21 * i
  | 0 => Nat.le_refl _
  | i + 1 => by rw [bytesL, List.length_append]; have := bytesL_len l i; have := stepV_len (dD l i) (dM l i); omega
/-- What Pack answers. -/
def packV (l : List S72) : List Int × Int := if checkL l = 0 then (bytesL l l.length ++ [0], 0) else ([], checkL l)
theorem good_m {l : List S72} (g : Good l) {i : Nat} (hi : i < l.length) : -1048576 ≤ (rw_ l i).f1 - prev (fun j => (rw_ l j).f1) i ∧ (rw_ l i).f1 - prev (fun j => (rw_ l j).f1) i ≤ 1048576 := by
  have h1 := (g.at hi).l1
  have h2 := (g.at hi).l2
  cases i with
  | zero => show -1048576 ≤ _ - 0 ∧ _ - 0 ≤ _; omega
  | succ i =>
    have h3 := (g.at (i := i) (by omega)).l1
    have h4 := (g.at (i := i) (by omega)).l2
    show -1048576 ≤ _ - (rw_ l i).f1 ∧ _ - (rw_ l i).f1 ≤ _
    omega
theorem dM_good {l : List S72} (g : Good l) {i : Nat} (hi : i < l.length) : dM l i = (rw_ l i).f1 - prev (fun j => (rw_ l j).f1) i := by
  have := good_m g hi
  exact wrap_small (by omega) (by omega)
theorem packL_eq (l : List S72) (g : Good l) (k : Nat) (hk : 10 ≤ k) : ∀ i, i ≤ l.length → packL k (fun i => (l.getD i z72).f0) (fun i => (l.getD i z72).f1) i = some (bytesL l i) := by
  intro i
  induction i with
  | zero => intro _; rfl
  | succ i ih =>
    intro hi
    have hl := g.len
    have hb := bytesL_len l i
    have hm := good_m g (i := i) (by omega)
    rw [packL, ih (by omega), Option.bind_some]
    have e1 : IntKind.u64.wrap ((l.getD i z72).f0 - prev (fun i => (l.getD i z72).f0) i) = (dD l i : Int) := (dD_cast l i).symm
    have e2 : wrap64 ((l.getD i z72).f1 - prev (fun i => (l.getD i z72).f1) i) = dM l i := rfl
    have hd := dM_good g (i := i) (by omega)
    show packStep k (bytesL l i) (IntKind.u64.wrap ((l.getD i z72).f0 - prev (fun i => (l.getD i z72).f0) i)) (wrap64 ((l.getD i z72).f1 - prev (fun i => (l.getD i z72).f1) i)) = _
    rw [e1, e2, step_eq (dD_lt l i) (by omega) (by omega) _ (by omega) k hk]
    rfl
theorem pack_eq (l : List S72) (k : Nat) (hk : 2010 < k) : rows_Pack.f k l = some (packV l) := by
  unfold rows_Pack.f packV
  rw [check_eq l k (.inr (by omega)), Option.bind_some]
  by_cases hc : checkL l = 0
  · have g := good_of hc
    have hl := g.len
    have hb := bytesL_len l l.length
    rw [if_pos hc, if_pos hc, packL_eq l g k (by omega) l.length (Nat.le_refl _), Option.bind_some, if_pos (by omega)]
  · rw [if_neg hc, if_neg hc]
end Go.Proofs.Ytbckdelbkcfjkaa.RoP
