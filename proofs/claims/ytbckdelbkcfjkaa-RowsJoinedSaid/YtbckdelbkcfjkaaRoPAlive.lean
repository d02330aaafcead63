/- Plain lemmas: the chapter's examples hold; how long packed bytes are. -/
import Derived.Test.YtbckdelbkcfjkaaRoPUnpack
import Derived.Test.YtbckdelbkcfjkaaRoFretargetlaw42alive
namespace Go.Proofs.Ytbckdelbkcfjkaa.RoP
set_option linter.unusedVariables false
set_option linter.unusedSimpArgs false
open Go.RowKit Go.Proofs.Ytbckdelbkcfjkaa.Ro Go.Proofs.YtbckdelbkcfjkaaW.PrintWords Go.Proofs.YtbckdelbkcfjkaaW.PrintLast Go.Proofs.YtbckdelbkcfjkaaW.PrintMore
theorem sameB_l0 (l : List Int) (hl : l.length ≤ 4611686018427387000) : ∀ d k i, i + d = l.length → d < k → retargetref42_SameBytes.l0 k l l (i : Int) = some true := by
  intro d
  induction d with
  | zero =>
    intro k i h1 h2
    obtain ⟨m, rfl⟩ : ∃ m, k = m + 1 := ⟨k - 1, by omega⟩
    simp only [retargetref42_SameBytes.l0]
    rw [if_neg (by omega)]
  | succ d ih =>
    intro k i h1 h2
    obtain ⟨m, rfl⟩ : ∃ m, k = m + 1 := ⟨k - 1, by omega⟩
    simp only [retargetref42_SameBytes.l0]
    rw [if_pos (by omega), if_pos (by omega), if_pos (by omega), if_pos trivial, w_add1 i (by omega)]
    exact ih m (i + 1) (by omega) (by omega)
theorem sameB_refl (l : List Int) (k : Nat) (hl : l.length ≤ 4611686018427387000) (hk : l.length < k) : retargetref42_SameBytes.f k l l = some true := by
  unfold retargetref42_SameBytes.f
  rw [if_pos rfl]
  exact sameB_l0 l hl l.length k 0 (by omega) hk
def exA : List S72 := [⟨4, 1⟩, ⟨8, 3⟩, ⟨12, 2⟩]
def exB : List S72 := [⟨0, 1⟩, ⟨20, 40⟩]
theorem exA_check : checkL exA = 0 := by decide +kernel
theorem exA_bytes : bytesL exA exA.length ++ [0] = [89, 90, 87, 0] := by decide +kernel
theorem exA_pack : packV exA = ([89, 90, 87, 0], 0) := by unfold packV; rw [if_pos exA_check, exA_bytes]
theorem exB_pack : packV exB = ([1, 0, 2, 1, 20, 78, 0], 0) := by decide +kernel
theorem exA_find : findL exA 9 = (3, 0) := by decide +kernel
theorem exA_nat : Nat0 exA := by
  intro i hi
  have h : ∀ j : Fin 3, 0 ≤ (rw_ exA j.val).f0 := by decide +kernel
  exact h ⟨i, hi⟩
theorem exA_unpack (k : Nat) (hk : 3000 < k) : rows_Unpack.f k [89, 90, 87, 0] = some (exA, 0) := by
  have h := unpack_of (good_of exA_check) exA_nat (k := k) (by have : exA.length = 3 := rfl; omega)
  rw [exA_bytes] at h
  exact h
theorem ralive (k : Nat) (hk : 5000 < k) : retargetlaw42_alive.f k = some true := by
  unfold retargetlaw42_alive.f
  rw [Option.bind_some]
  show Option.bind (rows_Pack.f k exA) _ = _
  rw [pack_eq exA k (by omega), exA_pack, Option.bind_some, exA_unpack k (by omega), Option.bind_some]
  show Option.bind (rows_Find.f k exA 9) _ = _
  rw [find_eq exA 9 k (by omega), exA_find, Option.bind_some]
  show Option.bind (rows_Pack.f k exB) _ = _
  rw [pack_eq exB k (by omega), exB_pack, Option.bind_some, if_pos rfl, sameB_refl _ k (by simp) (by simp; omega), Option.bind_some, if_pos rfl, if_pos rfl]
  show Option.bind (retargetref42_Same.f k exA exA) _ = _
  rw [same_refl exA k (by have : exA.length = 3 := rfl; omega) (by have : exA.length = 3 := rfl; omega), Option.bind_some, if_pos rfl, if_pos rfl, if_pos rfl, if_pos rfl, sameB_refl _ k (by simp) (by simp; omega), Option.bind_some]
/-! ### lengths -/
theorem varF_short {v d : Nat} (hd : d ≤ 8) (h : v < 2 ^ (7 * (d + 1))) : (varF 10 v).length ≤ d + 1 := by
  rw [show 10 = d + 1 + (9 - d) by omega, varF_fuel d v _ h]
  exact varF_len _ _
theorem stepV_pos (d : Nat) (m : Int) : 1 ≤ (stepV d m).length := by
  unfold stepV
  split
  · simp
  · simp
theorem bytesL_ge (l : List S72) : ∀ i, i ≤ (bytesL l i).length
  | 0 => Nat.zero_le _
  | i + 1 => by rw [bytesL, List.length_append]; have := bytesL_ge l i; have := stepV_pos (dD l i) (dM l i); omega
theorem step_len {l : List S72} (g : Good l) (h0 : Nat0 l) {i : Nat} (hi : i < l.length) : (stepV (dD l i) (dM l i)).length ≤ if i = 0 then 10 else 9 := by
  obtain ⟨s1, s2, s3, s4⟩ := good_step g h0 hi
  have v1 : (varF 10 (dD l i)).length ≤ 5 := varF_short (d := 4) (by decide) (Nat.lt_of_lt_of_le s1 (by decide))
  have v2 : (varF 10 (foldN (dM l i))).length ≤ 4 := varF_short (d := 3) (by decide) (by unfold foldN; split <;> omega)
  unfold stepV
  by_cases hs : shortP (dD l i) (dM l i)
  · rw [if_pos hs]; split <;> simp
  · rw [if_neg hs, List.length_cons, List.length_append]
    by_cases h : i = 0
    · rw [if_pos h]; omega
    · rw [if_neg h]
      obtain ⟨j, rfl⟩ : ∃ j, i = j + 1 := ⟨i - 1, by omega⟩
      have v3 : (varF 10 (foldN (dM l (j + 1)))).length ≤ 3 := by
        refine varF_short (d := 2) (by decide) ?_
        have e := dM_good g hi
        have a1 := (g.at hi).l1
        have a2 := (g.at hi).l2
        have b1 := (g.at (i := j) (by omega)).l1
        have b2 := (g.at (i := j) (by omega)).l2
        have e' : dM l (j + 1) = (rw_ l (j + 1)).f1 - (rw_ l j).f1 := e
        unfold foldN
        split <;> omega
      omega
theorem bytes_len {l : List S72} (g : Good l) (h0 : Nat0 l) : ∀ i, i ≤ l.length → (bytesL l i).length ≤ 9 * i + (if i = 0 then 0 else 1) := by
  intro i
  induction i with
  | zero => intro _; exact Nat.le_refl _
  | succ i ih =>
    intro hi
    have h1 := ih (by omega)
    have h2 := step_len g h0 (i := i) (by omega)
    rw [bytesL, List.length_append, if_neg (by omega)]
    by_cases h : i = 0
    · rw [if_pos h] at h1 h2; omega
    · rw [if_neg h] at h1 h2; omega
theorem bytes_of_wf {b : List Int} (h : ∀ x ∈ b, (Lit.int .u8 x).wf = true) : Bytes b := by
  intro x hx
  have h1 := h x hx
  simp only [Lit.wf, IntKind.min, IntKind.max, IntKind.bits, IntKind.signed, Bool.false_eq_true, if_false, Bool.and_eq_true, decide_eq_true_eq] at h1
  omega
end Go.Proofs.Ytbckdelbkcfjkaa.RoP
