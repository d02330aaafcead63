/- Plain lemmas on tables: rows, comparisons, addresses. -/
import Derived.Test.YtbckdelbkcfjkaaRoPCheck
import Derived.Test.YtbckdelbkcfjkaaRoFretargetref42Same
namespace Go.Proofs.Ytbckdelbkcfjkaa.RoP
set_option linter.unusedVariables false
set_option linter.unusedSimpArgs false
open Go.RowKit Go.Proofs.Ytbckdelbkcfjkaa.Ro Go.Proofs.YtbckdelbkcfjkaaW.PrintWords Go.Proofs.YtbckdelbkcfjkaaW.PrintLast Go.Proofs.YtbckdelbkcfjkaaW.PrintMore
theorem rw_get {l : List S72} {i : Nat} (h : i < l.length) : rw_ l i = l[i] := by unfold rw_; rw [List.getD_eq_getElem?_getD, List.getElem?_eq_getElem h]; rfl
theorem u64_in {x : Int} (h0 : 0 ≤ x) (h1 : x < 18446744073709551616) : IntKind.u64.wrap x = x := by
  simp only [IntKind.wrap, IntKind.bits, IntKind.signed, Bool.false_and, Bool.false_eq_true, if_false]; exact Int.emod_eq_of_lt h0 (by omega)
/-! ### comparisons -/
theorem same_l0 (l : List S72) (hl : l.length ≤ 4611686018427387000) : ∀ d k i, i + d = l.length → d < k → retargetref42_Same.l0 k l l (i : Int) = some true := by
  intro d
  induction d with
  | zero =>
    intro k i h1 h2
    obtain ⟨m, rfl⟩ : ∃ m, k = m + 1 := ⟨k - 1, by omega⟩
    simp only [retargetref42_Same.l0]
    rw [if_neg (by omega)]
  | succ d ih =>
    intro k i h1 h2
    obtain ⟨m, rfl⟩ : ∃ m, k = m + 1 := ⟨k - 1, by omega⟩
    simp only [retargetref42_Same.l0]
    rw [if_pos (by omega), if_pos (by omega), if_pos (by omega), beq_self_eq_true, beq_self_eq_true, w_add1 i (by omega)]
    exact ih m (i + 1) (by omega) (by omega)
theorem same_refl (l : List S72) (k : Nat) (hl : l.length ≤ 4611686018427387000) (hk : l.length < k) : retargetref42_Same.f k l l = some true := by
  unfold retargetref42_Same.f
  rw [if_pos rfl]
  exact same_l0 l hl l.length k 0 (by omega) hk
theorem Good.at {l : List S72} (g : Good l) {i : Nat} (hi : i < l.length) : okAt l i := g.ok i hi
theorem good_top {l : List S72} (g : Good l) (h : 0 < l.length) {i : Nat} (hi : i < l.length) : (rw_ l i).f0 ≤ (rw_ l (l.length - 1)).f0 := by
  by_cases e : i = l.length - 1
  · rw [e]; exact Int.le_refl _
  · have := Good.mono g (l.length - 1) i (by omega) (by omega)
    omega
/-- The numbers of a table are no less than 0. -/
def Nat0 (l : List S72) : Prop := ∀ i, i < l.length → 0 ≤ (rw_ l i).f0
theorem nat0_of {l : List S72} (h : ∀ x ∈ l, (Lit.int .u64 x.f0).wf = true ∧ (Lit.int .i64 x.f1).wf = true) : Nat0 l := by
  intro i hi
  have h1 := (h _ (List.getElem_mem hi)).1
  rw [rw_get hi]
  simp only [Lit.wf, IntKind.min, IntKind.max, IntKind.bits, IntKind.signed, Bool.false_eq_true, if_false, Bool.and_eq_true, decide_eq_true_eq] at h1
  exact h1.1
end Go.Proofs.Ytbckdelbkcfjkaa.RoP
