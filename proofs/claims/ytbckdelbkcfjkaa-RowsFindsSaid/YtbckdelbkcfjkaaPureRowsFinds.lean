/- The plain law of RowsFinds: the search of the program and that of the reference answer alike, for every table and address. -/
import Derived.Test.YtbckdelbkcfjkaaRoPCheck
import Derived.Test.YtbckdelbkcfjkaaRoFretargetlaw42RowsFinds
namespace Go.Proofs.Ytbckdelbkcfjkaa.Pure
open Go.RowKit Go.Proofs.Ytbckdelbkcfjkaa.Ro Go.Proofs.Ytbckdelbkcfjkaa.RoP
theorem RowsFinds (l : List S72) (a : Int) (_ : ∀ x ∈ l, (Lit.int .u64 x.f0).wf = true ∧ (Lit.int .i64 x.f1).wf = true) (_ : (Lit.int .u64 a).wf = true) :
    ∃ k, retargetlaw42_RowsFinds.f k l a = some true := by
  refine ⟨3000, ?_⟩
  unfold retargetlaw42_RowsFinds.f
  by_cases h : (l.length : Int) > 2000
  · rw [if_pos h]
  · rw [if_neg h, find_eq l a _ (by omega), rfind_eq l a _ (by omega), check_eq l _ (.inr (by omega)), rcheck_eq l _ (.inr (by omega))]
    simp
end Go.Proofs.Ytbckdelbkcfjkaa.Pure
