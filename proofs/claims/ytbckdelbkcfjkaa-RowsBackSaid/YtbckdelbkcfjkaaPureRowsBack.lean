/- The plain law of RowsBack: unpacking packed bytes gives the table, and the bytes are few enough, for every table of at most 2,000 rows. -/
import Derived.Test.YtbckdelbkcfjkaaRoPAlive
import Derived.Test.YtbckdelbkcfjkaaRoFretargetlaw42RowsBack
namespace Go.Proofs.Ytbckdelbkcfjkaa.Pure
set_option linter.unusedVariables false
open Go.RowKit Go.Proofs.Ytbckdelbkcfjkaa.Ro Go.Proofs.Ytbckdelbkcfjkaa.RoP
theorem RowsBack (l : List S72) (h : ∀ x ∈ l, (Lit.int .u64 x.f0).wf = true ∧ (Lit.int .i64 x.f1).wf = true) : ∃ k, retargetlaw42_RowsBack.f k l = some true := by
  refine ⟨9001, ?_⟩
  have h0 := nat0_of h
  unfold retargetlaw42_RowsBack.f
  rw [ralive 9001 (by omega), Option.bind_some]
  by_cases h2 : (l.length : Int) > 2000
  · rw [if_pos h2, retargetlaw42_RowsBack.j0, if_pos rfl]
  · rw [if_neg h2, retargetlaw42_RowsBack.j0, if_neg (by decide), pack_eq l 9000 (by omega), Option.bind_some]
    unfold packV
    by_cases hc : checkL l = 0
    · have g := good_of hc
      have hl := g.len
      have hb := bytes_len g h0 l.length (Nat.le_refl _)
      have hb' : (bytesL l l.length).length ≤ 9 * l.length + 1 := by split at hb <;> omega
      have e1 : wrap64 (9 * (l.length : Int)) = 9 * (l.length : Int) := Go.Proofs.Ytbckdelbkcfjkaa.RoP.wrap_small (by omega) (by omega)
      have e2 : wrap64 (9 * (l.length : Int) + 2) = 9 * (l.length : Int) + 2 := Go.Proofs.Ytbckdelbkcfjkaa.RoP.wrap_small (by omega) (by omega)
      rw [if_pos hc, if_pos rfl, unpack_of g h0 (by omega), Option.bind_some, if_pos rfl, if_pos rfl, same_refl l 9000 (by omega) (by omega), Option.bind_some, if_pos rfl, e1, e2, decide_eq_true]
      rw [List.length_append, List.length_singleton]
      omega
    · rw [if_neg hc, if_neg hc, if_pos rfl, if_pos (show ((([] : List Int), checkL l).fst.length : Int) = 0 from rfl), check_eq l 9000 (.inr (by omega)), Option.bind_some, beq_self_eq_true]
end Go.Proofs.Ytbckdelbkcfjkaa.Pure
