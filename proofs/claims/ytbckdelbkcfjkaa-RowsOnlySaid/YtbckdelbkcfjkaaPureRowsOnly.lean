/- The plain law of RowsOnly: what is unpacked is valid and packs to the same bytes, for any bytes, at most 10,000 of them. -/
import Derived.Test.YtbckdelbkcfjkaaRoPAlive
import Derived.Test.YtbckdelbkcfjkaaRoFretargetlaw42RowsOnly
namespace Go.Proofs.Ytbckdelbkcfjkaa.Pure
set_option linter.unusedVariables false
open Go.RowKit Go.Proofs.Ytbckdelbkcfjkaa.Ro Go.Proofs.Ytbckdelbkcfjkaa.RoP
theorem RowsOnly : retargetlaw42_RowsOnly.Pure := by
  intro b _ _ hw
  refine ⟨20001, ?_⟩
  have hb := bytes_of_wf hw
  unfold retargetlaw42_RowsOnly.f
  rw [ralive 20001 (by omega), Option.bind_some]
  by_cases h2 : (b.length : Int) > 10000
  · rw [if_pos h2, retargetlaw42_RowsOnly.j0, if_pos rfl]
  · obtain ⟨r, hr⟩ := unpack_total b b.length 20000 0 [] z72 (by omega) (by omega)
    have hu : rows_Unpack.f 20000 b = some r := hr
    rw [if_neg h2, retargetlaw42_RowsOnly.j0, if_neg (by decide), hu, Option.bind_some]
    rcases unpack_kind b _ _ _ _ _ hr with rfl | h0
    · rw [if_neg (by decide), if_pos rfl, if_pos rfl]
      rfl
    · obtain ⟨L, e⟩ := r
      obtain rfl : e = 0 := h0
      obtain ⟨c1, c2⟩ := unpack_only hb (by omega) hu
      have hp : packV L = (b, 0) := by unfold packV; rw [if_pos c1, c2]
      have hge := bytesL_ge L L.length
      have hlen : L.length < b.length := by
        rw [← c2, List.length_append, List.length_singleton]; omega
      rw [if_pos rfl, pack_eq L 20000 (by omega), hp, Option.bind_some, if_pos rfl, if_pos rfl, sameB_refl b 20000 (by omega) (by omega), Option.bind_some, if_pos rfl, check_eq L 20000 (.inr (by omega)), c1, Option.bind_some, if_pos rfl, decide_eq_true]
      show (L.length : Int) < (b.length : Int)
      omega
end Go.Proofs.Ytbckdelbkcfjkaa.Pure
