/- The plain law of RowsPacks: the program's Pack and Unpack answer as the reference's, for any rows (at most 2000) and any bytes (at most 10,000). -/
import Derived.Test.YtbckdelbkcfjkaaRoPUnpackR
import Derived.Test.YtbckdelbkcfjkaaRoFretargetlaw42RowsPacks
namespace Go.Proofs.Ytbckdelbkcfjkaa.Pure
set_option linter.unusedVariables false
open Go.RowKit Go.Proofs.Ytbckdelbkcfjkaa.Ro Go.Proofs.Ytbckdelbkcfjkaa.RoP
theorem packs_unpack {b : List Int} (hb : Bytes b) (hl : b.length ≤ 10000) (k : Nat) (hk : 1100000 < k) : ∃ r, rows_Unpack.f k b = some r ∧ retargetref42_Unpack.f k b = some r ∧ r.1.length ≤ 10000 := by
  obtain ⟨r, hr⟩ := unpack_total b b.length k 0 [] z72 (by omega) (by omega)
  have hu : rows_Unpack.f k b = some r := hr
  have hn := unpack_nat0 b _ _ _ _ _ nat0_nil hr
  rcases unpack_kind b _ _ _ _ _ hr with rfl | h0
  · refine ⟨_, hu, ?_, by decide⟩
    obtain ⟨r', h1, h2⟩ := runpack_total b (by omega) b.length k 0 [] 0 0 (by omega) (by omega) (by omega) (by decide) nat0_nil
    have hu' : retargetref42_Unpack.f k b = some r' := h1
    rcases h2 with rfl | ⟨h3, h4, h5⟩
    · exact hu'
    · exfalso
      obtain ⟨l', e'⟩ := r'
      have hc : checkL l' = 0 := by
        by_cases c : checkL l' = 0
        · exact c
        · unfold packV at h4
          rw [if_neg c] at h4
          exact congrArg Prod.snd h4
      have hb' : bytesL l' l'.length ++ [0] = b := by
        unfold packV at h4
        rw [if_pos hc] at h4
        exact congrArg Prod.fst h4
      have hg := (good_of hc)
      have hlen := hg.len
      have := unpack_of hg h5 (k := k) (by omega)
      rw [hb', hu] at this
      have h12 : (12 : Int) = 0 := congrArg Prod.snd (Option.some.inj this)
      exact absurd h12 (by decide)
  · obtain ⟨L, e⟩ := r
    obtain rfl : e = 0 := h0
    obtain ⟨c1, c2⟩ := unpack_only hb (by omega) hu
    have hlen := (good_of c1).len
    have := runpack_of c1 hn (k := k) (by omega)
    rw [c2] at this
    exact ⟨_, hu, this, by show L.length ≤ 10000; omega⟩
theorem RowsPacks (l : List S72) (b : List Int) (hw : ∀ x ∈ l, (Lit.int .u64 x.f0).wf = true ∧ (Lit.int .i64 x.f1).wf = true) (hv : ∀ x ∈ b, (Lit.int .u8 x).wf = true) : ∃ k, retargetlaw42_RowsPacks.f k l b = some true := by
  refine ⟨1100003, ?_⟩
  have hb := bytes_of_wf hv
  unfold retargetlaw42_RowsPacks.f
  by_cases h1 : (l.length : Int) > 2000
  · rw [if_pos h1, retargetlaw42_RowsPacks.j0, if_pos rfl]
  · by_cases h2 : (b.length : Int) > 10000
    · rw [if_neg h1, decide_eq_true h2, retargetlaw42_RowsPacks.j0, if_pos rfl]
    · obtain ⟨r, u1, u2, u3⟩ := packs_unpack hb (by omega) 1100002 (by omega)
      have hp : (packV l).1.length ≤ 100000 := by
        unfold packV
        split
        · rw [List.length_append, List.length_singleton]
          have := bytesL_len l l.length
          omega
        · exact Nat.zero_le _
      rw [if_neg h1, decide_eq_false h2, retargetlaw42_RowsPacks.j0, if_neg (by decide), Option.bind_some, if_pos (by rw [List.length_nil]; omega), Option.bind_some, if_pos (by rw [List.length_nil]; omega), pack_eq l 1100002 (by omega), Option.bind_some, rpack_eq l 1100002 (by omega), Option.bind_some, u1, Option.bind_some, u2, Option.bind_some, sameB_refl _ 1100002 (by omega) (by omega), Option.bind_some, if_pos rfl, if_pos rfl, same_refl _ 1100002 (by omega) (by omega), Option.bind_some, if_pos rfl, if_pos rfl, List.nil_append, same_refl _ 1100002 (by omega) (by omega), Option.bind_some, if_pos rfl, List.nil_append, sameB_refl _ 1100002 (by omega) (by omega), Option.bind_some]
end Go.Proofs.Ytbckdelbkcfjkaa.Pure
