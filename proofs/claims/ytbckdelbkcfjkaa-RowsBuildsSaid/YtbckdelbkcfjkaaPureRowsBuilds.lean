/- The plain law of RowsBuilds: shifted and joined tables are the reference's, and the arguments stay as they were, for every two tables of at most 2,000 rows and number. -/
import Derived.Test.YtbckdelbkcfjkaaRoPBuild
import Derived.Test.YtbckdelbkcfjkaaRoFretargetlaw42RowsBuilds
namespace Go.Proofs.Ytbckdelbkcfjkaa.RoP
set_option linter.unusedVariables false
set_option linter.unusedSimpArgs false
open Go.RowKit Go.Proofs.Ytbckdelbkcfjkaa.Ro
theorem builds_l1 (a b c : List S72) (ha : a.length ≤ 2000) (hb : b.length ≤ 2000) : ∀ d (c : List S72) k i, i + d = c.length → c.length ≤ 1000 → d + 2010 < k →
    retargetlaw42_RowsBuilds.l1 k a b a b c true (i : Int) = some true := by
  intro d
  induction d with
  | zero =>
    intro c k i h1 h2 h3
    obtain ⟨m, rfl⟩ : ∃ m, k = m + 1 := ⟨k - 1, by omega⟩
    simp only [retargetlaw42_RowsBuilds.l1]
    rw [if_neg (by omega), if_pos trivial, same_refl a m (by omega) (by omega), Option.bind_some, if_pos rfl, same_refl b m (by omega) (by omega), Option.bind_some]
  | succ d ih =>
    intro c k i h1 h2 h3
    obtain ⟨m, rfl⟩ : ∃ m, k = m + 1 := ⟨k - 1, by omega⟩
    simp only [retargetlaw42_RowsBuilds.l1]
    rw [if_pos (by omega), if_pos (by omega), w_add1 i (by omega)]
    exact ih _ m (i + 1) (by rw [List.length_set]; omega) (by rw [List.length_set]; omega) (by omega)
theorem builds_l0 (a b c : List S72) (ha : a.length ≤ 2000) (hb : b.length ≤ 2000) (hc : c.length ≤ 1000) : ∀ d (g : List S72) k i, i + d = g.length → g.length ≤ 1000 → d + 4000 < k →
    retargetlaw42_RowsBuilds.l0 k a b a b c g true (i : Int) = some true := by
  intro d
  induction d with
  | zero =>
    intro g k i h1 h2 h3
    obtain ⟨m, rfl⟩ : ∃ m, k = m + 1 := ⟨k - 1, by omega⟩
    simp only [retargetlaw42_RowsBuilds.l0]
    rw [if_neg (by omega)]
    exact builds_l1 a b c ha hb c.length c m 0 (by omega) hc (by omega)
  | succ d ih =>
    intro g k i h1 h2 h3
    obtain ⟨m, rfl⟩ : ∃ m, k = m + 1 := ⟨k - 1, by omega⟩
    simp only [retargetlaw42_RowsBuilds.l0]
    rw [if_pos (by omega), if_pos (by omega), w_add1 i (by omega)]
    exact ih _ m (i + 1) (by rw [List.length_set]; omega) (by rw [List.length_set]; omega) (by omega)
end Go.Proofs.Ytbckdelbkcfjkaa.RoP
namespace Go.Proofs.Ytbckdelbkcfjkaa.Pure
set_option linter.unusedVariables false
open Go.RowKit Go.Proofs.Ytbckdelbkcfjkaa.Ro Go.Proofs.Ytbckdelbkcfjkaa.RoP
theorem RowsBuilds (a b : List S72) (x : Int) (ha : ∀ x ∈ a, (Lit.int .u64 x.f0).wf = true ∧ (Lit.int .i64 x.f1).wf = true) (hb : ∀ x ∈ b, (Lit.int .u64 x.f0).wf = true ∧ (Lit.int .i64 x.f1).wf = true) (hx : (Lit.int .u64 x).wf = true) :
    ∃ k, retargetlaw42_RowsBuilds.f k a b x = some true := by
  refine ⟨9000, ?_⟩
  have hx' : 0 ≤ x ∧ x < 18446744073709551616 := by
    simp only [Lit.wf, IntKind.min, IntKind.max, IntKind.bits, IntKind.signed, Bool.false_eq_true, if_false, Bool.and_eq_true, decide_eq_true_eq] at hx
    omega
  unfold retargetlaw42_RowsBuilds.f
  by_cases h1 : (a.length : Int) > 2000
  · rw [if_pos h1, show (9000 : Nat) = 8999 + 1 from rfl, retargetlaw42_RowsBuilds.j0, if_pos rfl]
  · rw [if_neg h1]
    by_cases h2 : (b.length : Int) > 2000
    · rw [decide_eq_true h2, show (9000 : Nat) = 8999 + 1 from rfl, retargetlaw42_RowsBuilds.j0, if_pos rfl]
    · have l1 := shiftL_len a x
      have l2 := joinL_len a b
      rw [decide_eq_false h2, show (9000 : Nat) = 8999 + 1 from rfl, retargetlaw42_RowsBuilds.j0, if_neg (by decide), Option.bind_some, if_pos (by rw [List.length_nil]; omega), Option.bind_some, Option.bind_some, if_pos (by rw [List.length_nil]; omega), Option.bind_some,
        shift_eq a x (nat0_of ha) hx'.1 hx'.2 8999 (by omega), Option.bind_some, rshift_eq a x (nat0_of ha) hx'.1 hx'.2 8999 (by omega), Option.bind_some, join_eq a b 8999 (by omega), Option.bind_some, rjoin_eq a b 8999 (by omega), Option.bind_some,
        same_refl (shiftL a x).1 8999 (by omega) (by omega), Option.bind_some, if_pos rfl, if_pos rfl, same_refl (joinL a b).1 8999 (by omega) (by omega), Option.bind_some, if_pos rfl, beq_self_eq_true, List.nil_append, List.nil_append, show (8999 : Nat) = 8998 + 1 from rfl, retargetlaw42_RowsBuilds.j1]
      exact builds_l0 a b (shiftL a x).1 (by omega) (by omega) l1 (joinL a b).1.length (joinL a b).1 8998 0 (by omega) l2 (by omega)
end Go.Proofs.Ytbckdelbkcfjkaa.Pure
