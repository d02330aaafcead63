/- The plain law of RowsLast: an address from a row's on and before the next one's has that row's line, for every table of at most 2,000 rows, number of a row and distance. -/
import Derived.Test.YtbckdelbkcfjkaaRoPAlive
import Derived.Test.YtbckdelbkcfjkaaRoFretargetlaw42RowsLast
namespace Go.Proofs.Ytbckdelbkcfjkaa.RoP
set_option linter.unusedVariables false
open Go.RowKit Go.Proofs.Ytbckdelbkcfjkaa.Ro Go.Proofs.YtbckdelbkcfjkaaW.PrintWords Go.Proofs.YtbckdelbkcfjkaaW.PrintLast Go.Proofs.YtbckdelbkcfjkaaW.PrintMore
/-- Where row i ends: where the next one begins. -/
def endR (l : List S72) (i : Nat) : Int := if i + 1 < l.length then (rw_ l (i + 1)).f0 else 4294967296
theorem find_row {l : List S72} (g : Good l) {i : Nat} (hi : i < l.length) {a : Int} (h1 : (rw_ l i).f0 ≤ a) (h2 : a < endR l i) (h3 : a < 4294967296) : findL l a = ((rw_ l i).f1, 0) := by
  have hlast : lastAt l a l.length = some i := by
    refine lastAt_some l a l.length i hi h1 (fun j hij hj => ?_)
    have hlt : i + 1 < l.length := by omega
    unfold endR at h2
    rw [if_pos hlt] at h2
    by_cases e : j = i + 1
    · subst e; exact h2
    · have := Good.mono g j (i + 1) (by omega) hj
      omega
  unfold findL
  rw [if_neg (by rw [g.check]; simp), if_neg (by omega), hlast]
  rfl
theorem endR_gt {l : List S72} (g : Good l) {i : Nat} (hi : i < l.length) : (rw_ l i).f0 < endR l i ∧ endR l i ≤ 4294967296 := by
  unfold endR
  by_cases h : i + 1 < l.length
  · rw [if_pos h]
    have h1 := Good.mono g (i + 1) i (by omega) h
    have h2 := (g.at h).lo
    exact ⟨h1, by omega⟩
  · rw [if_neg h]
    exact ⟨(g.at hi).lo, by omega⟩
theorem last_j1 {l : List S72} (g : Good l) (h0 : Nat0 l) {i : Nat} (hi : i < l.length) (far : Int) (f0 : 0 ≤ far) (f1 : far < 4294967296) (k : Nat) (hk : 2010 < k) : retargetlaw42_RowsLast.j1 (k + 1) l (i : Int) far true (endR l i) = some true := by
  obtain ⟨g1, g2⟩ := endR_gt g hi
  have g3 := h0 i hi
  have hm := Int.emod_lt_of_pos far (show 0 < endR l i - (rw_ l i).f0 by omega)
  have hm0 := Int.emod_nonneg far (show endR l i - (rw_ l i).f0 ≠ 0 by omega)
  have e1 : IntKind.u64.wrap (endR l i - (rw_ l i).f0) = endR l i - (rw_ l i).f0 := u64_in (by omega) (by omega)
  have e2 : IntKind.u64.wrap far = far := u64_in f0 (by omega)
  have e3 : Int.tmod far (endR l i - (rw_ l i).f0) = far % (endR l i - (rw_ l i).f0) := Int.tmod_eq_emod_of_nonneg f0
  have e4 : IntKind.u64.wrap ((rw_ l i).f0 + far % (endR l i - (rw_ l i).f0)) = (rw_ l i).f0 + far % (endR l i - (rw_ l i).f0) := u64_in (by omega) (by omega)
  have e5 : IntKind.u64.wrap (endR l i - 1) = endR l i - 1 := u64_in (by omega) (by omega)
  have q1 := find_row g hi (a := (rw_ l i).f0 + far % (endR l i - (rw_ l i).f0)) (by omega) (by omega) (by omega)
  have q2 := find_row g hi (a := endR l i - 1) (by omega) (by omega) (by omega)
  rw [retargetlaw42_RowsLast.j1, if_pos (by omega), if_pos (by omega), rd_nat, if_neg (by omega), e1, if_neg (by omega), e2, e3, e4, find_eq l _ k (by omega), q1, Option.bind_some, e5, find_eq l _ k (by omega), q2, Option.bind_some, if_pos rfl, if_pos rfl, if_pos rfl, if_pos rfl, beq_self_eq_true]
end Go.Proofs.Ytbckdelbkcfjkaa.RoP
namespace Go.Proofs.Ytbckdelbkcfjkaa.Pure
set_option linter.unusedVariables false
open Go.RowKit Go.Proofs.Ytbckdelbkcfjkaa.Ro Go.Proofs.Ytbckdelbkcfjkaa.RoP
theorem RowsLast (l : List S72) (i far : Int) (h : ∀ x ∈ l, (Lit.int .u64 x.f0).wf = true ∧ (Lit.int .i64 x.f1).wf = true) (hi : (Lit.int .i64 i).wf = true) (hf : (Lit.int .u32 far).wf = true) : ∃ k, retargetlaw42_RowsLast.f k l i far = some true := by
  refine ⟨9002, ?_⟩
  have h0 := nat0_of h
  have hf' : 0 ≤ far ∧ far < 4294967296 := by
    simp only [Lit.wf, IntKind.min, IntKind.max, IntKind.bits, IntKind.signed, Bool.false_eq_true, if_false, Bool.and_eq_true, decide_eq_true_eq] at hf
    omega
  unfold retargetlaw42_RowsLast.f
  rw [ralive 9002 (by omega), Option.bind_some]
  by_cases h2 : (l.length : Int) > 2000
  · rw [if_pos h2, retargetlaw42_RowsLast.j0, if_pos rfl]
  · rw [if_neg h2, check_eq l 9002 (.inr (by omega)), Option.bind_some]
    by_cases hc : checkL l = 0
    · have g := good_of hc
      have hl := g.len
      rw [if_pos hc]
      by_cases c1 : i < 0
      · rw [if_pos c1, retargetlaw42_RowsLast.j0, if_pos rfl]
      · rw [if_neg c1]
        by_cases c2 : i ≥ (l.length : Int)
        · rw [if_pos c2, retargetlaw42_RowsLast.j0, if_pos rfl]
        · obtain ⟨n, rfl⟩ := Int.eq_ofNat_of_zero_le (show 0 ≤ i by omega)
          have hn : n < l.length := by omega
          have hj := last_j1 g h0 hn far hf'.1 hf'.2 9000 (by omega)
          rw [if_neg c2, retargetlaw42_RowsLast.j0, if_neg (by decide), w_add1 n (by omega)]
          unfold endR at hj
          by_cases c3 : n + 1 < l.length
          · rw [if_pos c3] at hj
            rw [if_pos (by omega), if_pos (by omega), rd_nat]
            exact hj
          · rw [if_neg c3] at hj
            rw [if_neg (by omega)]
            exact hj
    · rw [if_neg hc, retargetlaw42_RowsLast.j0, if_pos rfl]
end Go.Proofs.Ytbckdelbkcfjkaa.Pure
