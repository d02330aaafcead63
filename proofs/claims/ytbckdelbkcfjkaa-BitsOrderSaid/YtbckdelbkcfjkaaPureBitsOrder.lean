/- The law BitsOrder, its walk joined with the plain law: equality, unsigned and signed order at every width and two values. -/
import Derived.Test.YtbckdelbkcfjkaaBiPAlive
import Derived.Test.YtbckdelbkcfjkaaBiPParts
import Derived.Test.YtbckdelbkcfjkaaBiHOrder
namespace Go.Proofs.Ytbckdelbkcfjkaa.Pure
set_option linter.unusedVariables false
set_option linter.unusedSimpArgs false
open Go.RowKit Go.Proofs.Ytbckdelbkcfjkaa.Bi Go.Proofs.Ytbckdelbkcfjkaa.BiP
theorem order_calls (v x y : Int) (w : World) (hv : (Lit.int .u8 v).wf = true) (hx : (Lit.int .u64 x).wf = true) (hy : (Lit.int .u64 y).wf = true) :
    Calls Try.prog 10 #[.int .u8 v, .int .u64 x, .int .u64 y] w fun e w' => e = .returned (.bool true) ∧ Below w.heap.size w w' := by
  obtain ⟨v, rfl, hv8⟩ := wf_u8 hv
  obtain ⟨x, rfl, hx64⟩ := wf_u64 hx
  obtain ⟨y, rfl, hy64⟩ := wf_u64 hy
  obtain ⟨w', a, hw, ha, ew, _, e1⟩ := cut_eq v x hx64
  obtain ⟨w'', b, hw', hb, ew', _, e2⟩ := cut_eq v y hy64
  obtain rfl : w' = w'' := by omega
  have hk : 3 ≤ 200 := by omega
  have s1 := Signed_yes hw a 200 hk
  have s2 := Signed_yes hw b 200 hk
  unfold signedS at s1 s2
  rw [if_pos ha] at s1
  rw [if_pos hb] at s2
  have o := Of_yes hw (sgn w' a)
  unfold ofS at o
  rw [if_pos (sgn_lo hw ha), ← cutN_cast, cut_sgn hw ha] at o
  have h1 := op_of (bin_eq hw 200 hk ha hb)
  have h2 := op_of (bin_ult hw 200 hk ha hb)
  have h3 := op_of (bin_slt hw 200 hk ha hb)
  refine order_of 200 (v : Int) (x : Int) (y : Int) (w' : Int) (w' : Int) (a : Int) (b : Int) (sgn w' a) (sgn w' b) _ _ _ w e1 e2 s1 s2 o (alive_eq 200 (by omega)) h1 h2 h3 ?_ ?_ ?_
  · by_cases h : a = b
    · subst h; simp
    · have : ¬ ((a : Int) = (b : Int)) := by omega
      rw [if_neg h, beq_eq_false_iff_ne.2 this]; rfl
  · by_cases h : a < b
    · have : ((a : Int) < (b : Int)) := by omega
      simp [h]
    · have : ¬ ((a : Int) < (b : Int)) := by omega
      simp [h]
  · by_cases h : sgn w' a < sgn w' b <;> simp [h]
end Go.Proofs.Ytbckdelbkcfjkaa.Pure
