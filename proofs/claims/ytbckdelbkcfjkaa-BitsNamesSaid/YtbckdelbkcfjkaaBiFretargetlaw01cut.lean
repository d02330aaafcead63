-- Written by a program of this session (mkfam.py) out of what the kit's print.py says over the translation. Lean checks it.
import Derived.Test.YtbckdelbkcfjkaaBix0
namespace Go.Proofs.Ytbckdelbkcfjkaa.Bi
open Go.RowKit Go.Proofs.YtbckdelbkcfjkaaW.PrintWords Go.Proofs.YtbckdelbkcfjkaaW.PrintLast Go.Proofs.YtbckdelbkcfjkaaW.PrintMore
attribute [local go_sem] max2_int min2_int max_two min_two max_three min_three max_four min_four   -- for this text's walks alone
set_option linter.unusedVariables false
set_option linter.unusedSimpArgs false
/-! ### retargetlaw01_cut: function 54 -/
def retargetlaw01_cut.f (a0 : Int) (a1 : Int) : Option (Int × Int) := if 0 ≤ (IntKind.u64.wrap (64 - (IntKind.u64.wrap (wrap64 ((wrap64 (Int.tmod a0 64)) + 1))))) then (some (wrap64 ((wrap64 (Int.tmod a0 64)) + 1), Go.bits .and .u64 a1 (shr .u64 18446744073709551615 (IntKind.u64.wrap (64 - (IntKind.u64.wrap (wrap64 ((wrap64 (Int.tmod a0 64)) + 1)))))))) else (none)
set_option maxHeartbeats 8000000 in
set_option maxRecDepth 100000 in
theorem retargetlaw01_cut.calls (a0 : Int) (a1 : Int) (r1 : Int) (r2 : Int) (w : World) (h : retargetlaw01_cut.f a0 a1 = some (r1, r2)) :
    Calls Try.prog 54 #[.int .u8 a0, .int .u64 a1] w fun e w' => e = .returned (.tuple #[.int .i64 r1, .int .u64 r2]) ∧ Drawn0 w w' := by
  have H : (if 0 ≤ (IntKind.u64.wrap (64 - (IntKind.u64.wrap (wrap64 ((wrap64 (Int.tmod a0 64)) + 1))))) then (some (wrap64 ((wrap64 (Int.tmod a0 64)) + 1), Go.bits .and .u64 a1 (shr .u64 18446744073709551615 (IntKind.u64.wrap (64 - (IntKind.u64.wrap (wrap64 ((wrap64 (Int.tmod a0 64)) + 1)))))))) else (none)) = some (r1, r2) := h
  clear h
  obtain ⟨ji3, hji3⟩ : ∃ j_ : Int, (IntKind.u64.wrap (64 - (IntKind.u64.wrap (wrap64 ((wrap64 (Int.tmod a0 64)) + 1))))) = j_ := ⟨_, rfl⟩
  replace H : (if 0 ≤ (ji3) then (some (wrap64 ((wrap64 (Int.tmod a0 64)) + 1), Go.bits .and .u64 a1 (shr .u64 18446744073709551615 (ji3)))) else (none)) = some (r1, r2) := by first | (rw [hji3] at H; exact H) | (simp only [hji3] at H ⊢; exact H)
  by_cases c4 : 0 ≤ (ji3)
  · rw [if_pos c4] at H
    have c4b0 := eq_true c4
    have c4b1 : decide (0 ≤ (ji3)) = true := decide_eq_true c4
    clear c4
    obtain ⟨ji5, hji5⟩ : ∃ j_ : Int, (shr .u64 18446744073709551615 (ji3)) = j_ := ⟨_, rfl⟩
    replace H : (some (wrap64 ((wrap64 (Int.tmod a0 64)) + 1), Go.bits .and .u64 a1 (ji5))) = some (r1, r2) := by first | (rw [hji5] at H; exact H) | (simp only [hji5] at H ⊢; exact H)
    have hji5_ : (18446744073709551615 / 2 ^ min (ji3).toNat 64) = ji5 := hji5
    have hji5z : (ji3) ≤ 64 → (18446744073709551615 / 2 ^ (ji3).toNat) = ji5 := shr_small hji5
    simp only [Option.some.injEq, Prod.mk.injEq] at H
    obtain ⟨rfl, rfl⟩ := H
    go_enter Try.func54, Try.ntmps54
    go_wp2
    go_ret2
    exact ⟨by first | rfl | (simp; done) | (simp only [← hji3, ← hji5] <;> (first | rfl | simp)) | (simp [*]; done), by repeat (first | exact Drawn0.refl _ | apply Drawn0.step)⟩
  · rw [if_neg c4] at H
    exact absurd H (by simp)

end Go.Proofs.Ytbckdelbkcfjkaa.Bi
