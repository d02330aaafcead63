-- Written by a program of this session (mkfam.py) out of what the kit's print.py says over the translation. Lean checks it.
import Derived.Test.YtbckdelbkcfjkaaBix0
import Derived.Test.YtbckdelbkcfjkaaBiFretargetref01Mask
import Derived.Test.YtbckdelbkcfjkaaBiFretargetref01Power
import Derived.Test.YtbckdelbkcfjkaaBiFretargetref01Wide
namespace Go.Proofs.Ytbckdelbkcfjkaa.Bi
open Go.RowKit Go.Proofs.YtbckdelbkcfjkaaW.PrintWords Go.Proofs.YtbckdelbkcfjkaaW.PrintLast Go.Proofs.YtbckdelbkcfjkaaW.PrintMore
attribute [local go_sem] max2_int min2_int max_two min_two max_three min_three max_four min_four   -- for this text's walks alone
set_option linter.unusedVariables false
set_option linter.unusedSimpArgs false
/-! ### retargetref01_Of: function 34 -/
def retargetref01_Of.f (k : Nat) (a0 : Int) (a1 : Int) : Option (Int × Int) := (retargetref01_Wide.f a0).bind fun t375 => (if t375 = true then ((retargetref01_Power.f k (wrap64 (a0 - 1))).bind fun t376 => (if a1 ≥ 0 then (if (IntKind.u64.wrap (a1)) ≥ t376 then (some (0, 24)) else (some (IntKind.u64.wrap (a1), 0))) else (if (IntKind.u64.wrap (wrap64 (-(wrap64 (a1 + 1))))) ≥ t376 then (some (0, 24)) else ((retargetref01_Mask.f k a0).bind fun t377 => (some (IntKind.u64.wrap (t377 - (IntKind.u64.wrap (wrap64 (-(wrap64 (a1 + 1)))))), 0)))))) else (some (0, 14)))
theorem retargetref01_Of.mono : ∀ a0 a1 k, LeO (retargetref01_Of.f k a0 a1) (retargetref01_Of.f (k + 1) a0 a1) := by
  intro a0 a1 k
  unfold retargetref01_Of.f
  repeat' first
      | (with_reducible exact retargetref01_Mask.mono _ _)
      | (with_reducible exact retargetref01_Power.mono _ _)
      | (with_reducible exact LeO.refl _)
      | (with_reducible exact LeO.none _)
      | (with_reducible refine LeO.ite ?_ ?_)
      | (with_reducible refine LeO.bind ?_ (fun _ => ?_))
      | exact retargetref01_Mask.mono _ _
      | exact retargetref01_Power.mono _ _
      | exact LeO.none _
      | refine LeO.ite ?_ ?_
      | refine LeO.bind ?_ (fun _ => ?_)
set_option maxHeartbeats 8000000 in
set_option maxRecDepth 100000 in
theorem retargetref01_Of.calls (k : Nat) (a0 : Int) (a1 : Int) (r1 : Int) (r2 : Int) (w : World) (h : retargetref01_Of.f k a0 a1 = some (r1, r2)) :
    Calls Try.prog 34 #[.int .i64 a0, .int .i64 a1] w fun e w' => e = .returned (.tuple #[.int .u64 r1, .int .i64 r2]) ∧ Drawn0 w w' := by
  have H : ((retargetref01_Wide.f a0).bind fun t375 => (if t375 = true then ((retargetref01_Power.f k (wrap64 (a0 - 1))).bind fun t376 => (if a1 ≥ 0 then (if (IntKind.u64.wrap (a1)) ≥ t376 then (some (0, 24)) else (some (IntKind.u64.wrap (a1), 0))) else (if (IntKind.u64.wrap (wrap64 (-(wrap64 (a1 + 1))))) ≥ t376 then (some (0, 24)) else ((retargetref01_Mask.f k a0).bind fun t377 => (some (IntKind.u64.wrap (t377 - (IntKind.u64.wrap (wrap64 (-(wrap64 (a1 + 1)))))), 0)))))) else (some (0, 14)))) = some (r1, r2) := h
  clear h
  replace H := Option.bind_eq_some_iff.mp H
  obtain ⟨t375, A30, H⟩ := H
  replace H : (if t375 = true then ((retargetref01_Power.f k (wrap64 (a0 - 1))).bind fun t376 => (if a1 ≥ 0 then (if (IntKind.u64.wrap (a1)) ≥ t376 then (some (0, 24)) else (some (IntKind.u64.wrap (a1), 0))) else (if (IntKind.u64.wrap (wrap64 (-(wrap64 (a1 + 1))))) ≥ t376 then (some (0, 24)) else ((retargetref01_Mask.f k a0).bind fun t377 => (some (IntKind.u64.wrap (t377 - (IntKind.u64.wrap (wrap64 (-(wrap64 (a1 + 1)))))), 0)))))) else (some (0, 14))) = some (r1, r2) := H
  have A3 := Aside0.mk A30
  clear A30
  by_cases c4 : t375 = true
  · subst c4
    have H1 : ((retargetref01_Power.f k (wrap64 (a0 - 1))).bind fun t376 => (if a1 ≥ 0 then (if (IntKind.u64.wrap (a1)) ≥ t376 then (some (0, 24)) else (some (IntKind.u64.wrap (a1), 0))) else (if (IntKind.u64.wrap (wrap64 (-(wrap64 (a1 + 1))))) ≥ t376 then (some (0, 24)) else ((retargetref01_Mask.f k a0).bind fun t377 => (some (IntKind.u64.wrap (t377 - (IntKind.u64.wrap (wrap64 (-(wrap64 (a1 + 1)))))), 0)))))) = some (r1, r2) := by rw [if_pos rfl] at H; exact H
    clear H
    have H := H1
    clear H1
    replace H := Option.bind_eq_some_iff.mp H
    obtain ⟨t376, A50, H⟩ := H
    replace H : (if a1 ≥ 0 then (if (IntKind.u64.wrap (a1)) ≥ t376 then (some (0, 24)) else (some (IntKind.u64.wrap (a1), 0))) else (if (IntKind.u64.wrap (wrap64 (-(wrap64 (a1 + 1))))) ≥ t376 then (some (0, 24)) else ((retargetref01_Mask.f k a0).bind fun t377 => (some (IntKind.u64.wrap (t377 - (IntKind.u64.wrap (wrap64 (-(wrap64 (a1 + 1)))))), 0))))) = some (r1, r2) := H
    have A5 := Aside0.mk A50
    clear A50
    by_cases c6 : a1 ≥ 0
    · rw [if_pos c6] at H
      have c6b0 : decide (0 ≤ a1) = true := decide_eq_true c6
      clear c6
      by_cases c7 : (IntKind.u64.wrap (a1)) ≥ t376
      · rw [if_pos c7] at H
        have c7b0 : decide (t376 ≤ (IntKind.u64.wrap (a1))) = true := decide_eq_true c7
        clear c7
        simp only [Option.some.injEq, Prod.mk.injEq] at H
        obtain ⟨rfl, rfl⟩ := H
        go_enter Try.func34, Try.ntmps34
        go_wp2_with (first | ((with_reducible refine gate_callee (f := 78) rfl ?_); refine goesL_ (some 9) rfl rfl Try.func78 (by kernel_rfl) rfl #[.int .i64 a0] rfl (by (try simp only [List.map_toArray, List.map_cons, List.map_nil]); first | done | rfl | (simp only [List.length_drop, List.length_take]; rfl)) ?_; (with_reducible refine (retargetref01_Wide.calls a0 true _ A3.out).mono ?_); rintro e w' ⟨rfl, ⟨nd, rfl⟩⟩; refine ⟨_, rfl, ?_⟩) | ((with_reducible refine gate_callee (f := 82) rfl ?_); refine goesL_ (some 13) rfl rfl Try.func82 (by kernel_rfl) rfl #[.int .i64 (wrap64 (a0 - 1))] rfl (by (try simp only [List.map_toArray, List.map_cons, List.map_nil]); first | done | rfl | (simp only [List.length_drop, List.length_take]; rfl)) ?_; (with_reducible refine (retargetref01_Power.calls k (wrap64 (a0 - 1)) t376 _ A5.out).mono ?_); rintro e w' ⟨rfl, ⟨nd, rfl⟩⟩; refine ⟨_, rfl, ?_⟩))
        go_ret2
        exact ⟨by first | rfl | (simp; done) | (simp [*]; done), by repeat (first | exact Drawn0.refl _ | apply Drawn0.step)⟩
      · rw [if_neg c7] at H
        have c7b0 : decide (t376 ≤ (IntKind.u64.wrap (a1))) = false := decide_eq_false c7
        clear c7
        simp only [Option.some.injEq, Prod.mk.injEq] at H
        obtain ⟨rfl, rfl⟩ := H
        go_enter Try.func34, Try.ntmps34
        go_wp2_with (first | ((with_reducible refine gate_callee (f := 78) rfl ?_); refine goesL_ (some 9) rfl rfl Try.func78 (by kernel_rfl) rfl #[.int .i64 a0] rfl (by (try simp only [List.map_toArray, List.map_cons, List.map_nil]); first | done | rfl | (simp only [List.length_drop, List.length_take]; rfl)) ?_; (with_reducible refine (retargetref01_Wide.calls a0 true _ A3.out).mono ?_); rintro e w' ⟨rfl, ⟨nd, rfl⟩⟩; refine ⟨_, rfl, ?_⟩) | ((with_reducible refine gate_callee (f := 82) rfl ?_); refine goesL_ (some 13) rfl rfl Try.func82 (by kernel_rfl) rfl #[.int .i64 (wrap64 (a0 - 1))] rfl (by (try simp only [List.map_toArray, List.map_cons, List.map_nil]); first | done | rfl | (simp only [List.length_drop, List.length_take]; rfl)) ?_; (with_reducible refine (retargetref01_Power.calls k (wrap64 (a0 - 1)) t376 _ A5.out).mono ?_); rintro e w' ⟨rfl, ⟨nd, rfl⟩⟩; refine ⟨_, rfl, ?_⟩))
        go_ret2
        exact ⟨by first | rfl | (simp; done) | (simp [*]; done), by repeat (first | exact Drawn0.refl _ | apply Drawn0.step)⟩
    · rw [if_neg c6] at H
      have c6b0 : decide (0 ≤ a1) = false := decide_eq_false c6
      clear c6
      by_cases c8 : (IntKind.u64.wrap (wrap64 (-(wrap64 (a1 + 1))))) ≥ t376
      · rw [if_pos c8] at H
        have c8b0 : decide (t376 ≤ (IntKind.u64.wrap (wrap64 (-(wrap64 (a1 + 1)))))) = true := decide_eq_true c8
        clear c8
        simp only [Option.some.injEq, Prod.mk.injEq] at H
        obtain ⟨rfl, rfl⟩ := H
        go_enter Try.func34, Try.ntmps34
        go_wp2_with (first | ((with_reducible refine gate_callee (f := 78) rfl ?_); refine goesL_ (some 9) rfl rfl Try.func78 (by kernel_rfl) rfl #[.int .i64 a0] rfl (by (try simp only [List.map_toArray, List.map_cons, List.map_nil]); first | done | rfl | (simp only [List.length_drop, List.length_take]; rfl)) ?_; (with_reducible refine (retargetref01_Wide.calls a0 true _ A3.out).mono ?_); rintro e w' ⟨rfl, ⟨nd, rfl⟩⟩; refine ⟨_, rfl, ?_⟩) | ((with_reducible refine gate_callee (f := 82) rfl ?_); refine goesL_ (some 13) rfl rfl Try.func82 (by kernel_rfl) rfl #[.int .i64 (wrap64 (a0 - 1))] rfl (by (try simp only [List.map_toArray, List.map_cons, List.map_nil]); first | done | rfl | (simp only [List.length_drop, List.length_take]; rfl)) ?_; (with_reducible refine (retargetref01_Power.calls k (wrap64 (a0 - 1)) t376 _ A5.out).mono ?_); rintro e w' ⟨rfl, ⟨nd, rfl⟩⟩; refine ⟨_, rfl, ?_⟩))
        go_ret2
        exact ⟨by first | rfl | (simp; done) | (simp [*]; done), by repeat (first | exact Drawn0.refl _ | apply Drawn0.step)⟩
      · rw [if_neg c8] at H
        have c8b0 : decide (t376 ≤ (IntKind.u64.wrap (wrap64 (-(wrap64 (a1 + 1)))))) = false := decide_eq_false c8
        clear c8
        replace H := Option.bind_eq_some_iff.mp H
        obtain ⟨t377, A90, H⟩ := H
        replace H : (some (IntKind.u64.wrap (t377 - (IntKind.u64.wrap (wrap64 (-(wrap64 (a1 + 1)))))), 0)) = some (r1, r2) := H
        have A9 := Aside0.mk A90
        clear A90
        simp only [Option.some.injEq, Prod.mk.injEq] at H
        obtain ⟨rfl, rfl⟩ := H
        go_enter Try.func34, Try.ntmps34
        go_wp2_with (first | ((with_reducible refine gate_callee (f := 78) rfl ?_); refine goesL_ (some 9) rfl rfl Try.func78 (by kernel_rfl) rfl #[.int .i64 a0] rfl (by (try simp only [List.map_toArray, List.map_cons, List.map_nil]); first | done | rfl | (simp only [List.length_drop, List.length_take]; rfl)) ?_; (with_reducible refine (retargetref01_Wide.calls a0 true _ A3.out).mono ?_); rintro e w' ⟨rfl, ⟨nd, rfl⟩⟩; refine ⟨_, rfl, ?_⟩) | ((with_reducible refine gate_callee (f := 82) rfl ?_); refine goesL_ (some 13) rfl rfl Try.func82 (by kernel_rfl) rfl #[.int .i64 (wrap64 (a0 - 1))] rfl (by (try simp only [List.map_toArray, List.map_cons, List.map_nil]); first | done | rfl | (simp only [List.length_drop, List.length_take]; rfl)) ?_; (with_reducible refine (retargetref01_Power.calls k (wrap64 (a0 - 1)) t376 _ A5.out).mono ?_); rintro e w' ⟨rfl, ⟨nd, rfl⟩⟩; refine ⟨_, rfl, ?_⟩) | ((with_reducible refine gate_callee (f := 38) rfl ?_); refine goesL_ (some 30) rfl rfl Try.func38 (by kernel_rfl) rfl #[.int .i64 a0] rfl (by (try simp only [List.map_toArray, List.map_cons, List.map_nil]); first | done | rfl | (simp only [List.length_drop, List.length_take]; rfl)) ?_; (with_reducible refine (retargetref01_Mask.calls k a0 t377 _ A9.out).mono ?_); rintro e w' ⟨rfl, ⟨nd, rfl⟩⟩; refine ⟨_, rfl, ?_⟩))
        go_ret2
        exact ⟨by first | rfl | (simp; done) | (simp [*]; done), by repeat (first | exact Drawn0.refl _ | apply Drawn0.step)⟩
  · replace c4 := Bool.eq_false_iff.mpr c4
    subst c4
    have H1 : (some (0, 14)) = some (r1, r2) := by rw [if_neg (show ¬ (false = true) by decide)] at H; exact H
    clear H
    have H := H1
    clear H1
    simp only [Option.some.injEq, Prod.mk.injEq] at H
    obtain ⟨rfl, rfl⟩ := H
    go_enter Try.func34, Try.ntmps34
    go_wp2_with (first | ((with_reducible refine gate_callee (f := 78) rfl ?_); refine goesL_ (some 9) rfl rfl Try.func78 (by kernel_rfl) rfl #[.int .i64 a0] rfl (by (try simp only [List.map_toArray, List.map_cons, List.map_nil]); first | done | rfl | (simp only [List.length_drop, List.length_take]; rfl)) ?_; (with_reducible refine (retargetref01_Wide.calls a0 false _ A3.out).mono ?_); rintro e w' ⟨rfl, ⟨nd, rfl⟩⟩; refine ⟨_, rfl, ?_⟩))
    go_ret2
    exact ⟨by first | rfl | (simp; done) | (simp [*]; done), by repeat (first | exact Drawn0.refl _ | apply Drawn0.step)⟩

end Go.Proofs.Ytbckdelbkcfjkaa.Bi
