-- Written by a program of this session (mkfam.py) out of what the kit's print.py says over the translation. Lean checks it.
import Derived.Test.YtbckdelbkcfjkaaBix0
import Derived.Test.YtbckdelbkcfjkaaBiFretargetref01Bits
import Derived.Test.YtbckdelbkcfjkaaBiFretargetref01Number
import Derived.Test.YtbckdelbkcfjkaaBiFretargetref01Ok
import Derived.Test.YtbckdelbkcfjkaaBiFretargetref01Wide
namespace Go.Proofs.Ytbckdelbkcfjkaa.Bi
open Go.RowKit Go.Proofs.YtbckdelbkcfjkaaW.PrintWords Go.Proofs.YtbckdelbkcfjkaaW.PrintLast Go.Proofs.YtbckdelbkcfjkaaW.PrintMore
attribute [local go_sem] max2_int min2_int max_two min_two max_three min_three max_four min_four   -- for this text's walks alone
set_option linter.unusedVariables false
set_option linter.unusedSimpArgs false
/-! ### retargetref01_Extract: function 40 -/
def retargetref01_Extract.j0 : Nat → Int → Int → Int → Int → Bool → Option (Int × Int)
  | 0, _, _, _, _, _ => none
  | k + 1, x0, x1, x2, x3, x39 => if x39 = true then (some (0, 2)) else ((retargetref01_Bits.f k x0 x1).bind fun t387 => (if 0 ≤ x2 then (if x2 ≤ (wrap64 (x2 + x3)) then (if (wrap64 (x2 + x3)) ≤ (t387.length : Int) then ((retargetref01_Number.f k ((t387.take ((wrap64 (x2 + x3)) : Int).toNat).drop (x2 : Int).toNat)).bind fun t394 => (some (t394, 0))) else (none)) else (none)) else (none)))
def retargetref01_Extract.f (k : Nat) (a0 : Int) (a1 : Int) (a2 : Int) (a3 : Int) : Option (Int × Int) := (retargetref01_Wide.f a0).bind fun t385 => (if t385 = true then ((retargetref01_Ok.f k a0 a1).bind fun t386 => (if t386 = true then (if a2 < 0 then (retargetref01_Extract.j0 k a0 a1 a2 a3 true) else (if a3 < 1 then (retargetref01_Extract.j0 k a0 a1 a2 a3 true) else (if a2 > a0 then (retargetref01_Extract.j0 k a0 a1 a2 a3 true) else (if a3 > a0 then (retargetref01_Extract.j0 k a0 a1 a2 a3 true) else (retargetref01_Extract.j0 k a0 a1 a2 a3 (decide ((wrap64 (a2 + a3)) > a0))))))) else (some (0, 8)))) else (some (0, 14)))
theorem retargetref01_Extract.mono_l : ∀ k, (∀ y0 y1 y2 y3 y4, LeO (retargetref01_Extract.j0 k y0 y1 y2 y3 y4) (retargetref01_Extract.j0 (k + 1) y0 y1 y2 y3 y4))
  | 0 => fun _ _ _ _ _ r h => by simp [retargetref01_Extract.j0] at h
  | k + 1 => by
    have ih0 := retargetref01_Extract.mono_l k
    · intro y0 y1 y2 y3 y4
      unfold retargetref01_Extract.j0
      repeat' first
      | (with_reducible exact ih0 _ _ _ _ _)
      | (with_reducible exact retargetref01_Bits.mono _ _ _)
      | (with_reducible exact retargetref01_Number.mono _ _)
      | (with_reducible exact retargetref01_Ok.mono _ _ _)
      | (with_reducible exact LeO.refl _)
      | (with_reducible exact LeO.none _)
      | (with_reducible refine LeO.ite ?_ ?_)
      | (with_reducible refine LeO.bind ?_ (fun _ => ?_))
      | exact ih0 _ _ _ _ _
      | exact retargetref01_Bits.mono _ _ _
      | exact retargetref01_Number.mono _ _
      | exact retargetref01_Ok.mono _ _ _
      | exact LeO.none _
      | refine LeO.ite ?_ ?_
      | refine LeO.bind ?_ (fun _ => ?_)
theorem retargetref01_Extract.mono : ∀ a0 a1 a2 a3 k, LeO (retargetref01_Extract.f k a0 a1 a2 a3) (retargetref01_Extract.f (k + 1) a0 a1 a2 a3) := by
  intro a0 a1 a2 a3 k
  have ih0 := retargetref01_Extract.mono_l k
  unfold retargetref01_Extract.f
  repeat' first
      | (with_reducible exact ih0 _ _ _ _ _)
      | (with_reducible exact retargetref01_Bits.mono _ _ _)
      | (with_reducible exact retargetref01_Number.mono _ _)
      | (with_reducible exact retargetref01_Ok.mono _ _ _)
      | (with_reducible exact LeO.refl _)
      | (with_reducible exact LeO.none _)
      | (with_reducible refine LeO.ite ?_ ?_)
      | (with_reducible refine LeO.bind ?_ (fun _ => ?_))
      | exact ih0 _ _ _ _ _
      | exact retargetref01_Bits.mono _ _ _
      | exact retargetref01_Number.mono _ _
      | exact retargetref01_Ok.mono _ _ _
      | exact LeO.none _
      | refine LeO.ite ?_ ?_
      | refine LeO.bind ?_ (fun _ => ?_)
set_option maxHeartbeats 8000000 in
set_option maxRecDepth 100000 in
theorem retargetref01_Extract.calls (k : Nat) (a0 : Int) (a1 : Int) (a2 : Int) (a3 : Int) (r1 : Int) (r2 : Int) (w : World) (h : retargetref01_Extract.f k a0 a1 a2 a3 = some (r1, r2)) :
    Calls Try.prog 40 #[.int .i64 a0, .int .u64 a1, .int .i64 a2, .int .i64 a3] w fun e w' => e = .returned (.tuple #[.int .u64 r1, .int .i64 r2]) ∧ Below w.heap.size w w' := by
  have HB := Aside0.mk (Below.refl w.heap.size w)
  have H : ((retargetref01_Wide.f a0).bind fun t385 => (if t385 = true then ((retargetref01_Ok.f k a0 a1).bind fun t386 => (if t386 = true then (if a2 < 0 then (retargetref01_Extract.j0 k a0 a1 a2 a3 true) else (if a3 < 1 then (retargetref01_Extract.j0 k a0 a1 a2 a3 true) else (if a2 > a0 then (retargetref01_Extract.j0 k a0 a1 a2 a3 true) else (if a3 > a0 then (retargetref01_Extract.j0 k a0 a1 a2 a3 true) else (retargetref01_Extract.j0 k a0 a1 a2 a3 (decide ((wrap64 (a2 + a3)) > a0))))))) else (some (0, 8)))) else (some (0, 14)))) = some (r1, r2) := h
  clear h
  replace H := Option.bind_eq_some_iff.mp H
  obtain ⟨t385, A50, H⟩ := H
  replace H : (if t385 = true then ((retargetref01_Ok.f k a0 a1).bind fun t386 => (if t386 = true then (if a2 < 0 then (retargetref01_Extract.j0 k a0 a1 a2 a3 true) else (if a3 < 1 then (retargetref01_Extract.j0 k a0 a1 a2 a3 true) else (if a2 > a0 then (retargetref01_Extract.j0 k a0 a1 a2 a3 true) else (if a3 > a0 then (retargetref01_Extract.j0 k a0 a1 a2 a3 true) else (retargetref01_Extract.j0 k a0 a1 a2 a3 (decide ((wrap64 (a2 + a3)) > a0))))))) else (some (0, 8)))) else (some (0, 14))) = some (r1, r2) := H
  have A5 := Aside0.mk A50
  clear A50
  by_cases c6 : t385 = true
  · subst c6
    have H1 : ((retargetref01_Ok.f k a0 a1).bind fun t386 => (if t386 = true then (if a2 < 0 then (retargetref01_Extract.j0 k a0 a1 a2 a3 true) else (if a3 < 1 then (retargetref01_Extract.j0 k a0 a1 a2 a3 true) else (if a2 > a0 then (retargetref01_Extract.j0 k a0 a1 a2 a3 true) else (if a3 > a0 then (retargetref01_Extract.j0 k a0 a1 a2 a3 true) else (retargetref01_Extract.j0 k a0 a1 a2 a3 (decide ((wrap64 (a2 + a3)) > a0))))))) else (some (0, 8)))) = some (r1, r2) := by rw [if_pos rfl] at H; exact H
    clear H
    have H := H1
    clear H1
    replace H := Option.bind_eq_some_iff.mp H
    obtain ⟨t386, A70, H⟩ := H
    replace H : (if t386 = true then (if a2 < 0 then (retargetref01_Extract.j0 k a0 a1 a2 a3 true) else (if a3 < 1 then (retargetref01_Extract.j0 k a0 a1 a2 a3 true) else (if a2 > a0 then (retargetref01_Extract.j0 k a0 a1 a2 a3 true) else (if a3 > a0 then (retargetref01_Extract.j0 k a0 a1 a2 a3 true) else (retargetref01_Extract.j0 k a0 a1 a2 a3 (decide ((wrap64 (a2 + a3)) > a0))))))) else (some (0, 8))) = some (r1, r2) := H
    have A7 := Aside0.mk A70
    clear A70
    by_cases c8 : t386 = true
    · subst c8
      have H1 : (if a2 < 0 then (retargetref01_Extract.j0 k a0 a1 a2 a3 true) else (if a3 < 1 then (retargetref01_Extract.j0 k a0 a1 a2 a3 true) else (if a2 > a0 then (retargetref01_Extract.j0 k a0 a1 a2 a3 true) else (if a3 > a0 then (retargetref01_Extract.j0 k a0 a1 a2 a3 true) else (retargetref01_Extract.j0 k a0 a1 a2 a3 (decide ((wrap64 (a2 + a3)) > a0))))))) = some (r1, r2) := by rw [if_pos rfl] at H; exact H
      clear H
      have H := H1
      clear H1
      have HC9 := Aside0.mk H
      clear H
      go_enter Try.func40, Try.ntmps40
      go_upto_region 5 with (first | ((with_reducible refine gate_callee (f := 78) rfl ?_); refine goesL_ (some 11) rfl rfl Try.func78 (by kernel_rfl) rfl #[.int .i64 a0] rfl (by (try simp only [List.map_toArray, List.map_cons, List.map_nil]); first | done | rfl | (simp only [List.length_drop, List.length_take]; rfl)) ?_; (with_reducible refine (retargetref01_Wide.calls a0 true _ A5.out).mono ?_); rintro e w' ⟨rfl, ⟨nd, rfl⟩⟩; refine ⟨_, rfl, ?_⟩) | ((with_reducible refine gate_callee (f := 36) rfl ?_); refine goesL_ (some 15) rfl rfl Try.func36 (by kernel_rfl) rfl #[.int .i64 a0, .int .u64 a1] rfl (by (try simp only [List.map_toArray, List.map_cons, List.map_nil]); first | done | rfl | (simp only [List.length_drop, List.length_take]; rfl)) ?_; (with_reducible refine (retargetref01_Ok.calls k a0 a1 true _ A7.out).mono ?_); rintro e w' ⟨rfl, ⟨nd, rfl⟩⟩; refine ⟨_, rfl, ?_⟩))
      (try simp only [Act.put, List.setIfInBounds_toArray, List.set_cons_zero, List.set_cons_succ])
      go_cut [39] (fun v39 wc => ∃ (kq : Nat) (x39_8 : Bool), v39 = .bool x39_8 ∧ Aside0 (retargetref01_Extract.j0 kq a0 a1 a2 a3 x39_8 = some (r1, r2)) ∧ Aside0 (kq ≤ k) ∧ Aside0 (Below w.heap.size w wc))
      case first =>
        have H := HC9.out
        clear HC9
        by_cases c10 : a2 < 0
        · rw [if_pos c10] at H
          have c10b0 : decide (a2 < 0) = true := decide_eq_true c10
          clear c10
          (first | rw [c10b0] | (simp only [i64_w, i32_w]; rw [c10b0]) | skip)
          have H' := Aside0.mk H
          clear H
          go_wp2
          go_meet
          case rel => exact ⟨_, (true), (by first | rfl | (simp; done) | (simp [*]; done)), H', ⟨by first | omega | exact Nat.le_refl _⟩, ⟨by repeat (first | (with_reducible first | exact HB.out | apply below_alloc | apply pw_below_drewN | apply below_drew1) | exact HB.out)⟩⟩
        · rw [if_neg c10] at H
          have c10b0 : decide (a2 < 0) = false := decide_eq_false c10
          clear c10
          (first | rw [c10b0] | (simp only [i64_w, i32_w]; rw [c10b0]) | skip)
          by_cases c11 : a3 < 1
          · rw [if_pos c11] at H
            have c11b0 : decide (a3 < 1) = true := decide_eq_true c11
            clear c11
            have H' := Aside0.mk H
            clear H
            go_wp2
            go_meet
            case rel => exact ⟨_, (true), (by first | rfl | (simp; done) | (simp [*]; done)), H', ⟨by first | omega | exact Nat.le_refl _⟩, ⟨by repeat (first | (with_reducible first | exact HB.out | apply below_alloc | apply pw_below_drewN | apply below_drew1) | exact HB.out)⟩⟩
          · rw [if_neg c11] at H
            have c11b0 : decide (a3 < 1) = false := decide_eq_false c11
            clear c11
            by_cases c12 : a2 > a0
            · rw [if_pos c12] at H
              have c12b0 : decide (a0 < a2) = true := decide_eq_true c12
              clear c12
              have H' := Aside0.mk H
              clear H
              go_wp2
              go_meet
              case rel => exact ⟨_, (true), (by first | rfl | (simp; done) | (simp [*]; done)), H', ⟨by first | omega | exact Nat.le_refl _⟩, ⟨by repeat (first | (with_reducible first | exact HB.out | apply below_alloc | apply pw_below_drewN | apply below_drew1) | exact HB.out)⟩⟩
            · rw [if_neg c12] at H
              have c12b0 : decide (a0 < a2) = false := decide_eq_false c12
              clear c12
              by_cases c13 : a3 > a0
              · rw [if_pos c13] at H
                have c13b0 : decide (a0 < a3) = true := decide_eq_true c13
                clear c13
                have H' := Aside0.mk H
                clear H
                go_wp2
                go_meet
                case rel => exact ⟨_, (true), (by first | rfl | (simp; done) | (simp [*]; done)), H', ⟨by first | omega | exact Nat.le_refl _⟩, ⟨by repeat (first | (with_reducible first | exact HB.out | apply below_alloc | apply pw_below_drewN | apply below_drew1) | exact HB.out)⟩⟩
              · rw [if_neg c13] at H
                have c13b0 : decide (a0 < a3) = false := decide_eq_false c13
                clear c13
                have H' := Aside0.mk H
                clear H
                go_wp2
                go_meet
                case rel => exact ⟨_, (decide ((wrap64 (a2 + a3)) > a0)), (by first | rfl | (simp; done) | (simp [*]; done)), H', ⟨by first | omega | exact Nat.le_refl _⟩, ⟨by repeat (first | (with_reducible first | exact HB.out | apply below_alloc | apply pw_below_drewN | apply below_drew1) | exact HB.out)⟩⟩
      case rest =>
        clear HC9
        try clear c1
        try clear p2
        try clear c3
        try clear c4
        try clear c6
        try clear p6
        try clear c7
        try clear c8
        try clear c10
        try clear c10b0
        try clear c11
        try clear c11b0
        try clear c12
        try clear c12b0
        try clear c13
        try clear c13b0
        obtain ⟨kq, x39_8, rfl, HA, HJ8, HB⟩ := hcut
        cases kq with
        | zero => exact absurd HA.out (by simp [retargetref01_Extract.j0])
        | succ kj8 =>
          have H := HA.out
          clear HA
          simp only [retargetref01_Extract.j0] at H
          by_cases c14 : x39_8 = true
          · subst c14
            have H1 : (some (0, 2)) = some (r1, r2) := by rw [if_pos rfl] at H; exact H
            clear H
            have H := H1
            clear H1
            simp only [Option.some.injEq, Prod.mk.injEq] at H
            obtain ⟨rfl, rfl⟩ := H
            go_wp2
            go_ret2
            exact ⟨by first | rfl | (simp [errW_none, errW_some] <;> rfl) | (simp [*, errW_none, errW_some] <;> rfl), by repeat (first | (with_reducible first | exact HB.out | apply below_alloc | apply pw_below_drewN | apply below_drew1) | exact HB.out)⟩
          · replace c14 := Bool.eq_false_iff.mpr c14
            subst c14
            have H1 : ((retargetref01_Bits.f kj8 a0 a1).bind fun t387 => (if 0 ≤ a2 then (if a2 ≤ (wrap64 (a2 + a3)) then (if (wrap64 (a2 + a3)) ≤ (t387.length : Int) then ((retargetref01_Number.f kj8 ((t387.take ((wrap64 (a2 + a3)) : Int).toNat).drop (a2 : Int).toNat)).bind fun t394 => (some (t394, 0))) else (none)) else (none)) else (none))) = some (r1, r2) := by rw [if_neg (show ¬ (false = true) by decide)] at H; exact H
            clear H
            have H := H1
            clear H1
            replace H := Option.bind_eq_some_iff.mp H
            obtain ⟨t387, A150, H⟩ := H
            replace H : (if 0 ≤ a2 then (if a2 ≤ (wrap64 (a2 + a3)) then (if (wrap64 (a2 + a3)) ≤ (t387.length : Int) then ((retargetref01_Number.f kj8 ((t387.take ((wrap64 (a2 + a3)) : Int).toNat).drop (a2 : Int).toNat)).bind fun t394 => (some (t394, 0))) else (none)) else (none)) else (none)) = some (r1, r2) := H
            have A15 := Aside0.mk A150
            clear A150
            by_cases c16 : 0 ≤ a2
            · rw [if_pos c16] at H
              have c16b0 := eq_true c16
              have c16b1 : decide (0 ≤ a2) = true := decide_eq_true c16
              clear c16
              by_cases c17 : a2 ≤ (wrap64 (a2 + a3))
              · rw [if_pos c17] at H
                have c17b0 := eq_true c17
                have c17b1 : decide (a2 ≤ (wrap64 (a2 + a3))) = true := decide_eq_true c17
                by_cases c18 : (wrap64 (a2 + a3)) ≤ (t387.length : Int)
                · rw [if_pos c18] at H
                  have c18b0 := eq_true c18
                  have c18b1 : decide ((wrap64 (a2 + a3)) ≤ (t387.length : Int)) = true := decide_eq_true c18
                  obtain ⟨y390, hy390⟩ : ∃ y_ : List Int, y_ = ((t387.take ((wrap64 (a2 + a3)) : Int).toNat).drop (a2 : Int).toNat) := ⟨_, rfl⟩
                  replace H : ((retargetref01_Number.f kj8 y390).bind fun t394 => (some (t394, 0))) = some (r1, r2) := by first | (rw [hy390]; with_reducible exact H) | (have H2_ := (Option.bind_some _ _).symm.trans H; rw [hy390]; with_reducible exact H2_) | (have H2_ := (Option.bind_some _ _).symm.trans H; with_reducible exact H2_) | with_reducible exact H | (rw [hy390]; exact H) | exact H
                  have Ny390 := Aside0.mk hy390
                  clear hy390
                  replace H := Option.bind_eq_some_iff.mp H
                  obtain ⟨t394, A190, H⟩ := H
                  replace H : (some (t394, 0)) = some (r1, r2) := H
                  have A19 := Aside0.mk A190
                  clear A190
                  simp only [Option.some.injEq, Prod.mk.injEq] at H
                  obtain ⟨rfl, rfl⟩ := H
                  go_wp2_with (first | ((with_reducible refine gate_callee (f := 84) rfl ?_); refine goesL_ (some 42) rfl rfl Try.func84 (by kernel_rfl) rfl #[.int .i64 a0, .int .u64 a1] rfl (by (try simp only [List.map_toArray, List.map_cons, List.map_nil]); first | done | rfl | (simp only [List.length_drop, List.length_take]; rfl)) ?_; (with_reducible refine (retargetref01_Bits.calls kj8 a0 a1 t387 _ A15.out).mono ?_); rintro e w20 ⟨v388, rfl, ho0, hb⟩; refine ⟨_, rfl, ?_⟩; have n0_ := Aside0.mk (Kd.R_lower ho0 (below_size (by repeat (first | (with_reducible first | exact HB.out | apply below_alloc | apply pw_below_drewN | apply below_drew1) | exact HB.out)))); have n1_ := Aside0.mk (below_step (by repeat (first | (with_reducible first | exact HB.out | apply below_alloc | apply pw_below_drewN | apply below_drew1) | exact HB.out)) hb); clear HB; have HO389 := n0_; have HB := n1_; clear n0_ n1_; (try clear hb); (try clear hb2); (try clear hk); (try clear hi); (try clear ho0); obtain ⟨Ao22, co22, eo22⟩ := Kd.R_slice HO389.out; subst eo22; have q21 : ((wrap64 (a2 + a3)) : Int) ≤ ((t387.length : Int) : Int) := of_decide_eq_true (by first | (with_reducible assumption) | assumption); obtain ⟨i021, hi021, _, hsz21, _⟩ := info_parts info3; have hroom21 : t387.length ≤ co22 := (Kd.R_reads' HO389.out).2.1; have hC21 : Kd.C (Kd.int .i64) _ Ao22 t387.length t387 := (Kd.R_reads' HO389.out).2.2; have ql21 : (a2 : Int) ≤ ((wrap64 (a2 + a3)) : Int) := of_decide_eq_true (by first | (with_reducible assumption) | assumption); have q021 : (0 : Int) ≤ (a2 : Int) := of_decide_eq_true (by first | (with_reducible assumption) | assumption); have hcut21 := cut_mid (P := Try.prog) 124 3 .i64 .i64 Try.underlying124 hi021 1 hsz21 Ao22 t387.length co22 a2 (wrap64 (a2 + a3)) q021 ql21 q21 hroom21; have hr21 := Kd.C_mid (lo := (a2 : Int).toNat) (hi := ((wrap64 (a2 + a3)) : Int).toNat) (c := co22) hC21 (by omega) (by omega) hroom21; obtain ⟨A21, hA21⟩ : ∃ A1, A1 = (if co22 = (a2 : Int).toNat then Ao22 else (Ao22 : Option Addr).map (·.add ((a2 : Int).toNat * 1))) := ⟨_, rfl⟩; obtain ⟨c21, hc21⟩ : ∃ c1, c1 = co22 - (a2 : Int).toNat := ⟨_, rfl⟩; have hy21 : y390.length = ((wrap64 (a2 + a3)) : Int).toNat - (a2 : Int).toNat := (by rw [Ny390.out, List.length_drop, List.length_take] <;> omega); rw [show ((t387).take ((wrap64 (a2 + a3)) : Int).toNat).drop (a2 : Int).toNat = y390 from Ny390.out.symm] at hr21; replace hr21 : Kd.C (Kd.int .i64) _ A21 y390.length y390 := (by rw [hA21]; exact hr21); rw [← hy21, ← hA21, ← hc21] at hcut21; have HR393 := Aside0.mk hr21; have HC393 := Aside0.mk (show y390.length ≤ c21 from by rw [hy21, hc21]; exact Nat.sub_le_sub_right (Nat.le_trans (by omega) hroom21) _); clear hr21 hC21 hroom21 hi021 hsz21 hc21; have KY21 := Aside0.mk hy21; have KA21 := Aside0.mk hA21; clear hy21 hA21; have KL21 := Aside0.mk (show ((wrap64 (a2 + a3)) : Int).toNat ≤ t387.length from by omega); have KM21 := Aside0.mk (show (a2 : Int).toNat ≤ ((wrap64 (a2 + a3)) : Int).toNat from by omega); replace q21 := eq_true q21) | ((with_reducible refine gate_callee (f := 83) rfl ?_); refine goesL_ (some 48) rfl rfl Try.func83 (by kernel_rfl) rfl #[.slice A21 y390.length c21] rfl (by (try simp only [List.map_toArray, List.map_cons, List.map_nil]); first | done | rfl | (simp only [List.length_drop, List.length_take]; rfl)) ?_; (with_reducible refine (retargetref01_Number.calls kj8 _ _ y390 t394 _ ?side1 ?side2 A19.out).mono ?_); (case side1 => repeat (first | exact (by repeat (first | (with_reducible exact HR393.out) | (with_reducible refine Kd.C_alloc ?_ _) | (with_reducible refine Kd.C_drewN ?_ _) | (with_reducible refine Kd.C_drew ?_) | exact HR393.out)) | (with_reducible refine Kd.C_alloc ?_ _) | (with_reducible refine Kd.C_drewN ?_ _) | (with_reducible refine Kd.C_drew ?_))); (case side2 => exact HC393.out); rintro e w' ⟨rfl, ⟨nd, rfl⟩⟩; refine ⟨_, rfl, ?_⟩))
                  go_ret2
                  exact ⟨by first | rfl | (simp [errW_none, errW_some] <;> rfl) | (simp [*, errW_none, errW_some] <;> rfl), by repeat (first | (with_reducible first | exact HB.out | apply below_alloc | apply pw_below_drewN | apply below_drew1) | exact HB.out)⟩
                · rw [if_neg c18] at H
                  exact absurd H (by simp)
              · rw [if_neg c17] at H
                exact absurd H (by simp)
            · rw [if_neg c16] at H
              exact absurd H (by simp)
    · replace c8 := Bool.eq_false_iff.mpr c8
      subst c8
      have H1 : (some (0, 8)) = some (r1, r2) := by rw [if_neg (show ¬ (false = true) by decide)] at H; exact H
      clear H
      have H := H1
      clear H1
      simp only [Option.some.injEq, Prod.mk.injEq] at H
      obtain ⟨rfl, rfl⟩ := H
      go_enter Try.func40, Try.ntmps40
      go_wp2_with (first | ((with_reducible refine gate_callee (f := 78) rfl ?_); refine goesL_ (some 11) rfl rfl Try.func78 (by kernel_rfl) rfl #[.int .i64 a0] rfl (by (try simp only [List.map_toArray, List.map_cons, List.map_nil]); first | done | rfl | (simp only [List.length_drop, List.length_take]; rfl)) ?_; (with_reducible refine (retargetref01_Wide.calls a0 true _ A5.out).mono ?_); rintro e w' ⟨rfl, ⟨nd, rfl⟩⟩; refine ⟨_, rfl, ?_⟩) | ((with_reducible refine gate_callee (f := 36) rfl ?_); refine goesL_ (some 15) rfl rfl Try.func36 (by kernel_rfl) rfl #[.int .i64 a0, .int .u64 a1] rfl (by (try simp only [List.map_toArray, List.map_cons, List.map_nil]); first | done | rfl | (simp only [List.length_drop, List.length_take]; rfl)) ?_; (with_reducible refine (retargetref01_Ok.calls k a0 a1 false _ A7.out).mono ?_); rintro e w' ⟨rfl, ⟨nd, rfl⟩⟩; refine ⟨_, rfl, ?_⟩))
      go_ret2
      exact ⟨by first | rfl | (simp [errW_none, errW_some] <;> rfl) | (simp [*, errW_none, errW_some] <;> rfl), by repeat (first | (with_reducible first | exact HB.out | apply below_alloc | apply pw_below_drewN | apply below_drew1) | exact HB.out)⟩
  · replace c6 := Bool.eq_false_iff.mpr c6
    subst c6
    have H1 : (some (0, 14)) = some (r1, r2) := by rw [if_neg (show ¬ (false = true) by decide)] at H; exact H
    clear H
    have H := H1
    clear H1
    simp only [Option.some.injEq, Prod.mk.injEq] at H
    obtain ⟨rfl, rfl⟩ := H
    go_enter Try.func40, Try.ntmps40
    go_wp2_with (first | ((with_reducible refine gate_callee (f := 78) rfl ?_); refine goesL_ (some 11) rfl rfl Try.func78 (by kernel_rfl) rfl #[.int .i64 a0] rfl (by (try simp only [List.map_toArray, List.map_cons, List.map_nil]); first | done | rfl | (simp only [List.length_drop, List.length_take]; rfl)) ?_; (with_reducible refine (retargetref01_Wide.calls a0 false _ A5.out).mono ?_); rintro e w' ⟨rfl, ⟨nd, rfl⟩⟩; refine ⟨_, rfl, ?_⟩))
    go_ret2
    exact ⟨by first | rfl | (simp [errW_none, errW_some] <;> rfl) | (simp [*, errW_none, errW_some] <;> rfl), by repeat (first | (with_reducible first | exact HB.out | apply below_alloc | apply pw_below_drewN | apply below_drew1) | exact HB.out)⟩

end Go.Proofs.Ytbckdelbkcfjkaa.Bi
