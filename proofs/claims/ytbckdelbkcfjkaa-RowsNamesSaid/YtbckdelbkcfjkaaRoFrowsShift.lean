-- Written by a program of this session (mkfam.py) out of what the kit's print.py says over the translation. Lean checks it.
import Derived.Test.YtbckdelbkcfjkaaRox0
import Derived.Test.YtbckdelbkcfjkaaRoFeq0
import Derived.Test.YtbckdelbkcfjkaaRoFrowsCheck
import Derived.Test.YtbckdelbkcfjkaaRoHClone
namespace Go.Proofs.Ytbckdelbkcfjkaa.Ro
open Go.RowKit Go.Proofs.YtbckdelbkcfjkaaW.PrintWords Go.Proofs.YtbckdelbkcfjkaaW.PrintLast Go.Proofs.YtbckdelbkcfjkaaW.PrintMore
attribute [local go_sem] max2_int min2_int max_two min_two max_three min_three max_four min_four   -- for this text's walks alone
set_option linter.unusedVariables false
set_option linter.unusedSimpArgs false
attribute [local go_sem high] eqA72
/-! ### rows_Shift: function 49 -/
mutual
def rows_Shift.j0 : Nat → List (S72) → Int → Bool → Option ((List (S72)) × Int)
  | 0, _, _, _ => none
  | k + 1, x0, x1, x33 => if x33 = true then (some (([] : List (S72)), 2)) else ((slices_CloneRow.f x0).bind fun t246 => (rows_Shift.l0 k x1 t246 (t246.length : Int) 0))
def rows_Shift.l0 : Nat → Int → List (S72) → Int → Int → Option ((List (S72)) × Int)
  | 0, _, _, _, _ => none
  | k + 1, x1, x8, x37, x38 => if x38 < x37 then (if 0 ≤ x38 then (if x38 < (x8.length : Int) then (rows_Shift.l0 k x1 (x8.set (x38 : Int).toNat (⟨IntKind.u64.wrap (((rd_T72 x8 x38).f0) + x1), (rd_T72 x8 x38).f1⟩ : S72)) x37 (wrap64 (x38 + 1))) else (none)) else (none)) else (some (x8, 0))
end
def rows_Shift.f (k : Nat) (l0 : List (S72)) (a1 : Int) : Option ((List (S72)) × Int) := (rows_Check.f k l0).bind fun t244 => (if t244 = 0 then (if (l0.length : Int) > 0 then (if a1 ≥ 4294967296 then (rows_Shift.j0 k l0 a1 true) else (if 0 ≤ (wrap64 ((l0.length : Int) - 1)) then (if (wrap64 ((l0.length : Int) - 1)) < (l0.length : Int) then (rows_Shift.j0 k l0 a1 (decide ((IntKind.u64.wrap (((rd_T72 l0 (wrap64 ((l0.length : Int) - 1))).f0) + a1)) ≥ 4294967296))) else (none)) else (none))) else (rows_Shift.j0 k l0 a1 false)) else (some (([] : List (S72)), t244)))
theorem rows_Shift.mono_l : ∀ k, (∀ y0 y1 y2, LeO (rows_Shift.j0 k y0 y1 y2) (rows_Shift.j0 (k + 1) y0 y1 y2)) ∧ (∀ y0 y1 y2 y3, LeO (rows_Shift.l0 k y0 y1 y2 y3) (rows_Shift.l0 (k + 1) y0 y1 y2 y3))
  | 0 => ⟨fun _ _ _ r h => by simp [rows_Shift.j0] at h, fun _ _ _ _ r h => by simp [rows_Shift.l0] at h⟩
  | k + 1 => by
    obtain ⟨ih0, ih1⟩ := rows_Shift.mono_l k
    refine ⟨?_, ?_⟩
    · intro y0 y1 y2
      unfold rows_Shift.j0
      repeat' first
      | (with_reducible exact ih0 _ _ _)
      | (with_reducible exact ih1 _ _ _ _)
      | (with_reducible exact rows_Check.mono _ _)
      | (with_reducible exact LeO.refl _)
      | (with_reducible exact LeO.none _)
      | (with_reducible refine LeO.ite ?_ ?_)
      | (with_reducible refine LeO.bind ?_ (fun _ => ?_))
      | exact ih0 _ _ _
      | exact ih1 _ _ _ _
      | exact rows_Check.mono _ _
      | exact LeO.none _
      | refine LeO.ite ?_ ?_
      | refine LeO.bind ?_ (fun _ => ?_)
    · intro y0 y1 y2 y3
      unfold rows_Shift.l0
      repeat' first
      | (with_reducible exact ih0 _ _ _)
      | (with_reducible exact ih1 _ _ _ _)
      | (with_reducible exact rows_Check.mono _ _)
      | (with_reducible exact LeO.refl _)
      | (with_reducible exact LeO.none _)
      | (with_reducible refine LeO.ite ?_ ?_)
      | (with_reducible refine LeO.bind ?_ (fun _ => ?_))
      | exact ih0 _ _ _
      | exact ih1 _ _ _ _
      | exact rows_Check.mono _ _
      | exact LeO.none _
      | refine LeO.ite ?_ ?_
      | refine LeO.bind ?_ (fun _ => ?_)
theorem rows_Shift.mono : ∀ a0 a1 k, LeO (rows_Shift.f k a0 a1) (rows_Shift.f (k + 1) a0 a1) := by
  intro a0 a1 k
  obtain ⟨ih0, ih1⟩ := rows_Shift.mono_l k
  unfold rows_Shift.f
  repeat' first
      | (with_reducible exact ih0 _ _ _)
      | (with_reducible exact ih1 _ _ _ _)
      | (with_reducible exact rows_Check.mono _ _)
      | (with_reducible exact LeO.refl _)
      | (with_reducible exact LeO.none _)
      | (with_reducible refine LeO.ite ?_ ?_)
      | (with_reducible refine LeO.bind ?_ (fun _ => ?_))
      | exact ih0 _ _ _
      | exact ih1 _ _ _ _
      | exact rows_Check.mono _ _
      | exact LeO.none _
      | refine LeO.ite ?_ ?_
      | refine LeO.bind ?_ (fun _ => ?_)
set_option maxHeartbeats 8000000 in
set_option maxRecDepth 100000 in
theorem rows_Shift.calls (k : Nat) (A0 : Option Addr) (c0 : Nat) (l0 : List (S72)) (a1 : Int) (r1 : List (S72)) (r2 : Int) (w : World) (hr0 : Kd.C k72 w A0 l0.length l0) (hc0 : l0.length ≤ c0) (h : rows_Shift.f k l0 a1 = some (r1, r2)) :
    Calls Try.prog 49 #[.slice A0 l0.length c0, .int .u64 a1] w fun e w' => ∃ v0_ : Value, e = .returned (.tuple #[v0_, .int .i64 r2]) ∧ Kd.R k72 72 w' w.heap.size (fun _ => True) v0_ r1 ∧ Below w.heap.size w w' := by
  have HR0 := Aside0.mk hr0
  have HC0 := Aside0.mk hc0
  clear hr0 hc0
  have HB := Aside0.mk (Below.refl w.heap.size w)
  have H : ((rows_Check.f k l0).bind fun t244 => (if t244 = 0 then (if (l0.length : Int) > 0 then (if a1 ≥ 4294967296 then (rows_Shift.j0 k l0 a1 true) else (if 0 ≤ (wrap64 ((l0.length : Int) - 1)) then (if (wrap64 ((l0.length : Int) - 1)) < (l0.length : Int) then (rows_Shift.j0 k l0 a1 (decide ((IntKind.u64.wrap (((rd_T72 l0 (wrap64 ((l0.length : Int) - 1))).f0) + a1)) ≥ 4294967296))) else (none)) else (none))) else (rows_Shift.j0 k l0 a1 false)) else (some (([] : List (S72)), t244)))) = some (r1, r2) := h
  clear h
  replace H := Option.bind_eq_some_iff.mp H
  obtain ⟨t244, A30, H⟩ := H
  replace H : (if t244 = 0 then (if (l0.length : Int) > 0 then (if a1 ≥ 4294967296 then (rows_Shift.j0 k l0 a1 true) else (if 0 ≤ (wrap64 ((l0.length : Int) - 1)) then (if (wrap64 ((l0.length : Int) - 1)) < (l0.length : Int) then (rows_Shift.j0 k l0 a1 (decide ((IntKind.u64.wrap (((rd_T72 l0 (wrap64 ((l0.length : Int) - 1))).f0) + a1)) ≥ 4294967296))) else (none)) else (none))) else (rows_Shift.j0 k l0 a1 false)) else (some (([] : List (S72)), t244))) = some (r1, r2) := H
  have A3 := Aside0.mk A30
  clear A30
  by_cases c4 : t244 = 0
  · rw [if_pos c4] at H
    have c4b0 : (t244 == 0) = true := beq_iff_eq.mpr c4
    have c4b1 : (t244 != 0) = false := bne_eq_false_iff_eq.mpr c4
    clear c4
    have HC5 := Aside0.mk H
    clear H
    go_enter Try.func49, Try.ntmps49
    go_upto_region 5 with (first | ((with_reducible refine gate_callee (f := 23) rfl ?_); refine goesL_ (some 11) rfl rfl Try.func23 (by kernel_rfl) rfl #[.slice A0 l0.length c0] rfl (by (try simp only [List.map_toArray, List.map_cons, List.map_nil]); first | done | rfl | (simp only [List.length_drop, List.length_take]; rfl)) ?_; (with_reducible refine (rows_Check.calls k _ _ l0 t244 _ ?side1 ?side2 A3.out).mono ?_); (case side1 => repeat (first | exact HR0.out | (with_reducible refine Kd.C_alloc ?_ _) | (with_reducible refine Kd.C_drewN ?_ _) | (with_reducible refine Kd.C_drew ?_))); (case side2 => exact HC0.out); rintro e w6 ⟨rfl, hb⟩; refine ⟨_, rfl, ?_⟩; have n0_ := Aside0.mk (below_step (by repeat (first | (with_reducible first | exact HB.out | apply below_alloc | apply pw_below_drewN | apply below_drew1) | exact HB.out)) hb); clear HB; have HB := n0_; clear n0_; (try clear hb); (try clear hb2); (try clear hk); (try clear hi)))
    (try simp only [Act.put, List.setIfInBounds_toArray, List.set_cons_zero, List.set_cons_succ])
    go_cut [33] (fun v33 wc => ∃ (kq : Nat) (x33_4 : Bool), v33 = .bool x33_4 ∧ Aside0 (rows_Shift.j0 kq l0 a1 x33_4 = some (r1, r2)) ∧ Aside0 (kq ≤ k) ∧ Aside0 (Below w.heap.size w wc))
    case first =>
      have H := HC5.out
      clear HC5
      by_cases c7 : (l0.length : Int) > 0
      · rw [if_pos c7] at H
        have c7b0 : decide (0 < (l0.length : Int)) = true := decide_eq_true c7
        have c7b1 : decide (0 < l0.length) = true := decide_eq_true (by omega)
        clear c7
        (first | rw [c7b0] | (simp only [i64_w, i32_w]; rw [c7b0]) | skip)
        by_cases c8 : a1 ≥ 4294967296
        · rw [if_pos c8] at H
          have c8b0 : decide (4294967296 ≤ a1) = true := decide_eq_true c8
          clear c8
          have H' := Aside0.mk H
          clear H
          go_wp2
          go_meet
          case rel => exact ⟨_, (true), (by first | rfl | (simp; done) | (simp [*]; done)), H', ⟨by first | omega | exact Nat.le_refl _⟩, ⟨by repeat (first | (with_reducible first | exact HB.out | apply below_alloc | apply pw_below_drewN | apply below_drew1) | exact HB.out)⟩⟩
        · rw [if_neg c8] at H
          have c8b0 : decide (4294967296 ≤ a1) = false := decide_eq_false c8
          clear c8
          obtain ⟨ji9, hji9⟩ : ∃ j_ : Int, (wrap64 ((l0.length : Int) - 1)) = j_ := ⟨_, rfl⟩
          replace H : (if 0 ≤ (ji9) then (if (ji9) < (l0.length : Int) then (rows_Shift.j0 k l0 a1 (decide ((IntKind.u64.wrap (((rd_T72 l0 (ji9)).f0) + a1)) ≥ 4294967296))) else (none)) else (none)) = some (r1, r2) := by first | (rw [hji9] at H; exact H) | (simp only [hji9] at H ⊢; exact H)
          have hji9w : (IntKind.i64.wrap ((l0.length : Int) - 1)) = ji9 := (i64_w _).trans hji9
          by_cases c10 : 0 ≤ (ji9)
          · rw [if_pos c10] at H
            have c10b0 : decide (0 ≤ (ji9)) = true := decide_eq_true c10
            clear c10
            by_cases c11 : (ji9) < (l0.length : Int)
            · rw [if_pos c11] at H
              have c11b0 : decide ((ji9) < (l0.length : Int)) = true := decide_eq_true c11
              clear c11
              have H' := Aside0.mk H
              clear H
              have p245 : 0 ≤ ((ji9) : Int) := of_decide_eq_true (by first | (with_reducible assumption) | assumption)
              have q245 : (ji9) < (l0.length : Int) := of_decide_eq_true (by first | (with_reducible assumption) | assumption)
              obtain ⟨ad245, e245, hx245_0, hx245_1⟩ := at_T72 HR0.out (ji9) p245 q245
              cases e245
              replace hx245_0 := (HB.out.cell (World.block_lt_of_cell? w _ hx245_0)).trans hx245_0
              replace hx245_1 := (HB.out.cell (World.block_lt_of_cell? w _ hx245_1)).trans hx245_1
              replace p245 := eq_true p245
              replace q245 := eq_true q245
              go_wp2
              go_meet
              case rel => exact ⟨_, (decide ((IntKind.u64.wrap (((rd_T72 l0 (ji9)).f0) + a1)) ≥ 4294967296)), (by first | rfl | (simp; done) | (simp only [← hji9] <;> (first | rfl | simp)) | (simp [*]; done)), H', ⟨by first | omega | exact Nat.le_refl _⟩, ⟨by repeat (first | (with_reducible first | exact HB.out | apply below_alloc | apply pw_below_drewN | apply below_drew1) | exact HB.out)⟩⟩
            · rw [if_neg c11] at H
              exact absurd H (by simp)
          · rw [if_neg c10] at H
            exact absurd H (by simp)
      · rw [if_neg c7] at H
        have c7b0 : decide (0 < (l0.length : Int)) = false := decide_eq_false c7
        have c7b1 : decide (0 < l0.length) = false := decide_eq_false (by omega)
        clear c7
        (first | rw [c7b0] | (simp only [i64_w, i32_w]; rw [c7b0]) | skip)
        have H' := Aside0.mk H
        clear H
        go_wp2
        go_meet
        case rel => exact ⟨_, (false), (by first | rfl | (simp; done) | (simp [*]; done)), H', ⟨by first | omega | exact Nat.le_refl _⟩, ⟨by repeat (first | (with_reducible first | exact HB.out | apply below_alloc | apply pw_below_drewN | apply below_drew1) | exact HB.out)⟩⟩
    case rest =>
      clear HC5
      try clear c1
      try clear c2
      try clear p2
      try clear q2
      try clear hx2
      try clear c4
      try clear c4b0
      try clear c4b1
      try clear p6
      try clear c7
      try clear c7b0
      try clear c7b1
      try clear c8
      try clear c8b0
      try clear c10
      try clear c10b0
      try clear c11
      try clear c11b0
      try clear hx245_0
      try clear hx245_1
      try clear p245
      try clear q245
      obtain ⟨kq, x33_4, rfl, HA, HJ4, HB⟩ := hcut
      cases kq with
      | zero => exact absurd HA.out (by simp [rows_Shift.j0])
      | succ kj4 =>
        have H := HA.out
        clear HA
        simp only [rows_Shift.j0] at H
        by_cases c12 : x33_4 = true
        · subst c12
          have H1 : (some (([] : List (S72)), 2)) = some (r1, r2) := by rw [if_pos rfl] at H; exact H
          clear H
          have H := H1
          clear H1
          simp only [Option.some.injEq, Prod.mk.injEq] at H
          obtain ⟨rfl, rfl⟩ := H
          go_wp2
          go_ret2
          exact ⟨_, by first | rfl | (simp [errW_none, errW_some] <;> rfl) | (simp [*, errW_none, errW_some] <;> rfl), by first | exact Kd.R_nil _ _ _ _ _ | exact Kd.N_nil _ _ _ _ _ | exact Kd.V_nil _ _ _ _ _ | exact Kd.Q_nil _ _ _ _ _ | exact Kd.S_nil _ _ _ _ _, by repeat (first | (with_reducible first | exact HB.out | apply below_alloc | apply pw_below_drewN | apply below_drew1) | exact HB.out)⟩
        · replace c12 := Bool.eq_false_iff.mpr c12
          subst c12
          have H1 : ((slices_CloneRow.f l0).bind fun t246 => (rows_Shift.l0 kj4 a1 t246 (t246.length : Int) 0)) = some (r1, r2) := by rw [if_neg (show ¬ (false = true) by decide)] at H; exact H
          clear H
          have H := H1
          clear H1
          replace H := Option.bind_eq_some_iff.mp H
          obtain ⟨t246, A130, H⟩ := H
          replace H : (rows_Shift.l0 kj4 a1 t246 (t246.length : Int) 0) = some (r1, r2) := H
          have A13 := Aside0.mk A130
          clear A130
          have H' := Aside0.mk H
          clear H
          go_wp2_with (first | ((with_reducible refine gate_callee (f := 95) rfl ?_); refine goesL_ (some 35) rfl rfl Try.func95 (by kernel_rfl) rfl #[.slice A0 l0.length c0] rfl (by (try simp only [List.map_toArray, List.map_cons, List.map_nil]); first | done | rfl | (simp only [List.length_drop, List.length_take]; rfl)) ?_; (with_reducible refine (slices_CloneRow.calls _ _ l0 t246 _ ?side1 ?side2 A13.out).mono ?_); (case side1 => repeat (first | exact (Kd.C_below HR0.out HB.out) | (with_reducible refine Kd.C_alloc ?_ _) | (with_reducible refine Kd.C_drewN ?_ _) | (with_reducible refine Kd.C_drew ?_))); (case side2 => exact HC0.out); rintro e w14 ⟨v247, rfl, ho0, hb⟩; refine ⟨_, rfl, ?_⟩; have n0_ := Aside0.mk (Kd.R_lower ho0 (below_size (by repeat (first | (with_reducible first | exact HB.out | apply below_alloc | apply pw_below_drewN | apply below_drew1) | exact HB.out)))); have n1_ := Aside0.mk (below_step (by repeat (first | (with_reducible first | exact HB.out | apply below_alloc | apply pw_below_drewN | apply below_drew1) | exact HB.out)) hb); clear HB; have HO248 := n0_; have HB := n1_; clear n0_ n1_; (try clear hb); (try clear hb2); (try clear hk); (try clear hi); (try clear ho0); obtain ⟨Ao15, co15, eo15⟩ := Kd.R_slice HO248.out; subst eo15))
          go_loopg [38] kj4 (fun kq v38 w' => ∃ (x8_2 : List (S72)) (x38_2 : Int), v38 = .int .i64 x38_2 ∧ Aside0 (rows_Shift.l0 kq a1 x8_2 (t246.length : Int) x38_2 = some (r1, r2)) ∧ Aside0 (kq ≤ kj4) ∧ Aside0 (Kd.R k72 72 w' w.heap.size (fun _ => True) (.slice Ao15 t246.length co15) x8_2) ∧ Aside0 (Below w.heap.size w w'))
          case atStart => exact ⟨(t246), (0), (by first | rfl | (simp; done) | (simp [*]; done)), H', ⟨Nat.le_refl _⟩, ⟨by (with_reducible repeat (first | apply Kd.R_alloc | apply Kd.R_drewN | apply Kd.R_drew)); exact HO248.out⟩, ⟨by repeat (first | (with_reducible first | exact HB.out | apply below_alloc | apply pw_below_drewN | apply below_drew1) | exact HB.out)⟩⟩
          case round =>
            clear H'
            try clear c1
            try clear c2
            try clear p2
            try clear q2
            try clear hx2
            try clear c4
            try clear c4b0
            try clear c4b1
            try clear p6
            try clear c7
            try clear c7b0
            try clear c7b1
            try clear c8
            try clear c8b0
            try clear c9
            try clear c10
            try clear c10b0
            try clear c11
            try clear c11b0
            try clear c12
            try clear hx245_0
            try clear hx245_1
            try clear p2
            try clear p245
            try clear p6
            try clear q2
            try clear q245
            obtain ⟨x8_2, x38_2, rfl, HA, HK2, HO_8, HB⟩ := hrel
            have hl8_2 := (Kd.R_reads' HO_8.out).1
            rw [hl8_2] at HO_8
            (try simp only [hl8_2])
            cases gk with
            | zero => exact absurd HA.out (by simp [rows_Shift.l0])
            | succ k2 =>
              have H := HA.out
              clear HA
              simp only [rows_Shift.l0] at H
              by_cases c16 : x38_2 < (t246.length : Int)
              · rw [if_pos c16] at H
                have c16b0 : decide (x38_2 < (t246.length : Int)) = true := decide_eq_true c16
                clear c16
                by_cases c17 : 0 ≤ x38_2
                · rw [if_pos c17] at H
                  have c17b0 : decide (0 ≤ x38_2) = true := decide_eq_true c17
                  clear c17
                  by_cases c18 : x38_2 < (x8_2.length : Int)
                  · rw [if_pos c18] at H
                    have c18b0 : decide (x38_2 < (x8_2.length : Int)) = true := decide_eq_true c18
                    clear c18
                    obtain ⟨y250, hy250⟩ : ∃ y_ : List (S72), y_ = (x8_2.set (x38_2 : Int).toNat (⟨IntKind.u64.wrap (((rd_T72 x8_2 x38_2).f0) + a1), (rd_T72 x8_2 x38_2).f1⟩ : S72)) := ⟨_, rfl⟩
                    replace H : (rows_Shift.l0 k2 a1 y250 (t246.length : Int) (wrap64 (x38_2 + 1))) = some (r1, r2) := by first | (rw [hy250]; with_reducible exact H) | (have H2_ := (Option.bind_some _ _).symm.trans H; rw [hy250]; with_reducible exact H2_) | (have H2_ := (Option.bind_some _ _).symm.trans H; with_reducible exact H2_) | with_reducible exact H | (rw [hy250]; exact H) | exact H
                    have Ny250 := Aside0.mk hy250
                    clear hy250
                    have H' := Aside0.mk H
                    clear H
                    have p249 : 0 ≤ (x38_2 : Int) := of_decide_eq_true (by first | (with_reducible assumption) | assumption)
                    have q249 : x38_2 < (x8_2.length : Int) := of_decide_eq_true (by first | (with_reducible assumption) | assumption)
                    obtain ⟨ad249, e249, hx249_0, hx249_1⟩ := at_T72 (Kd.R_reads' HO_8.out).2.2 x38_2 p249 q249
                    cases e249
                    replace p249 := eq_true p249
                    replace q249 := eq_true q249
                    have p19 : 0 ≤ (x38_2 : Int) := of_decide_eq_true (by first | (with_reducible assumption) | assumption)
                    have q19 : (x38_2 : Int) < ((x8_2.length : Int) : Int) := of_decide_eq_true (by first | (with_reducible assumption) | assumption)
                    obtain ⟨go19, co19, eo19, gb19, gl19, cl19, HG19⟩ := Kd.R_form HO_8.out (by omega)
                    (first | cases eo19 | (injection eo19 with ea_ en_ ec_; (first | subst ea_ | (injection ea_ with ea_; subst ea_)); subst ec_; clear en_))
                    have GB19 := Aside0.mk gb19
                    have GG19 := Aside0.mk HG19
                    clear gb19 gl19 HG19
                    (first | simp only [add_plain] at hx249_0 | skip)
                    (first | simp only [add_plain] at hx249_1 | skip)
                    obtain ⟨ce19, hcl19, hM19, hcc19, hfr19⟩ := Kd.R_elem HO_8.out z72 (x38_2 : Int) p19 q19
                    obtain rfl := k72_openM hM19
                    have hx19_0 : wr.cell? ⟨go19, (x38_2 : Int).toNat * 2, none⟩ = some (.int .u64 ((rd_T72 x8_2 x38_2).f0)) := hcc19 0 _ rfl
                    have hx19_1 : wr.cell? ⟨go19, (x38_2 : Int).toNat * 2 + 1, none⟩ = some (.int .i64 ((rd_T72 x8_2 x38_2).f1)) := hcc19 1 _ rfl
                    have hf19_0 : wr.frozen? ⟨go19, (x38_2 : Int).toNat * 2, none⟩ = false := hfr19 0
                    have hf19_1 : wr.frozen? ⟨go19, (x38_2 : Int).toNat * 2 + 1, none⟩ = false := hfr19 1
                    clear hcl19 hcc19 hfr19 hM19
                    replace p19 := eq_true p19
                    replace q19 := eq_true q19
                    have HX20 := Aside0.mk (show Kd.R k72 72 wr w.heap.size (fun _ => True) (.slice (some ⟨go19, 0, none⟩) x8_2.length co15) x8_2 from (by (with_reducible repeat (first | apply Kd.R_alloc | apply Kd.R_drewN | apply Kd.R_drew)); exact HO_8.out))
                    obtain ⟨ce20, hcl20, hM20, hcc20, hfr20⟩ := Kd.R_elem HX20.out z72 (x38_2 : Int) (of_decide_eq_true (by first | (with_reducible assumption) | assumption)) (by have h_ : (x38_2 : Int) < ((x8_2.length : Int) : Int) := of_decide_eq_true (by first | (with_reducible assumption) | assumption); first | exact h_ | (have e_ := (Kd.R_reads' HO_8.out).1; omega) | simpa using h_)
                    obtain rfl := k72_openM hM20
                    have HP20 := Kd.R_seg HX20.out (x38_2 : Int) (of_decide_eq_true (by first | (with_reducible assumption) | assumption)) (by have h_ : (x38_2 : Int) < ((x8_2.length : Int) : Int) := of_decide_eq_true (by first | (with_reducible assumption) | assumption); first | exact h_ | (have e_ := (Kd.R_reads' HO_8.out).1; omega) | simpa using h_) (seg := [.int .u64 (IntKind.u64.wrap (((rd_T72 x8_2 x38_2).f0) + a1))]) (j := 0) hcl20 hcc20 (show 1 ≤ 2 from by decide) (x' := (⟨IntKind.u64.wrap (((rd_T72 x8_2 x38_2).f0) + a1), (rd_T72 x8_2 x38_2).f1⟩ : S72)) (k72_mkM _ _ _ (⟨IntKind.u64.wrap (((rd_T72 x8_2 x38_2).f0) + a1), (rd_T72 x8_2 x38_2).f1⟩ : S72) ) (fun _ hk => hk)
                    have hx20_0 := hcc20 0 _ rfl
                    (try simp only [show (k72).sz = 2 from rfl, Nat.mul_one, Nat.add_zero] at hx20_0)
                    have hf20_0 := hfr20 0
                    (try simp only [show (k72).sz = 2 from rfl, Nat.mul_one, Nat.add_zero] at hf20_0)
                    clear hcl20 hcc20 hfr20 hM20
                    go_wp2_with (first | ((with_reducible refine gate_store (t := 23) (p := 49) rfl ?_); refine store_event (t := 23) (p := 49) (v := ?vo_w21) (w1 := (wr.setCell ⟨go19, (x38_2 : Int).toNat * 2, none⟩ (.int .u64 (IntKind.u64.wrap (((rd_T72 x8_2 x38_2).f0) + a1))))) ?hg ?ho ?hn ?hr ?_; (case ho => rfl); (case hg => rfl); (case hn => rfl); (case hr => first | (go_simp; done) | (go_simp; rfl)); intro w21 hw; have hg : wr.grownBy w21 (some go19) := (by rw [hw]; exact HP20.2); have hp_ : Kd.R k72 72 w21 w.heap.size (fun _ => True) (.slice (some ⟨go19, 0, none⟩) x8_2.length co15) y250 := (by rw [hw, Ny250.out]; exact HP20.1); clear HP20; have n0_ := Aside0.mk (hp_); have n1_ := Aside0.mk ((by rw [hw]; exact below_set (HB.out) GB19.out : Below w.heap.size w w21)); clear HO_8; clear HB; have HO_8 := n0_; have HB := n1_; clear n0_ n1_; clear hg hw hp_))
                    (try simp only [← hl8_2])
                    go_roundg k2
                    case measure => have := HJ4.out; have := HK2.out; omega
                    case rel => exact ⟨(y250), (wrap64 (x38_2 + 1)), (by first | rfl | (simp; done) | (simp [*]; done)), H', ⟨by have := HJ4.out; have := HK2.out; omega⟩, ⟨by (try simp only [hl8_2]); (with_reducible repeat (first | apply Kd.R_alloc | apply Kd.R_drewN | apply Kd.R_drew)); exact HO_8.out⟩, ⟨by repeat (first | (with_reducible first | exact HB.out | apply below_alloc | apply pw_below_drewN | apply below_drew1) | exact HB.out)⟩⟩
                  · rw [if_neg c18] at H
                    exact absurd H (by simp)
                · rw [if_neg c17] at H
                  exact absurd H (by simp)
              · rw [if_neg c16] at H
                have c16b0 : decide (x38_2 < (t246.length : Int)) = false := decide_eq_false c16
                have c_last : decide (x38_2 < (x8_2.length : Int)) = false := by rw [← hl8_2]; exact c16b0
                clear c16
                simp only [Option.some.injEq, Prod.mk.injEq] at H
                obtain ⟨rfl, rfl⟩ := H
                go_wp2
                go_ret2
                exact ⟨_, by first | rfl | (simp [errW_none, errW_some] <;> rfl) | (simp [*, errW_none, errW_some] <;> rfl), by (with_reducible repeat (first | apply Kd.R_alloc | apply Kd.R_drewN | apply Kd.R_drew)); exact HO_8.out, by repeat (first | (with_reducible first | exact HB.out | apply below_alloc | apply pw_below_drewN | apply below_drew1) | exact HB.out)⟩
  · rw [if_neg c4] at H
    have c4b0 : (t244 == 0) = false := beq_eq_false_iff_ne.mpr c4
    have c4b1 : (t244 != 0) = true := bne_iff_ne.mpr c4
    simp only [Option.some.injEq, Prod.mk.injEq] at H
    obtain ⟨rfl, rfl⟩ := H
    go_enter Try.func49, Try.ntmps49
    go_wp2_with (first | ((with_reducible refine gate_callee (f := 23) rfl ?_); refine goesL_ (some 11) rfl rfl Try.func23 (by kernel_rfl) rfl #[.slice A0 l0.length c0] rfl (by (try simp only [List.map_toArray, List.map_cons, List.map_nil]); first | done | rfl | (simp only [List.length_drop, List.length_take]; rfl)) ?_; (with_reducible refine (rows_Check.calls k _ _ l0 t244 _ ?side1 ?side2 A3.out).mono ?_); (case side1 => repeat (first | exact HR0.out | (with_reducible refine Kd.C_alloc ?_ _) | (with_reducible refine Kd.C_drewN ?_ _) | (with_reducible refine Kd.C_drew ?_))); (case side2 => exact HC0.out); rintro e w22 ⟨rfl, hb⟩; refine ⟨_, rfl, ?_⟩; have n0_ := Aside0.mk (below_step (by repeat (first | (with_reducible first | exact HB.out | apply below_alloc | apply pw_below_drewN | apply below_drew1) | exact HB.out)) hb); clear HB; have HB := n0_; clear n0_; (try clear hb); (try clear hb2); (try clear hk); (try clear hi)))
    go_ret2
    exact ⟨_, by first | rfl | (simp [errW_none, errW_some] <;> rfl) | (simp [*, errW_none, errW_some] <;> rfl), by first | exact Kd.R_nil _ _ _ _ _ | exact Kd.N_nil _ _ _ _ _ | exact Kd.V_nil _ _ _ _ _ | exact Kd.Q_nil _ _ _ _ _ | exact Kd.S_nil _ _ _ _ _, by repeat (first | (with_reducible first | exact HB.out | apply below_alloc | apply pw_below_drewN | apply below_drew1) | exact HB.out)⟩

-- NOT PRINTED: function 142 (slices_GrowRow)

end Go.Proofs.Ytbckdelbkcfjkaa.Ro
