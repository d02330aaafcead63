-- Written by a program of this session (mkfam.py) out of what the kit's print.py says over the translation. Lean checks it.
import Derived.Test.YtbckdelbkcfjkaaBix0
import Derived.Test.YtbckdelbkcfjkaaBiG1
import Derived.Test.YtbckdelbkcfjkaaBiFretargetlaw01alive
import Derived.Test.YtbckdelbkcfjkaaBiFretargetlaw01cut
import Derived.Test.YtbckdelbkcfjkaaBiFretargetlaw01op
namespace Go.Proofs.Ytbckdelbkcfjkaa.Bi
open Go.RowKit Go.Proofs.YtbckdelbkcfjkaaW.PrintWords Go.Proofs.YtbckdelbkcfjkaaW.PrintLast Go.Proofs.YtbckdelbkcfjkaaW.PrintMore
attribute [local go_sem] max2_int min2_int max_two min_two max_three min_three max_four min_four   -- for this text's walks alone
set_option linter.unusedVariables false
set_option linter.unusedSimpArgs false
/-! ### retargetlaw01_BitsShifts: function 9 -/
mutual
def retargetlaw01_BitsShifts.j0 : Nat → Int → Int → Int → Int → Option (Bool)
  | 0, _, _, _, _ => none
  | k + 1, x7, x8, x10, x11 => if x10 ≥ (IntKind.u64.wrap (x7)) then ((retargetlaw01_op.f k 11 x7 x8 x10).bind fun t623 => (if t623 = 0 then ((retargetlaw01_op.f k 12 x7 x8 x10).bind fun t624 => (if t624 = 0 then ((retargetlaw01_op.f k 13 x7 x8 x10).bind fun t625 => (some (t625 == x11))) else (some false))) else (some false))) else ((retargetlaw01_op.f k 11 x7 x8 0).bind fun t626 => (if t626 = x8 then ((retargetlaw01_op.f k 12 x7 x8 0).bind fun t627 => (if t627 = x8 then ((retargetlaw01_op.f k 13 x7 x8 0).bind fun t628 => (if t628 = x8 then (if x7 > 1 then ((retargetlaw01_op.f k 11 x7 x8 1).bind fun t629 => ((retargetlaw01_op.f k 5 x7 x8 x8).bind fun t630 => (retargetlaw01_BitsShifts.j1 k x7 x8 x10 (t629 != t630)))) else (retargetlaw01_BitsShifts.j1 k x7 x8 x10 false)) else (retargetlaw01_BitsShifts.j1 k x7 x8 x10 true))) else (retargetlaw01_BitsShifts.j1 k x7 x8 x10 true))) else (retargetlaw01_BitsShifts.j1 k x7 x8 x10 true)))
def retargetlaw01_BitsShifts.j1 : Nat → Int → Int → Int → Bool → Option (Bool)
  | 0, _, _, _, _ => none
  | k + 1, x7, x8, x10, x90 => if x90 = true then (some false) else ((bits_Mask.f x7).bind fun t631 => (if x10 = t631 then (some true) else ((some (([11, 12, 13] : List Int) : List Int)).bind fun y632 => (retargetlaw01_BitsShifts.l0 k x7 x8 x10 y632 (y632.length : Int) 0))))
def retargetlaw01_BitsShifts.l0 : Nat → Int → Int → Int → List Int → Int → Int → Option (Bool)
  | 0, _, _, _, _, _, _ => none
  | k + 1, x7, x8, x10, x95, x96, x97 => if x97 < x96 then (if 0 ≤ x97 then (if x97 < (x95.length : Int) then ((retargetlaw01_op.f k (rd x95 x97) x7 x8 x10).bind fun t637 => ((retargetlaw01_op.f k (rd x95 x97) x7 t637 1).bind fun t638 => ((retargetlaw01_op.f k (rd x95 x97) x7 x8 (IntKind.u64.wrap (x10 + 1))).bind fun t639 => (if t638 = t639 then (retargetlaw01_BitsShifts.l0 k x7 x8 x10 x95 x96 (wrap64 (x97 + 1))) else (some false))))) else (none)) else (none)) else ((retargetlaw01_op.f k 12 x7 x8 x10).bind fun t635 => (some (decide (t635 ≤ x8))))
end
def retargetlaw01_BitsShifts.f (k : Nat) (a0 : Int) (a1 : Int) (a2 : Int) : Option (Bool) := (retargetlaw01_cut.f a0 a1).bind fun bt616 => ((retargetlaw01_cut.f a0 a2).bind fun bt618 => ((retargetlaw01_alive.f k).bind fun t620 => (if t620 = true then ((retargetlaw01_op.f k 18 bt616.1 bt616.2 0).bind fun t621 => (if t621 = 1 then ((bits_Mask.f bt616.1).bind fun t622 => (retargetlaw01_BitsShifts.j0 k bt616.1 bt616.2 bt618.2 t622)) else (retargetlaw01_BitsShifts.j0 k bt616.1 bt616.2 bt618.2 0))) else (some false))))
theorem retargetlaw01_BitsShifts.mono_l : ∀ k, (∀ y0 y1 y2 y3, LeO (retargetlaw01_BitsShifts.j0 k y0 y1 y2 y3) (retargetlaw01_BitsShifts.j0 (k + 1) y0 y1 y2 y3)) ∧ (∀ y0 y1 y2 y3, LeO (retargetlaw01_BitsShifts.j1 k y0 y1 y2 y3) (retargetlaw01_BitsShifts.j1 (k + 1) y0 y1 y2 y3)) ∧ (∀ y0 y1 y2 y3 y4 y5, LeO (retargetlaw01_BitsShifts.l0 k y0 y1 y2 y3 y4 y5) (retargetlaw01_BitsShifts.l0 (k + 1) y0 y1 y2 y3 y4 y5))
  | 0 => ⟨fun _ _ _ _ r h => by simp [retargetlaw01_BitsShifts.j0] at h, fun _ _ _ _ r h => by simp [retargetlaw01_BitsShifts.j1] at h, fun _ _ _ _ _ _ r h => by simp [retargetlaw01_BitsShifts.l0] at h⟩
  | k + 1 => by
    obtain ⟨ih0, ih1, ih2⟩ := retargetlaw01_BitsShifts.mono_l k
    refine ⟨?_, ?_, ?_⟩
    · intro y0 y1 y2 y3
      unfold retargetlaw01_BitsShifts.j0
      repeat' first
      | (with_reducible exact ih0 _ _ _ _)
      | (with_reducible exact ih1 _ _ _ _)
      | (with_reducible exact ih2 _ _ _ _ _ _)
      | (with_reducible exact retargetlaw01_alive.mono _)
      | (with_reducible exact retargetlaw01_op.mono _ _ _ _ _)
      | (with_reducible exact LeO.refl _)
      | (with_reducible exact LeO.none _)
      | (with_reducible refine LeO.ite ?_ ?_)
      | (with_reducible refine LeO.bind ?_ (fun _ => ?_))
      | exact ih0 _ _ _ _
      | exact ih1 _ _ _ _
      | exact ih2 _ _ _ _ _ _
      | exact retargetlaw01_alive.mono _
      | exact retargetlaw01_op.mono _ _ _ _ _
      | exact LeO.none _
      | refine LeO.ite ?_ ?_
      | refine LeO.bind ?_ (fun _ => ?_)
    · intro y0 y1 y2 y3
      unfold retargetlaw01_BitsShifts.j1
      repeat' first
      | (with_reducible exact ih0 _ _ _ _)
      | (with_reducible exact ih1 _ _ _ _)
      | (with_reducible exact ih2 _ _ _ _ _ _)
      | (with_reducible exact retargetlaw01_alive.mono _)
      | (with_reducible exact retargetlaw01_op.mono _ _ _ _ _)
      | (with_reducible exact LeO.refl _)
      | (with_reducible exact LeO.none _)
      | (with_reducible refine LeO.ite ?_ ?_)
      | (with_reducible refine LeO.bind ?_ (fun _ => ?_))
      | exact ih0 _ _ _ _
      | exact ih1 _ _ _ _
      | exact ih2 _ _ _ _ _ _
      | exact retargetlaw01_alive.mono _
      | exact retargetlaw01_op.mono _ _ _ _ _
      | exact LeO.none _
      | refine LeO.ite ?_ ?_
      | refine LeO.bind ?_ (fun _ => ?_)
    · intro y0 y1 y2 y3 y4 y5
      unfold retargetlaw01_BitsShifts.l0
      repeat' first
      | (with_reducible exact ih0 _ _ _ _)
      | (with_reducible exact ih1 _ _ _ _)
      | (with_reducible exact ih2 _ _ _ _ _ _)
      | (with_reducible exact retargetlaw01_alive.mono _)
      | (with_reducible exact retargetlaw01_op.mono _ _ _ _ _)
      | (with_reducible exact LeO.refl _)
      | (with_reducible exact LeO.none _)
      | (with_reducible refine LeO.ite ?_ ?_)
      | (with_reducible refine LeO.bind ?_ (fun _ => ?_))
      | exact ih0 _ _ _ _
      | exact ih1 _ _ _ _
      | exact ih2 _ _ _ _ _ _
      | exact retargetlaw01_alive.mono _
      | exact retargetlaw01_op.mono _ _ _ _ _
      | exact LeO.none _
      | refine LeO.ite ?_ ?_
      | refine LeO.bind ?_ (fun _ => ?_)
theorem retargetlaw01_BitsShifts.mono : ∀ a0 a1 a2 k, LeO (retargetlaw01_BitsShifts.f k a0 a1 a2) (retargetlaw01_BitsShifts.f (k + 1) a0 a1 a2) := by
  intro a0 a1 a2 k
  obtain ⟨ih0, ih1, ih2⟩ := retargetlaw01_BitsShifts.mono_l k
  unfold retargetlaw01_BitsShifts.f
  repeat' first
      | (with_reducible exact ih0 _ _ _ _)
      | (with_reducible exact ih1 _ _ _ _)
      | (with_reducible exact ih2 _ _ _ _ _ _)
      | (with_reducible exact retargetlaw01_alive.mono _)
      | (with_reducible exact retargetlaw01_op.mono _ _ _ _ _)
      | (with_reducible exact LeO.refl _)
      | (with_reducible exact LeO.none _)
      | (with_reducible refine LeO.ite ?_ ?_)
      | (with_reducible refine LeO.bind ?_ (fun _ => ?_))
      | exact ih0 _ _ _ _
      | exact ih1 _ _ _ _
      | exact ih2 _ _ _ _ _ _
      | exact retargetlaw01_alive.mono _
      | exact retargetlaw01_op.mono _ _ _ _ _
      | exact LeO.none _
      | refine LeO.ite ?_ ?_
      | refine LeO.bind ?_ (fun _ => ?_)
set_option maxHeartbeats 8000000 in
set_option maxRecDepth 100000 in
theorem retargetlaw01_BitsShifts.calls (k : Nat) (a0 : Int) (a1 : Int) (a2 : Int) (r : Bool) (w : World) (h : retargetlaw01_BitsShifts.f k a0 a1 a2 = some r) :
    Calls Try.prog 9 #[.int .u8 a0, .int .u64 a1, .int .u64 a2] w fun e w' => e = .returned (.bool r) ∧ Below w.heap.size w w' := by
  have HB := Aside0.mk (Below.refl w.heap.size w)
  have H : ((retargetlaw01_cut.f a0 a1).bind fun bt616 => ((retargetlaw01_cut.f a0 a2).bind fun bt618 => ((retargetlaw01_alive.f k).bind fun t620 => (if t620 = true then ((retargetlaw01_op.f k 18 bt616.1 bt616.2 0).bind fun t621 => (if t621 = 1 then ((bits_Mask.f bt616.1).bind fun t622 => (retargetlaw01_BitsShifts.j0 k bt616.1 bt616.2 bt618.2 t622)) else (retargetlaw01_BitsShifts.j0 k bt616.1 bt616.2 bt618.2 0))) else (some false))))) = some r := h
  clear h
  replace H := Option.bind_eq_some_iff.mp H
  obtain ⟨⟨t616, t617⟩, A40, H⟩ := H
  replace H : ((retargetlaw01_cut.f a0 a2).bind fun bt618 => ((retargetlaw01_alive.f k).bind fun t620 => (if t620 = true then ((retargetlaw01_op.f k 18 t616 t617 0).bind fun t621 => (if t621 = 1 then ((bits_Mask.f t616).bind fun t622 => (retargetlaw01_BitsShifts.j0 k t616 t617 bt618.2 t622)) else (retargetlaw01_BitsShifts.j0 k t616 t617 bt618.2 0))) else (some false)))) = some r := H
  have A4 := Aside0.mk A40
  clear A40
  replace H := Option.bind_eq_some_iff.mp H
  obtain ⟨⟨t618, t619⟩, A50, H⟩ := H
  replace H : ((retargetlaw01_alive.f k).bind fun t620 => (if t620 = true then ((retargetlaw01_op.f k 18 t616 t617 0).bind fun t621 => (if t621 = 1 then ((bits_Mask.f t616).bind fun t622 => (retargetlaw01_BitsShifts.j0 k t616 t617 t619 t622)) else (retargetlaw01_BitsShifts.j0 k t616 t617 t619 0))) else (some false))) = some r := H
  have A5 := Aside0.mk A50
  clear A50
  replace H := Option.bind_eq_some_iff.mp H
  obtain ⟨t620, A60, H⟩ := H
  replace H : (if t620 = true then ((retargetlaw01_op.f k 18 t616 t617 0).bind fun t621 => (if t621 = 1 then ((bits_Mask.f t616).bind fun t622 => (retargetlaw01_BitsShifts.j0 k t616 t617 t619 t622)) else (retargetlaw01_BitsShifts.j0 k t616 t617 t619 0))) else (some false)) = some r := H
  have A6 := Aside0.mk A60
  clear A60
  by_cases c7 : t620 = true
  · subst c7
    have H1 : ((retargetlaw01_op.f k 18 t616 t617 0).bind fun t621 => (if t621 = 1 then ((bits_Mask.f t616).bind fun t622 => (retargetlaw01_BitsShifts.j0 k t616 t617 t619 t622)) else (retargetlaw01_BitsShifts.j0 k t616 t617 t619 0))) = some r := by rw [if_pos rfl] at H; exact H
    clear H
    have H := H1
    clear H1
    replace H := Option.bind_eq_some_iff.mp H
    obtain ⟨t621, A80, H⟩ := H
    replace H : (if t621 = 1 then ((bits_Mask.f t616).bind fun t622 => (retargetlaw01_BitsShifts.j0 k t616 t617 t619 t622)) else (retargetlaw01_BitsShifts.j0 k t616 t617 t619 0)) = some r := H
    have A8 := Aside0.mk A80
    clear A80
    have HC9 := Aside0.mk H
    clear H
    go_enter Try.func9, Try.ntmps9
    go_upto_if 31 with (first | ((with_reducible refine gate_callee (f := 54) rfl ?_); refine goesL_ (some 17) rfl rfl Try.func54 (by kernel_rfl) rfl #[.int .u8 a0, .int .u64 a1] rfl (by (try simp only [List.map_toArray, List.map_cons, List.map_nil]); first | done | rfl | (simp only [List.length_drop, List.length_take]; rfl)) ?_; (with_reducible refine (retargetlaw01_cut.calls a0 a1 t616 t617 _ A4.out).mono ?_); rintro e w' ⟨rfl, ⟨nd, rfl⟩⟩; refine ⟨_, rfl, ?_⟩) | ((with_reducible refine gate_callee (f := 54) rfl ?_); refine goesL_ (some 23) rfl rfl Try.func54 (by kernel_rfl) rfl #[.int .u8 a0, .int .u64 a2] rfl (by (try simp only [List.map_toArray, List.map_cons, List.map_nil]); first | done | rfl | (simp only [List.length_drop, List.length_take]; rfl)) ?_; (with_reducible refine (retargetlaw01_cut.calls a0 a2 t618 t619 _ A5.out).mono ?_); rintro e w' ⟨rfl, ⟨nd, rfl⟩⟩; refine ⟨_, rfl, ?_⟩) | ((with_reducible refine gate_callee (f := 56) rfl ?_); refine goesL_ (some 26) rfl rfl Try.func56 (by kernel_rfl) rfl #[] rfl (by (try simp only [List.map_toArray, List.map_cons, List.map_nil]); first | done | rfl | (simp only [List.length_drop, List.length_take]; rfl)) ?_; (with_reducible refine (retargetlaw01_alive.calls k  true _ A6.out).mono ?_); rintro e w10 ⟨rfl, hb⟩; refine ⟨_, rfl, ?_⟩; have n0_ := Aside0.mk (below_step (by repeat (first | (with_reducible first | exact HB.out | apply below_alloc | apply pw_below_drewN | apply below_drew1) | exact HB.out)) hb); clear HB; have HB := n0_; clear n0_; (try clear hb); (try clear hb2); (try clear hk); (try clear hi)) | ((with_reducible refine gate_callee (f := 55) rfl ?_); refine goesL_ (some 30) rfl rfl Try.func55 (by kernel_rfl) rfl #[.int .u8 18, .int .i64 t616, .int .u64 t617, .int .u64 0] rfl (by (try simp only [List.map_toArray, List.map_cons, List.map_nil]); first | done | rfl | (simp only [List.length_drop, List.length_take]; rfl)) ?_; (with_reducible refine (retargetlaw01_op.calls k 18 t616 t617 0 t621 _ A8.out).mono ?_); rintro e w11 ⟨rfl, hb⟩; refine ⟨_, rfl, ?_⟩; have n0_ := Aside0.mk (below_step (by repeat (first | (with_reducible first | exact HB.out | apply below_alloc | apply pw_below_drewN | apply below_drew1) | exact HB.out)) hb); clear HB; have HB := n0_; clear n0_; (try clear hb); (try clear hb2); (try clear hk); (try clear hi)))
    (try simp only [Act.put, List.setIfInBounds_toArray, List.set_cons_zero, List.set_cons_succ])
    go_cut [11] (fun v11 wc => ∃ (kq : Nat) (x11_8 : Int), v11 = .int .u64 x11_8 ∧ Aside0 (retargetlaw01_BitsShifts.j0 kq t616 t617 t619 x11_8 = some r) ∧ Aside0 (kq ≤ k) ∧ Aside0 (Below w.heap.size w wc))
    case first =>
      have H := HC9.out
      clear HC9
      by_cases c12 : t621 = 1
      · rw [if_pos c12] at H
        have c12b0 : (t621 == 1) = true := beq_iff_eq.mpr c12
        have c12b1 : (t621 != 1) = false := bne_eq_false_iff_eq.mpr c12
        clear c12
        (first | rw [c12b0] | (simp only [i64_w, i32_w]; rw [c12b0]) | skip)
        replace H := Option.bind_eq_some_iff.mp H
        obtain ⟨t622, A130, H⟩ := H
        replace H : (retargetlaw01_BitsShifts.j0 k t616 t617 t619 t622) = some r := H
        have A13 := Aside0.mk A130
        clear A130
        have H' := Aside0.mk H
        clear H
        go_wp2_with (first | ((with_reducible refine gate_callee (f := 37) rfl ?_); refine goesL_ (some 33) rfl rfl Try.func37 (by kernel_rfl) rfl #[.int .i64 t616] rfl (by (try simp only [List.map_toArray, List.map_cons, List.map_nil]); first | done | rfl | (simp only [List.length_drop, List.length_take]; rfl)) ?_; (with_reducible refine (bits_Mask.calls t616 t622 _ A13.out).mono ?_); rintro e w' ⟨rfl, ⟨nd, rfl⟩⟩; refine ⟨_, rfl, ?_⟩))
        go_meet
        case rel => exact ⟨_, (t622), (by first | rfl | (simp; done) | (simp [*]; done)), H', ⟨by first | omega | exact Nat.le_refl _⟩, ⟨by repeat (first | (with_reducible first | exact HB.out | apply below_alloc | apply pw_below_drewN | apply below_drew1) | exact HB.out)⟩⟩
      · rw [if_neg c12] at H
        have c12b0 : (t621 == 1) = false := beq_eq_false_iff_ne.mpr c12
        have c12b1 : (t621 != 1) = true := bne_iff_ne.mpr c12
        (first | rw [c12b0] | (simp only [i64_w, i32_w]; rw [c12b0]) | skip)
        have H' := Aside0.mk H
        clear H
        go_wp2
        go_meet
        case rel => exact ⟨_, (0), (by first | rfl | (simp; done) | (simp [*]; done)), H', ⟨by first | omega | exact Nat.le_refl _⟩, ⟨by repeat (first | (with_reducible first | exact HB.out | apply below_alloc | apply pw_below_drewN | apply below_drew1) | exact HB.out)⟩⟩
    case rest =>
      clear HC9
      try clear c1
      try clear p2
      try clear c3
      try clear c5
      try clear c7
      try clear c9
      try clear c12
      try clear c12b0
      try clear c12b1
      obtain ⟨kq, x11_8, rfl, HA, HJ8, HB⟩ := hcut
      cases kq with
      | zero => exact absurd HA.out (by simp [retargetlaw01_BitsShifts.j0])
      | succ kj8 =>
        have H := HA.out
        clear HA
        simp only [retargetlaw01_BitsShifts.j0] at H
        by_cases c14 : t619 ≥ (IntKind.u64.wrap (t616))
        · rw [if_pos c14] at H
          have c14b0 : decide ((IntKind.u64.wrap (t616)) ≤ t619) = true := decide_eq_true c14
          clear c14
          replace H := Option.bind_eq_some_iff.mp H
          obtain ⟨t623, A150, H⟩ := H
          replace H : (if t623 = 0 then ((retargetlaw01_op.f kj8 12 t616 t617 t619).bind fun t624 => (if t624 = 0 then ((retargetlaw01_op.f kj8 13 t616 t617 t619).bind fun t625 => (some (t625 == x11_8))) else (some false))) else (some false)) = some r := H
          have A15 := Aside0.mk A150
          clear A150
          by_cases c16 : t623 = 0
          · rw [if_pos c16] at H
            have c16b0 : (t623 == 0) = true := beq_iff_eq.mpr c16
            have c16b1 : (t623 != 0) = false := bne_eq_false_iff_eq.mpr c16
            clear c16
            replace H := Option.bind_eq_some_iff.mp H
            obtain ⟨t624, A170, H⟩ := H
            replace H : (if t624 = 0 then ((retargetlaw01_op.f kj8 13 t616 t617 t619).bind fun t625 => (some (t625 == x11_8))) else (some false)) = some r := H
            have A17 := Aside0.mk A170
            clear A170
            by_cases c18 : t624 = 0
            · rw [if_pos c18] at H
              have c18b0 : (t624 == 0) = true := beq_iff_eq.mpr c18
              have c18b1 : (t624 != 0) = false := bne_eq_false_iff_eq.mpr c18
              clear c18
              replace H := Option.bind_eq_some_iff.mp H
              obtain ⟨t625, A190, H⟩ := H
              replace H : (some (t625 == x11_8)) = some r := H
              have A19 := Aside0.mk A190
              clear A190
              obtain rfl := Option.some.inj H
              go_wp2_with (first | ((with_reducible refine gate_callee (f := 55) rfl ?_); refine goesL_ (some 41) rfl rfl Try.func55 (by kernel_rfl) rfl #[.int .u8 11, .int .i64 t616, .int .u64 t617, .int .u64 t619] rfl (by (try simp only [List.map_toArray, List.map_cons, List.map_nil]); first | done | rfl | (simp only [List.length_drop, List.length_take]; rfl)) ?_; (with_reducible refine (retargetlaw01_op.calls kj8 11 t616 t617 t619 t623 _ A15.out).mono ?_); rintro e w20 ⟨rfl, hb⟩; refine ⟨_, rfl, ?_⟩; have n0_ := Aside0.mk (below_step (by repeat (first | (with_reducible first | exact HB.out | apply below_alloc | apply pw_below_drewN | apply below_drew1) | exact HB.out)) hb); clear HB; have HB := n0_; clear n0_; (try clear hb); (try clear hb2); (try clear hk); (try clear hi)) | (go_at_call 55; (with_reducible refine (retargetlaw01_op.calls kj8 12 t616 t617 t619 t624 _ A17.out).mono ?_); rintro e w21 ⟨rfl, hb⟩; have n0_ := Aside0.mk (below_step (by repeat (first | (with_reducible first | exact HB.out | apply below_alloc | apply pw_below_drewN | apply below_drew1) | exact HB.out)) hb); clear HB; have HB := n0_; clear n0_; (try clear hb); (try clear hb2); (try clear hk); (try clear hi)) | (go_at_call 55; (with_reducible refine (retargetlaw01_op.calls kj8 13 t616 t617 t619 t625 _ A19.out).mono ?_); rintro e w22 ⟨rfl, hb⟩; have n0_ := Aside0.mk (below_step (by repeat (first | (with_reducible first | exact HB.out | apply below_alloc | apply pw_below_drewN | apply below_drew1) | exact HB.out)) hb); clear HB; have HB := n0_; clear n0_; (try clear hb); (try clear hb2); (try clear hk); (try clear hi)))
              go_ret
              exact ⟨by first | rfl | (simp [errW_none, errW_some] <;> rfl) | (simp [*, errW_none, errW_some] <;> rfl), by repeat (first | (with_reducible first | exact HB.out | apply below_alloc | apply pw_below_drewN | apply below_drew1) | exact HB.out)⟩
            · rw [if_neg c18] at H
              have c18b0 : (t624 == 0) = false := beq_eq_false_iff_ne.mpr c18
              have c18b1 : (t624 != 0) = true := bne_iff_ne.mpr c18
              obtain rfl := Option.some.inj H
              go_wp2_with (first | ((with_reducible refine gate_callee (f := 55) rfl ?_); refine goesL_ (some 41) rfl rfl Try.func55 (by kernel_rfl) rfl #[.int .u8 11, .int .i64 t616, .int .u64 t617, .int .u64 t619] rfl (by (try simp only [List.map_toArray, List.map_cons, List.map_nil]); first | done | rfl | (simp only [List.length_drop, List.length_take]; rfl)) ?_; (with_reducible refine (retargetlaw01_op.calls kj8 11 t616 t617 t619 t623 _ A15.out).mono ?_); rintro e w23 ⟨rfl, hb⟩; refine ⟨_, rfl, ?_⟩; have n0_ := Aside0.mk (below_step (by repeat (first | (with_reducible first | exact HB.out | apply below_alloc | apply pw_below_drewN | apply below_drew1) | exact HB.out)) hb); clear HB; have HB := n0_; clear n0_; (try clear hb); (try clear hb2); (try clear hk); (try clear hi)) | (go_at_call 55; (with_reducible refine (retargetlaw01_op.calls kj8 12 t616 t617 t619 t624 _ A17.out).mono ?_); rintro e w24 ⟨rfl, hb⟩; have n0_ := Aside0.mk (below_step (by repeat (first | (with_reducible first | exact HB.out | apply below_alloc | apply pw_below_drewN | apply below_drew1) | exact HB.out)) hb); clear HB; have HB := n0_; clear n0_; (try clear hb); (try clear hb2); (try clear hk); (try clear hi)))
              go_ret
              exact ⟨by first | rfl | (simp [errW_none, errW_some] <;> rfl) | (simp [*, errW_none, errW_some] <;> rfl), by repeat (first | (with_reducible first | exact HB.out | apply below_alloc | apply pw_below_drewN | apply below_drew1) | exact HB.out)⟩
          · rw [if_neg c16] at H
            have c16b0 : (t623 == 0) = false := beq_eq_false_iff_ne.mpr c16
            have c16b1 : (t623 != 0) = true := bne_iff_ne.mpr c16
            obtain rfl := Option.some.inj H
            go_wp2_with (first | ((with_reducible refine gate_callee (f := 55) rfl ?_); refine goesL_ (some 41) rfl rfl Try.func55 (by kernel_rfl) rfl #[.int .u8 11, .int .i64 t616, .int .u64 t617, .int .u64 t619] rfl (by (try simp only [List.map_toArray, List.map_cons, List.map_nil]); first | done | rfl | (simp only [List.length_drop, List.length_take]; rfl)) ?_; (with_reducible refine (retargetlaw01_op.calls kj8 11 t616 t617 t619 t623 _ A15.out).mono ?_); rintro e w25 ⟨rfl, hb⟩; refine ⟨_, rfl, ?_⟩; have n0_ := Aside0.mk (below_step (by repeat (first | (with_reducible first | exact HB.out | apply below_alloc | apply pw_below_drewN | apply below_drew1) | exact HB.out)) hb); clear HB; have HB := n0_; clear n0_; (try clear hb); (try clear hb2); (try clear hk); (try clear hi)))
            go_ret
            exact ⟨by first | rfl | (simp [errW_none, errW_some] <;> rfl) | (simp [*, errW_none, errW_some] <;> rfl), by repeat (first | (with_reducible first | exact HB.out | apply below_alloc | apply pw_below_drewN | apply below_drew1) | exact HB.out)⟩
        · rw [if_neg c14] at H
          have c14b0 : decide ((IntKind.u64.wrap (t616)) ≤ t619) = false := decide_eq_false c14
          clear c14
          have HC26 := Aside0.mk H
          clear H
          go_upto_region 10 with (fail)
          go_cut [90] (fun v90 wc => ∃ (kq : Nat) (x90_25 : Bool), v90 = .bool x90_25 ∧ Aside0 (retargetlaw01_BitsShifts.j1 kq t616 t617 t619 x90_25 = some r) ∧ Aside0 (kq ≤ kj8) ∧ Aside0 (Below w.heap.size w wc))
          case first =>
            have H := HC26.out
            clear HC26
            replace H := Option.bind_eq_some_iff.mp H
            obtain ⟨t626, A270, H⟩ := H
            replace H : (if t626 = t617 then ((retargetlaw01_op.f kj8 12 t616 t617 0).bind fun t627 => (if t627 = t617 then ((retargetlaw01_op.f kj8 13 t616 t617 0).bind fun t628 => (if t628 = t617 then (if t616 > 1 then ((retargetlaw01_op.f kj8 11 t616 t617 1).bind fun t629 => ((retargetlaw01_op.f kj8 5 t616 t617 t617).bind fun t630 => (retargetlaw01_BitsShifts.j1 kj8 t616 t617 t619 (t629 != t630)))) else (retargetlaw01_BitsShifts.j1 kj8 t616 t617 t619 false)) else (retargetlaw01_BitsShifts.j1 kj8 t616 t617 t619 true))) else (retargetlaw01_BitsShifts.j1 kj8 t616 t617 t619 true))) else (retargetlaw01_BitsShifts.j1 kj8 t616 t617 t619 true)) = some r := H
            have A27 := Aside0.mk A270
            clear A270
            by_cases c28 : t626 = t617
            · rw [if_pos c28] at H
              have c28b0 : (t626 == t617) = true := beq_iff_eq.mpr c28
              have c28b1 : (t626 != t617) = false := bne_eq_false_iff_eq.mpr c28
              clear c28
              (first | rw [c28b0] | (simp only [i64_w, i32_w]; rw [c28b0]) | skip)
              replace H := Option.bind_eq_some_iff.mp H
              obtain ⟨t627, A290, H⟩ := H
              replace H : (if t627 = t617 then ((retargetlaw01_op.f kj8 13 t616 t617 0).bind fun t628 => (if t628 = t617 then (if t616 > 1 then ((retargetlaw01_op.f kj8 11 t616 t617 1).bind fun t629 => ((retargetlaw01_op.f kj8 5 t616 t617 t617).bind fun t630 => (retargetlaw01_BitsShifts.j1 kj8 t616 t617 t619 (t629 != t630)))) else (retargetlaw01_BitsShifts.j1 kj8 t616 t617 t619 false)) else (retargetlaw01_BitsShifts.j1 kj8 t616 t617 t619 true))) else (retargetlaw01_BitsShifts.j1 kj8 t616 t617 t619 true)) = some r := H
              have A29 := Aside0.mk A290
              clear A290
              by_cases c30 : t627 = t617
              · rw [if_pos c30] at H
                have c30b0 : (t627 == t617) = true := beq_iff_eq.mpr c30
                have c30b1 : (t627 != t617) = false := bne_eq_false_iff_eq.mpr c30
                clear c30
                replace H := Option.bind_eq_some_iff.mp H
                obtain ⟨t628, A310, H⟩ := H
                replace H : (if t628 = t617 then (if t616 > 1 then ((retargetlaw01_op.f kj8 11 t616 t617 1).bind fun t629 => ((retargetlaw01_op.f kj8 5 t616 t617 t617).bind fun t630 => (retargetlaw01_BitsShifts.j1 kj8 t616 t617 t619 (t629 != t630)))) else (retargetlaw01_BitsShifts.j1 kj8 t616 t617 t619 false)) else (retargetlaw01_BitsShifts.j1 kj8 t616 t617 t619 true)) = some r := H
                have A31 := Aside0.mk A310
                clear A310
                by_cases c32 : t628 = t617
                · rw [if_pos c32] at H
                  have c32b0 : (t628 == t617) = true := beq_iff_eq.mpr c32
                  have c32b1 : (t628 != t617) = false := bne_eq_false_iff_eq.mpr c32
                  clear c32
                  by_cases c33 : t616 > 1
                  · rw [if_pos c33] at H
                    have c33b0 : decide (1 < t616) = true := decide_eq_true c33
                    clear c33
                    replace H := Option.bind_eq_some_iff.mp H
                    obtain ⟨t629, A340, H⟩ := H
                    replace H : ((retargetlaw01_op.f kj8 5 t616 t617 t617).bind fun t630 => (retargetlaw01_BitsShifts.j1 kj8 t616 t617 t619 (t629 != t630))) = some r := H
                    have A34 := Aside0.mk A340
                    clear A340
                    replace H := Option.bind_eq_some_iff.mp H
                    obtain ⟨t630, A350, H⟩ := H
                    replace H : (retargetlaw01_BitsShifts.j1 kj8 t616 t617 t619 (t629 != t630)) = some r := H
                    have A35 := Aside0.mk A350
                    clear A350
                    have H' := Aside0.mk H
                    clear H
                    go_wp2_with (first | ((with_reducible refine gate_callee (f := 55) rfl ?_); refine goesL_ (some 60) rfl rfl Try.func55 (by kernel_rfl) rfl #[.int .u8 11, .int .i64 t616, .int .u64 t617, .int .u64 0] rfl (by (try simp only [List.map_toArray, List.map_cons, List.map_nil]); first | done | rfl | (simp only [List.length_drop, List.length_take]; rfl)) ?_; (with_reducible refine (retargetlaw01_op.calls kj8 11 t616 t617 0 t626 _ A27.out).mono ?_); rintro e w36 ⟨rfl, hb⟩; refine ⟨_, rfl, ?_⟩; have n0_ := Aside0.mk (below_step (by repeat (first | (with_reducible first | exact HB.out | apply below_alloc | apply pw_below_drewN | apply below_drew1) | exact HB.out)) hb); clear HB; have HB := n0_; clear n0_; (try clear hb); (try clear hb2); (try clear hk); (try clear hi)) | (go_at_call 55; (with_reducible refine (retargetlaw01_op.calls kj8 12 t616 t617 0 t627 _ A29.out).mono ?_); rintro e w37 ⟨rfl, hb⟩; have n0_ := Aside0.mk (below_step (by repeat (first | (with_reducible first | exact HB.out | apply below_alloc | apply pw_below_drewN | apply below_drew1) | exact HB.out)) hb); clear HB; have HB := n0_; clear n0_; (try clear hb); (try clear hb2); (try clear hk); (try clear hi)) | (go_at_call 55; (with_reducible refine (retargetlaw01_op.calls kj8 13 t616 t617 0 t628 _ A31.out).mono ?_); rintro e w38 ⟨rfl, hb⟩; have n0_ := Aside0.mk (below_step (by repeat (first | (with_reducible first | exact HB.out | apply below_alloc | apply pw_below_drewN | apply below_drew1) | exact HB.out)) hb); clear HB; have HB := n0_; clear n0_; (try clear hb); (try clear hb2); (try clear hk); (try clear hi)) | (go_at_call 55; (with_reducible refine (retargetlaw01_op.calls kj8 11 t616 t617 1 t629 _ A34.out).mono ?_); rintro e w39 ⟨rfl, hb⟩; have n0_ := Aside0.mk (below_step (by repeat (first | (with_reducible first | exact HB.out | apply below_alloc | apply pw_below_drewN | apply below_drew1) | exact HB.out)) hb); clear HB; have HB := n0_; clear n0_; (try clear hb); (try clear hb2); (try clear hk); (try clear hi)) | (go_at_call 55; (with_reducible refine (retargetlaw01_op.calls kj8 5 t616 t617 t617 t630 _ A35.out).mono ?_); rintro e w40 ⟨rfl, hb⟩; have n0_ := Aside0.mk (below_step (by repeat (first | (with_reducible first | exact HB.out | apply below_alloc | apply pw_below_drewN | apply below_drew1) | exact HB.out)) hb); clear HB; have HB := n0_; clear n0_; (try clear hb); (try clear hb2); (try clear hk); (try clear hi)))
                    go_meet
                    case rel => exact ⟨_, ((t629 != t630)), (by first | rfl | (simp; done) | (simp [*]; done)), H', ⟨by have := HJ8.out; first | omega | exact Nat.le_refl _⟩, ⟨by repeat (first | (with_reducible first | exact HB.out | apply below_alloc | apply pw_below_drewN | apply below_drew1) | exact HB.out)⟩⟩
                  · rw [if_neg c33] at H
                    have c33b0 : decide (1 < t616) = false := decide_eq_false c33
                    clear c33
                    have H' := Aside0.mk H
                    clear H
                    go_wp2_with (first | ((with_reducible refine gate_callee (f := 55) rfl ?_); refine goesL_ (some 60) rfl rfl Try.func55 (by kernel_rfl) rfl #[.int .u8 11, .int .i64 t616, .int .u64 t617, .int .u64 0] rfl (by (try simp only [List.map_toArray, List.map_cons, List.map_nil]); first | done | rfl | (simp only [List.length_drop, List.length_take]; rfl)) ?_; (with_reducible refine (retargetlaw01_op.calls kj8 11 t616 t617 0 t626 _ A27.out).mono ?_); rintro e w41 ⟨rfl, hb⟩; refine ⟨_, rfl, ?_⟩; have n0_ := Aside0.mk (below_step (by repeat (first | (with_reducible first | exact HB.out | apply below_alloc | apply pw_below_drewN | apply below_drew1) | exact HB.out)) hb); clear HB; have HB := n0_; clear n0_; (try clear hb); (try clear hb2); (try clear hk); (try clear hi)) | (go_at_call 55; (with_reducible refine (retargetlaw01_op.calls kj8 12 t616 t617 0 t627 _ A29.out).mono ?_); rintro e w42 ⟨rfl, hb⟩; have n0_ := Aside0.mk (below_step (by repeat (first | (with_reducible first | exact HB.out | apply below_alloc | apply pw_below_drewN | apply below_drew1) | exact HB.out)) hb); clear HB; have HB := n0_; clear n0_; (try clear hb); (try clear hb2); (try clear hk); (try clear hi)) | (go_at_call 55; (with_reducible refine (retargetlaw01_op.calls kj8 13 t616 t617 0 t628 _ A31.out).mono ?_); rintro e w43 ⟨rfl, hb⟩; have n0_ := Aside0.mk (below_step (by repeat (first | (with_reducible first | exact HB.out | apply below_alloc | apply pw_below_drewN | apply below_drew1) | exact HB.out)) hb); clear HB; have HB := n0_; clear n0_; (try clear hb); (try clear hb2); (try clear hk); (try clear hi)))
                    go_meet
                    case rel => exact ⟨_, (false), (by first | rfl | (simp; done) | (simp [*]; done)), H', ⟨by have := HJ8.out; first | omega | exact Nat.le_refl _⟩, ⟨by repeat (first | (with_reducible first | exact HB.out | apply below_alloc | apply pw_below_drewN | apply below_drew1) | exact HB.out)⟩⟩
                · rw [if_neg c32] at H
                  have c32b0 : (t628 == t617) = false := beq_eq_false_iff_ne.mpr c32
                  have c32b1 : (t628 != t617) = true := bne_iff_ne.mpr c32
                  have H' := Aside0.mk H
                  clear H
                  go_wp2_with (first | ((with_reducible refine gate_callee (f := 55) rfl ?_); refine goesL_ (some 60) rfl rfl Try.func55 (by kernel_rfl) rfl #[.int .u8 11, .int .i64 t616, .int .u64 t617, .int .u64 0] rfl (by (try simp only [List.map_toArray, List.map_cons, List.map_nil]); first | done | rfl | (simp only [List.length_drop, List.length_take]; rfl)) ?_; (with_reducible refine (retargetlaw01_op.calls kj8 11 t616 t617 0 t626 _ A27.out).mono ?_); rintro e w44 ⟨rfl, hb⟩; refine ⟨_, rfl, ?_⟩; have n0_ := Aside0.mk (below_step (by repeat (first | (with_reducible first | exact HB.out | apply below_alloc | apply pw_below_drewN | apply below_drew1) | exact HB.out)) hb); clear HB; have HB := n0_; clear n0_; (try clear hb); (try clear hb2); (try clear hk); (try clear hi)) | (go_at_call 55; (with_reducible refine (retargetlaw01_op.calls kj8 12 t616 t617 0 t627 _ A29.out).mono ?_); rintro e w45 ⟨rfl, hb⟩; have n0_ := Aside0.mk (below_step (by repeat (first | (with_reducible first | exact HB.out | apply below_alloc | apply pw_below_drewN | apply below_drew1) | exact HB.out)) hb); clear HB; have HB := n0_; clear n0_; (try clear hb); (try clear hb2); (try clear hk); (try clear hi)) | (go_at_call 55; (with_reducible refine (retargetlaw01_op.calls kj8 13 t616 t617 0 t628 _ A31.out).mono ?_); rintro e w46 ⟨rfl, hb⟩; have n0_ := Aside0.mk (below_step (by repeat (first | (with_reducible first | exact HB.out | apply below_alloc | apply pw_below_drewN | apply below_drew1) | exact HB.out)) hb); clear HB; have HB := n0_; clear n0_; (try clear hb); (try clear hb2); (try clear hk); (try clear hi)))
                  go_meet
                  case rel => exact ⟨_, (true), (by first | rfl | (simp; done) | (simp [*]; done)), H', ⟨by have := HJ8.out; first | omega | exact Nat.le_refl _⟩, ⟨by repeat (first | (with_reducible first | exact HB.out | apply below_alloc | apply pw_below_drewN | apply below_drew1) | exact HB.out)⟩⟩
              · rw [if_neg c30] at H
                have c30b0 : (t627 == t617) = false := beq_eq_false_iff_ne.mpr c30
                have c30b1 : (t627 != t617) = true := bne_iff_ne.mpr c30
                have H' := Aside0.mk H
                clear H
                go_wp2_with (first | ((with_reducible refine gate_callee (f := 55) rfl ?_); refine goesL_ (some 60) rfl rfl Try.func55 (by kernel_rfl) rfl #[.int .u8 11, .int .i64 t616, .int .u64 t617, .int .u64 0] rfl (by (try simp only [List.map_toArray, List.map_cons, List.map_nil]); first | done | rfl | (simp only [List.length_drop, List.length_take]; rfl)) ?_; (with_reducible refine (retargetlaw01_op.calls kj8 11 t616 t617 0 t626 _ A27.out).mono ?_); rintro e w47 ⟨rfl, hb⟩; refine ⟨_, rfl, ?_⟩; have n0_ := Aside0.mk (below_step (by repeat (first | (with_reducible first | exact HB.out | apply below_alloc | apply pw_below_drewN | apply below_drew1) | exact HB.out)) hb); clear HB; have HB := n0_; clear n0_; (try clear hb); (try clear hb2); (try clear hk); (try clear hi)) | (go_at_call 55; (with_reducible refine (retargetlaw01_op.calls kj8 12 t616 t617 0 t627 _ A29.out).mono ?_); rintro e w48 ⟨rfl, hb⟩; have n0_ := Aside0.mk (below_step (by repeat (first | (with_reducible first | exact HB.out | apply below_alloc | apply pw_below_drewN | apply below_drew1) | exact HB.out)) hb); clear HB; have HB := n0_; clear n0_; (try clear hb); (try clear hb2); (try clear hk); (try clear hi)))
                go_meet
                case rel => exact ⟨_, (true), (by first | rfl | (simp; done) | (simp [*]; done)), H', ⟨by have := HJ8.out; first | omega | exact Nat.le_refl _⟩, ⟨by repeat (first | (with_reducible first | exact HB.out | apply below_alloc | apply pw_below_drewN | apply below_drew1) | exact HB.out)⟩⟩
            · rw [if_neg c28] at H
              have c28b0 : (t626 == t617) = false := beq_eq_false_iff_ne.mpr c28
              have c28b1 : (t626 != t617) = true := bne_iff_ne.mpr c28
              (first | rw [c28b0] | (simp only [i64_w, i32_w]; rw [c28b0]) | skip)
              have H' := Aside0.mk H
              clear H
              go_wp2_with (first | ((with_reducible refine gate_callee (f := 55) rfl ?_); refine goesL_ (some 60) rfl rfl Try.func55 (by kernel_rfl) rfl #[.int .u8 11, .int .i64 t616, .int .u64 t617, .int .u64 0] rfl (by (try simp only [List.map_toArray, List.map_cons, List.map_nil]); first | done | rfl | (simp only [List.length_drop, List.length_take]; rfl)) ?_; (with_reducible refine (retargetlaw01_op.calls kj8 11 t616 t617 0 t626 _ A27.out).mono ?_); rintro e w49 ⟨rfl, hb⟩; refine ⟨_, rfl, ?_⟩; have n0_ := Aside0.mk (below_step (by repeat (first | (with_reducible first | exact HB.out | apply below_alloc | apply pw_below_drewN | apply below_drew1) | exact HB.out)) hb); clear HB; have HB := n0_; clear n0_; (try clear hb); (try clear hb2); (try clear hk); (try clear hi)))
              go_meet
              case rel => exact ⟨_, (true), (by first | rfl | (simp; done) | (simp [*]; done)), H', ⟨by have := HJ8.out; first | omega | exact Nat.le_refl _⟩, ⟨by repeat (first | (with_reducible first | exact HB.out | apply below_alloc | apply pw_below_drewN | apply below_drew1) | exact HB.out)⟩⟩
          case rest =>
            clear HC26
            try clear c1
            try clear c2
            try clear p2
            try clear c3
            try clear c5
            try clear c7
            try clear c9
            try clear c12
            try clear c12b0
            try clear c12b1
            try clear c14
            try clear c14b0
            try clear c16
            try clear c16b0
            try clear c16b1
            try clear c18
            try clear c18b0
            try clear c18b1
            try clear c28
            try clear c28b0
            try clear c28b1
            try clear c30
            try clear c30b0
            try clear c30b1
            try clear c32
            try clear c32b0
            try clear c32b1
            try clear c33
            try clear c33b0
            try clear c37
            try clear p2
            obtain ⟨kq, x90_25, rfl, HA, HJ25, HB⟩ := hcut
            cases kq with
            | zero => exact absurd HA.out (by simp [retargetlaw01_BitsShifts.j1])
            | succ kj25 =>
              have H := HA.out
              clear HA
              simp only [retargetlaw01_BitsShifts.j1] at H
              by_cases c50 : x90_25 = true
              · subst c50
                have H1 : (some false) = some r := by rw [if_pos rfl] at H; exact H
                clear H
                have H := H1
                clear H1
                obtain rfl := Option.some.inj H
                go_wp2
                go_ret
                exact ⟨by first | rfl | (simp [errW_none, errW_some] <;> rfl) | (simp [*, errW_none, errW_some] <;> rfl), by repeat (first | (with_reducible first | exact HB.out | apply below_alloc | apply pw_below_drewN | apply below_drew1) | exact HB.out)⟩
              · replace c50 := Bool.eq_false_iff.mpr c50
                subst c50
                have H1 : ((bits_Mask.f t616).bind fun t631 => (if t619 = t631 then (some true) else ((some (([11, 12, 13] : List Int) : List Int)).bind fun y632 => (retargetlaw01_BitsShifts.l0 kj25 t616 t617 t619 y632 (y632.length : Int) 0)))) = some r := by rw [if_neg (show ¬ (false = true) by decide)] at H; exact H
                clear H
                have H := H1
                clear H1
                replace H := Option.bind_eq_some_iff.mp H
                obtain ⟨t631, A510, H⟩ := H
                replace H : (if t619 = t631 then (some true) else ((some (([11, 12, 13] : List Int) : List Int)).bind fun y632 => (retargetlaw01_BitsShifts.l0 kj25 t616 t617 t619 y632 (y632.length : Int) 0))) = some r := H
                have A51 := Aside0.mk A510
                clear A510
                by_cases c52 : t619 = t631
                · rw [if_pos c52] at H
                  have c52b0 : (t619 == t631) = true := beq_iff_eq.mpr c52
                  have c52b1 : (t619 != t631) = false := bne_eq_false_iff_eq.mpr c52
                  clear c52
                  obtain rfl := Option.some.inj H
                  go_wp2_with (first | ((with_reducible refine gate_callee (f := 37) rfl ?_); refine goesL_ (some 93) rfl rfl Try.func37 (by kernel_rfl) rfl #[.int .i64 t616] rfl (by (try simp only [List.map_toArray, List.map_cons, List.map_nil]); first | done | rfl | (simp only [List.length_drop, List.length_take]; rfl)) ?_; (with_reducible refine (bits_Mask.calls t616 t631 _ A51.out).mono ?_); rintro e w' ⟨rfl, ⟨nd, rfl⟩⟩; refine ⟨_, rfl, ?_⟩))
                  go_ret
                  exact ⟨by first | rfl | (simp [errW_none, errW_some] <;> rfl) | (simp [*, errW_none, errW_some] <;> rfl), by repeat (first | (with_reducible first | exact HB.out | apply below_alloc | apply pw_below_drewN | apply below_drew1) | exact HB.out)⟩
                · rw [if_neg c52] at H
                  have c52b0 : (t619 == t631) = false := beq_eq_false_iff_ne.mpr c52
                  have c52b1 : (t619 != t631) = true := bne_iff_ne.mpr c52
                  obtain ⟨y632, hy632⟩ : ∃ y_ : List Int, y_ = (([11, 12, 13] : List Int)) := ⟨_, rfl⟩
                  replace H : (retargetlaw01_BitsShifts.l0 kj25 t616 t617 t619 y632 (y632.length : Int) 0) = some r := by first | (rw [hy632]; with_reducible exact H) | (have H2_ := (Option.bind_some _ _).symm.trans H; rw [hy632]; with_reducible exact H2_) | (have H2_ := (Option.bind_some _ _).symm.trans H; with_reducible exact H2_) | with_reducible exact H | (rw [hy632]; exact H) | exact H
                  have Ny632 := Aside0.mk hy632
                  clear hy632
                  have H' := Aside0.mk H
                  clear H
                  go_wp2_with (first | ((with_reducible refine gate_callee (f := 37) rfl ?_); refine goesL_ (some 93) rfl rfl Try.func37 (by kernel_rfl) rfl #[.int .i64 t616] rfl (by (try simp only [List.map_toArray, List.map_cons, List.map_nil]); first | done | rfl | (simp only [List.length_drop, List.length_take]; rfl)) ?_; (with_reducible refine (bits_Mask.calls t616 t631 _ A51.out).mono ?_); rintro e w' ⟨rfl, ⟨nd, rfl⟩⟩; refine ⟨_, rfl, ?_⟩) | ((with_reducible refine gate_dst (N := 95) rfl ?_); refine Kd.R_lit (Kd.int .u8) _ 5 ?hg (N := 95) ?hd (xs := ([11, 12, 13] : List Int)) (inner := [.int .u8 11, .int .u8 12, .int .u8 13]) (ok := fun _ => True) (okp := fun _ => True) ?hr ?hp (fun _ hk => hk) trivial (Below.refl _ _) (Nat.le_refl _) (by simp) ?_; (case hd => rfl); (case hg => rfl); (case hr => first | (go_simp; done) | (go_simp; rfl)); (case hp => exact (Reps.one (show Kd.M (Kd.int .u8) _ _ _ 11 [.int .u8 11] from rfl) (Reps.one (show Kd.M (Kd.int .u8) _ _ _ 12 [.int .u8 12] from rfl) (Reps.one (show Kd.M (Kd.int .u8) _ _ _ 13 [.int .u8 13] from rfl) (Reps.none _ _))))); intro v633 w53 ho54 hb hg_ hnew_; clear hg_ hnew_; (first | rw [← Ny632.out] at ho54 | (simp only [Int.reduceToNat] at ho54; rw [← Ny632.out] at ho54)); have n0_ := Aside0.mk (Kd.R_lower ho54 (below_size (by repeat (first | (with_reducible first | exact HB.out | apply below_alloc | apply pw_below_drewN | apply below_drew1) | exact HB.out)))); have n1_ := Aside0.mk (below_step (by repeat (first | (with_reducible first | exact HB.out | apply below_alloc | apply pw_below_drewN | apply below_drew1) | exact HB.out)) hb); clear HB; have HO634 := n0_; have HB := n1_; clear n0_ n1_; clear hb ho54; obtain ⟨Ao55, co55, eo55⟩ := Kd.R_slice HO634.out; subst eo55))
                  go_loopg [97] kj25 (fun kq v97 w' => ∃ (x97_3 : Int), v97 = .int .i64 x97_3 ∧ Aside0 (retargetlaw01_BitsShifts.l0 kq t616 t617 t619 y632 (y632.length : Int) x97_3 = some r) ∧ Aside0 (kq ≤ kj25) ∧ Aside0 (Kd.R (Kd.int .u8) 5 w' w.heap.size (fun _ => True) (.slice Ao55 y632.length co55) y632) ∧ Aside0 (Below w.heap.size w w'))
                  case atStart => exact ⟨(0), (by first | rfl | (simp; done) | (simp [*]; done)), H', ⟨Nat.le_refl _⟩, ⟨by (with_reducible repeat (first | apply Kd.R_alloc | apply Kd.R_drewN | apply Kd.R_drew)); exact HO634.out⟩, ⟨by repeat (first | (with_reducible first | exact HB.out | apply below_alloc | apply pw_below_drewN | apply below_drew1) | exact HB.out)⟩⟩
                  case round =>
                    clear H'
                    try clear c1
                    try clear c2
                    try clear p2
                    try clear c3
                    try clear c5
                    try clear c7
                    try clear c9
                    try clear c12
                    try clear c12b0
                    try clear c12b1
                    try clear c14
                    try clear c14b0
                    try clear c16
                    try clear c16b0
                    try clear c16b1
                    try clear c18
                    try clear c18b0
                    try clear c18b1
                    try clear c28
                    try clear c28b0
                    try clear c28b1
                    try clear c30
                    try clear c30b0
                    try clear c30b1
                    try clear c32
                    try clear c32b0
                    try clear c32b1
                    try clear c33
                    try clear c33b0
                    try clear c37
                    try clear c50
                    try clear c52
                    try clear c52b0
                    try clear c52b1
                    try clear c54
                    try clear c55
                    try clear p2
                    obtain ⟨x97_3, rfl, HA, HK3, HO_95, HB⟩ := hrel
                    cases gk with
                    | zero => exact absurd HA.out (by simp [retargetlaw01_BitsShifts.l0])
                    | succ k3 =>
                      have H := HA.out
                      clear HA
                      simp only [retargetlaw01_BitsShifts.l0] at H
                      by_cases c56 : x97_3 < (y632.length : Int)
                      · rw [if_pos c56] at H
                        have c56b0 : decide (x97_3 < (y632.length : Int)) = true := decide_eq_true c56
                        clear c56
                        by_cases c57 : 0 ≤ x97_3
                        · rw [if_pos c57] at H
                          have c57b0 : decide (0 ≤ x97_3) = true := decide_eq_true c57
                          clear c57
                          by_cases c58 : x97_3 < (y632.length : Int)
                          · rw [if_pos c58] at H
                            have c58b0 : decide (x97_3 < (y632.length : Int)) = true := decide_eq_true c58
                            clear c58
                            replace H := Option.bind_eq_some_iff.mp H
                            obtain ⟨t637, A590, H⟩ := H
                            replace H : ((retargetlaw01_op.f k3 (rd y632 x97_3) t616 t637 1).bind fun t638 => ((retargetlaw01_op.f k3 (rd y632 x97_3) t616 t617 (IntKind.u64.wrap (t619 + 1))).bind fun t639 => (if t638 = t639 then (retargetlaw01_BitsShifts.l0 k3 t616 t617 t619 y632 (y632.length : Int) (wrap64 (x97_3 + 1))) else (some false)))) = some r := H
                            have A59 := Aside0.mk A590
                            clear A590
                            replace H := Option.bind_eq_some_iff.mp H
                            obtain ⟨t638, A600, H⟩ := H
                            replace H : ((retargetlaw01_op.f k3 (rd y632 x97_3) t616 t617 (IntKind.u64.wrap (t619 + 1))).bind fun t639 => (if t638 = t639 then (retargetlaw01_BitsShifts.l0 k3 t616 t617 t619 y632 (y632.length : Int) (wrap64 (x97_3 + 1))) else (some false))) = some r := H
                            have A60 := Aside0.mk A600
                            clear A600
                            replace H := Option.bind_eq_some_iff.mp H
                            obtain ⟨t639, A610, H⟩ := H
                            replace H : (if t638 = t639 then (retargetlaw01_BitsShifts.l0 k3 t616 t617 t619 y632 (y632.length : Int) (wrap64 (x97_3 + 1))) else (some false)) = some r := H
                            have A61 := Aside0.mk A610
                            clear A610
                            by_cases c62 : t638 = t639
                            · rw [if_pos c62] at H
                              have c62b0 : (t638 == t639) = true := beq_iff_eq.mpr c62
                              have c62b1 : (t638 != t639) = false := bne_eq_false_iff_eq.mpr c62
                              clear c62
                              have H' := Aside0.mk H
                              clear H
                              have p636 : 0 ≤ (x97_3 : Int) := of_decide_eq_true (by first | (with_reducible assumption) | assumption)
                              have q636 : x97_3 < (y632.length : Int) := of_decide_eq_true (by first | (with_reducible assumption) | assumption)
                              obtain ⟨ad636, e636, hx636_0⟩ := Kd.at_int (Kd.R_reads' HO_95.out).2.2 x97_3 p636 q636
                              cases e636
                              replace p636 := eq_true p636
                              replace q636 := eq_true q636
                              go_wp2_with (first | ((with_reducible refine gate_callee (f := 55) rfl ?_); refine goesL_ (some 107) rfl rfl Try.func55 (by kernel_rfl) rfl #[.int .u8 (rd y632 x97_3), .int .i64 t616, .int .u64 t617, .int .u64 t619] rfl (by (try simp only [List.map_toArray, List.map_cons, List.map_nil]); first | done | rfl | (simp only [List.length_drop, List.length_take]; rfl)) ?_; (with_reducible refine (retargetlaw01_op.calls k3 (rd y632 x97_3) t616 t617 t619 t637 _ A59.out).mono ?_); rintro e w63 ⟨rfl, hb⟩; refine ⟨_, rfl, ?_⟩; have n0_ := Aside0.mk (Kd.R_below (by (with_reducible repeat (first | apply Kd.R_alloc | apply Kd.R_drewN | apply Kd.R_drew)); exact HO_95.out) hb); have n1_ := Aside0.mk (below_step (by repeat (first | (with_reducible first | exact HB.out | apply below_alloc | apply pw_below_drewN | apply below_drew1) | exact HB.out)) hb); clear HO_95; clear HB; have HO_95 := n0_; have HB := n1_; clear n0_ n1_; (try clear hb); (try clear hb2); (try clear hk); (try clear hi)) | ((with_reducible refine gate_callee (f := 55) rfl ?_); refine goesL_ (some 108) rfl rfl Try.func55 (by kernel_rfl) rfl #[.int .u8 (rd y632 x97_3), .int .i64 t616, .int .u64 t637, .int .u64 1] rfl (by (try simp only [List.map_toArray, List.map_cons, List.map_nil]); first | done | rfl | (simp only [List.length_drop, List.length_take]; rfl)) ?_; (with_reducible refine (retargetlaw01_op.calls k3 (rd y632 x97_3) t616 t637 1 t638 _ A60.out).mono ?_); rintro e w64 ⟨rfl, hb⟩; refine ⟨_, rfl, ?_⟩; have n0_ := Aside0.mk (Kd.R_below (by (with_reducible repeat (first | apply Kd.R_alloc | apply Kd.R_drewN | apply Kd.R_drew)); exact HO_95.out) hb); have n1_ := Aside0.mk (below_step (by repeat (first | (with_reducible first | exact HB.out | apply below_alloc | apply pw_below_drewN | apply below_drew1) | exact HB.out)) hb); clear HO_95; clear HB; have HO_95 := n0_; have HB := n1_; clear n0_ n1_; (try clear hb); (try clear hb2); (try clear hk); (try clear hi)) | ((with_reducible refine gate_callee (f := 55) rfl ?_); refine goesL_ (some 114) rfl rfl Try.func55 (by kernel_rfl) rfl #[.int .u8 (rd y632 x97_3), .int .i64 t616, .int .u64 t617, .int .u64 (IntKind.u64.wrap (t619 + 1))] rfl (by (try simp only [List.map_toArray, List.map_cons, List.map_nil]); first | done | rfl | (simp only [List.length_drop, List.length_take]; rfl)) ?_; (with_reducible refine (retargetlaw01_op.calls k3 (rd y632 x97_3) t616 t617 (IntKind.u64.wrap (t619 + 1)) t639 _ A61.out).mono ?_); rintro e w65 ⟨rfl, hb⟩; refine ⟨_, rfl, ?_⟩; have n0_ := Aside0.mk (Kd.R_below (by (with_reducible repeat (first | apply Kd.R_alloc | apply Kd.R_drewN | apply Kd.R_drew)); exact HO_95.out) hb); have n1_ := Aside0.mk (below_step (by repeat (first | (with_reducible first | exact HB.out | apply below_alloc | apply pw_below_drewN | apply below_drew1) | exact HB.out)) hb); clear HO_95; clear HB; have HO_95 := n0_; have HB := n1_; clear n0_ n1_; (try clear hb); (try clear hb2); (try clear hk); (try clear hi)))
                              go_roundg k3
                              case measure => have := HJ8.out; have := HJ25.out; have := HK3.out; omega
                              case rel => exact ⟨(wrap64 (x97_3 + 1)), (by first | rfl | (simp; done) | (simp [*]; done)), H', ⟨by have := HJ8.out; have := HJ25.out; have := HK3.out; omega⟩, ⟨by (with_reducible repeat (first | apply Kd.R_alloc | apply Kd.R_drewN | apply Kd.R_drew)); exact HO_95.out⟩, ⟨by repeat (first | (with_reducible first | exact HB.out | apply below_alloc | apply pw_below_drewN | apply below_drew1) | exact HB.out)⟩⟩
                            · rw [if_neg c62] at H
                              have c62b0 : (t638 == t639) = false := beq_eq_false_iff_ne.mpr c62
                              have c62b1 : (t638 != t639) = true := bne_iff_ne.mpr c62
                              obtain rfl := Option.some.inj H
                              have p636 : 0 ≤ (x97_3 : Int) := of_decide_eq_true (by first | (with_reducible assumption) | assumption)
                              have q636 : x97_3 < (y632.length : Int) := of_decide_eq_true (by first | (with_reducible assumption) | assumption)
                              obtain ⟨ad636, e636, hx636_0⟩ := Kd.at_int (Kd.R_reads' HO_95.out).2.2 x97_3 p636 q636
                              cases e636
                              replace p636 := eq_true p636
                              replace q636 := eq_true q636
                              go_wp2_with (first | ((with_reducible refine gate_callee (f := 55) rfl ?_); refine goesL_ (some 107) rfl rfl Try.func55 (by kernel_rfl) rfl #[.int .u8 (rd y632 x97_3), .int .i64 t616, .int .u64 t617, .int .u64 t619] rfl (by (try simp only [List.map_toArray, List.map_cons, List.map_nil]); first | done | rfl | (simp only [List.length_drop, List.length_take]; rfl)) ?_; (with_reducible refine (retargetlaw01_op.calls k3 (rd y632 x97_3) t616 t617 t619 t637 _ A59.out).mono ?_); rintro e w66 ⟨rfl, hb⟩; refine ⟨_, rfl, ?_⟩; have n0_ := Aside0.mk (Kd.R_below (by (with_reducible repeat (first | apply Kd.R_alloc | apply Kd.R_drewN | apply Kd.R_drew)); exact HO_95.out) hb); have n1_ := Aside0.mk (below_step (by repeat (first | (with_reducible first | exact HB.out | apply below_alloc | apply pw_below_drewN | apply below_drew1) | exact HB.out)) hb); clear HO_95; clear HB; have HO_95 := n0_; have HB := n1_; clear n0_ n1_; (try clear hb); (try clear hb2); (try clear hk); (try clear hi)) | ((with_reducible refine gate_callee (f := 55) rfl ?_); refine goesL_ (some 108) rfl rfl Try.func55 (by kernel_rfl) rfl #[.int .u8 (rd y632 x97_3), .int .i64 t616, .int .u64 t637, .int .u64 1] rfl (by (try simp only [List.map_toArray, List.map_cons, List.map_nil]); first | done | rfl | (simp only [List.length_drop, List.length_take]; rfl)) ?_; (with_reducible refine (retargetlaw01_op.calls k3 (rd y632 x97_3) t616 t637 1 t638 _ A60.out).mono ?_); rintro e w67 ⟨rfl, hb⟩; refine ⟨_, rfl, ?_⟩; have n0_ := Aside0.mk (Kd.R_below (by (with_reducible repeat (first | apply Kd.R_alloc | apply Kd.R_drewN | apply Kd.R_drew)); exact HO_95.out) hb); have n1_ := Aside0.mk (below_step (by repeat (first | (with_reducible first | exact HB.out | apply below_alloc | apply pw_below_drewN | apply below_drew1) | exact HB.out)) hb); clear HO_95; clear HB; have HO_95 := n0_; have HB := n1_; clear n0_ n1_; (try clear hb); (try clear hb2); (try clear hk); (try clear hi)) | ((with_reducible refine gate_callee (f := 55) rfl ?_); refine goesL_ (some 114) rfl rfl Try.func55 (by kernel_rfl) rfl #[.int .u8 (rd y632 x97_3), .int .i64 t616, .int .u64 t617, .int .u64 (IntKind.u64.wrap (t619 + 1))] rfl (by (try simp only [List.map_toArray, List.map_cons, List.map_nil]); first | done | rfl | (simp only [List.length_drop, List.length_take]; rfl)) ?_; (with_reducible refine (retargetlaw01_op.calls k3 (rd y632 x97_3) t616 t617 (IntKind.u64.wrap (t619 + 1)) t639 _ A61.out).mono ?_); rintro e w68 ⟨rfl, hb⟩; refine ⟨_, rfl, ?_⟩; have n0_ := Aside0.mk (Kd.R_below (by (with_reducible repeat (first | apply Kd.R_alloc | apply Kd.R_drewN | apply Kd.R_drew)); exact HO_95.out) hb); have n1_ := Aside0.mk (below_step (by repeat (first | (with_reducible first | exact HB.out | apply below_alloc | apply pw_below_drewN | apply below_drew1) | exact HB.out)) hb); clear HO_95; clear HB; have HO_95 := n0_; have HB := n1_; clear n0_ n1_; (try clear hb); (try clear hb2); (try clear hk); (try clear hi)))
                              go_ret
                              exact ⟨by first | rfl | (simp [errW_none, errW_some] <;> rfl) | (simp [*, errW_none, errW_some] <;> rfl), by repeat (first | (with_reducible first | exact HB.out | apply below_alloc | apply pw_below_drewN | apply below_drew1) | exact HB.out)⟩
                          · rw [if_neg c58] at H
                            exact absurd H (by simp)
                        · rw [if_neg c57] at H
                          exact absurd H (by simp)
                      · rw [if_neg c56] at H
                        have c56b0 : decide (x97_3 < (y632.length : Int)) = false := decide_eq_false c56
                        clear c56
                        replace H := Option.bind_eq_some_iff.mp H
                        obtain ⟨t635, A690, H⟩ := H
                        replace H : (some (decide (t635 ≤ t617))) = some r := H
                        have A69 := Aside0.mk A690
                        clear A690
                        obtain rfl := Option.some.inj H
                        go_wp2_with (first | ((with_reducible refine gate_callee (f := 55) rfl ?_); refine goesL_ (some 120) rfl rfl Try.func55 (by kernel_rfl) rfl #[.int .u8 12, .int .i64 t616, .int .u64 t617, .int .u64 t619] rfl (by (try simp only [List.map_toArray, List.map_cons, List.map_nil]); first | done | rfl | (simp only [List.length_drop, List.length_take]; rfl)) ?_; (with_reducible refine (retargetlaw01_op.calls k3 12 t616 t617 t619 t635 _ A69.out).mono ?_); rintro e w70 ⟨rfl, hb⟩; refine ⟨_, rfl, ?_⟩; have n0_ := Aside0.mk (Kd.R_below (by (with_reducible repeat (first | apply Kd.R_alloc | apply Kd.R_drewN | apply Kd.R_drew)); exact HO_95.out) hb); have n1_ := Aside0.mk (below_step (by repeat (first | (with_reducible first | exact HB.out | apply below_alloc | apply pw_below_drewN | apply below_drew1) | exact HB.out)) hb); clear HO_95; clear HB; have HO_95 := n0_; have HB := n1_; clear n0_ n1_; (try clear hb); (try clear hb2); (try clear hk); (try clear hi)))
                        go_ret
                        exact ⟨by first | rfl | (simp [errW_none, errW_some] <;> rfl) | (simp [*, errW_none, errW_some] <;> rfl), by repeat (first | (with_reducible first | exact HB.out | apply below_alloc | apply pw_below_drewN | apply below_drew1) | exact HB.out)⟩
  · replace c7 := Bool.eq_false_iff.mpr c7
    subst c7
    have H1 : (some false) = some r := by rw [if_neg (show ¬ (false = true) by decide)] at H; exact H
    clear H
    have H := H1
    clear H1
    obtain rfl := Option.some.inj H
    go_enter Try.func9, Try.ntmps9
    go_wp2_with (first | ((with_reducible refine gate_callee (f := 54) rfl ?_); refine goesL_ (some 17) rfl rfl Try.func54 (by kernel_rfl) rfl #[.int .u8 a0, .int .u64 a1] rfl (by (try simp only [List.map_toArray, List.map_cons, List.map_nil]); first | done | rfl | (simp only [List.length_drop, List.length_take]; rfl)) ?_; (with_reducible refine (retargetlaw01_cut.calls a0 a1 t616 t617 _ A4.out).mono ?_); rintro e w' ⟨rfl, ⟨nd, rfl⟩⟩; refine ⟨_, rfl, ?_⟩) | ((with_reducible refine gate_callee (f := 54) rfl ?_); refine goesL_ (some 23) rfl rfl Try.func54 (by kernel_rfl) rfl #[.int .u8 a0, .int .u64 a2] rfl (by (try simp only [List.map_toArray, List.map_cons, List.map_nil]); first | done | rfl | (simp only [List.length_drop, List.length_take]; rfl)) ?_; (with_reducible refine (retargetlaw01_cut.calls a0 a2 t618 t619 _ A5.out).mono ?_); rintro e w' ⟨rfl, ⟨nd, rfl⟩⟩; refine ⟨_, rfl, ?_⟩) | ((with_reducible refine gate_callee (f := 56) rfl ?_); refine goesL_ (some 26) rfl rfl Try.func56 (by kernel_rfl) rfl #[] rfl (by (try simp only [List.map_toArray, List.map_cons, List.map_nil]); first | done | rfl | (simp only [List.length_drop, List.length_take]; rfl)) ?_; (with_reducible refine (retargetlaw01_alive.calls k  false _ A6.out).mono ?_); rintro e w71 ⟨rfl, hb⟩; refine ⟨_, rfl, ?_⟩; have n0_ := Aside0.mk (below_step (by repeat (first | (with_reducible first | exact HB.out | apply below_alloc | apply pw_below_drewN | apply below_drew1) | exact HB.out)) hb); clear HB; have HB := n0_; clear n0_; (try clear hb); (try clear hb2); (try clear hk); (try clear hi)))
    go_ret
    exact ⟨by first | rfl | (simp [errW_none, errW_some] <;> rfl) | (simp [*, errW_none, errW_some] <;> rfl), by repeat (first | (with_reducible first | exact HB.out | apply below_alloc | apply pw_below_drewN | apply below_drew1) | exact HB.out)⟩

/-- THE ONE PURE STATEMENT of retargetlaw01_BitsShifts: yours. -/
def retargetlaw01_BitsShifts.Pure : Prop := ∀ (a0 : Int) (a1 : Int) (a2 : Int), (Lit.int .u8 a0).wf = true → (Lit.int .u64 a1).wf = true → (Lit.int .u64 a2).wf = true → ∃ k, retargetlaw01_BitsShifts.f k a0 a1 a2 = some true
theorem retargetlaw01_BitsShifts.walk (P : retargetlaw01_BitsShifts.Pure) (a0 : Int) (a1 : Int) (a2 : Int) (w : World) (w0 : (Lit.int .u8 a0).wf = true) (w1 : (Lit.int .u64 a1).wf = true) (w2 : (Lit.int .u64 a2).wf = true) :
    Calls Try.prog 9 #[.int .u8 a0, .int .u64 a1, .int .u64 a2] w fun e w' => e = .returned (.bool true) ∧ Below w.heap.size w w' := by
  obtain ⟨k, h⟩ := P a0 a1 a2 w0 w1 w2
  refine (retargetlaw01_BitsShifts.calls k a0 a1 a2 true w h).mono ?_
  rintro e w' ⟨rfl, hd⟩
  exact ⟨rfl, hd⟩

-- NOT PRINTED: function 10 (retargetlaw01_BitsOrder)

-- NOT PRINTED: function 11 (retargetlaw01_BitsRing)

end Go.Proofs.Ytbckdelbkcfjkaa.Bi
