-- Written by a program of this session (mkfam.py) out of what the kit's print.py says over the translation. Lean checks it.
import Derived.Test.YtbckdelbkcfjkaaRox0
import Derived.Test.YtbckdelbkcfjkaaRoFeq0
import Derived.Test.YtbckdelbkcfjkaaRoFretargetref42Join
import Derived.Test.YtbckdelbkcfjkaaRoFretargetref42Same
import Derived.Test.YtbckdelbkcfjkaaRoFretargetref42Shift
import Derived.Test.YtbckdelbkcfjkaaRoFrowsShift
import Derived.Test.YtbckdelbkcfjkaaRoHJoin
namespace Go.Proofs.Ytbckdelbkcfjkaa.Ro
open Go.RowKit Go.Proofs.YtbckdelbkcfjkaaW.PrintWords Go.Proofs.YtbckdelbkcfjkaaW.PrintLast Go.Proofs.YtbckdelbkcfjkaaW.PrintMore
attribute [local go_sem] max2_int min2_int max_two min_two max_three min_three max_four min_four   -- for this text's walks alone
set_option linter.unusedVariables false
set_option linter.unusedSimpArgs false
attribute [local go_sem high] eqA72
/-! ### retargetlaw42_RowsBuilds: function 7 -/
mutual
def retargetlaw42_RowsBuilds.j0 : Nat → List (S72) → List (S72) → Int → Bool → Option (Bool)
  | 0, _, _, _, _ => none
  | k + 1, x0, x1, x2, x27 => if x27 = true then (some true) else ((some (([] : List (S72)) : List (S72))).bind fun y278 => (if y278.length + x0.length < 8796093022208 then ((some (y278 ++ x0 : List (S72))).bind fun y281 => ((some (([] : List (S72)) : List (S72))).bind fun y284 => (if y284.length + x1.length < 8796093022208 then ((some (y284 ++ x1 : List (S72))).bind fun y287 => ((rows_Shift.f k x0 x2).bind fun bt290 => ((retargetref42_Shift.f k x0 x2).bind fun bt294 => ((rows_Join.f k x0 x1).bind fun bt298 => ((retargetref42_Join.f k x0 x1).bind fun bt302 => ((retargetref42_Same.f k bt290.1 bt294.1).bind fun t306 => (if t306 = true then (if bt290.2 = bt294.2 then ((retargetref42_Same.f k bt298.1 bt302.1).bind fun t307 => (if t307 = true then (retargetlaw42_RowsBuilds.j1 k x0 x1 y281 y287 bt290.1 bt298.1 (bt298.2 == bt302.2)) else (retargetlaw42_RowsBuilds.j1 k x0 x1 y281 y287 bt290.1 bt298.1 false))) else (retargetlaw42_RowsBuilds.j1 k x0 x1 y281 y287 bt290.1 bt298.1 false)) else (retargetlaw42_RowsBuilds.j1 k x0 x1 y281 y287 bt290.1 bt298.1 false)))))))) else (none)))) else (none)))
def retargetlaw42_RowsBuilds.j1 : Nat → List (S72) → List (S72) → List (S72) → List (S72) → List (S72) → List (S72) → Bool → Option (Bool)
  | 0, _, _, _, _, _, _, _ => none
  | k + 1, x0, x1, x7, x8, x9, x13, x17 => retargetlaw42_RowsBuilds.l0 k x0 x1 x7 x8 x9 x13 x17 0
def retargetlaw42_RowsBuilds.l0 : Nat → List (S72) → List (S72) → List (S72) → List (S72) → List (S72) → List (S72) → Bool → Int → Option (Bool)
  | 0, _, _, _, _, _, _, _, _ => none
  | k + 1, x0, x1, x7, x8, x9, x13, x17, x18 => if x18 < (x13.length : Int) then (if 0 ≤ x18 then (retargetlaw42_RowsBuilds.l0 k x0 x1 x7 x8 x9 (x13.set (x18 : Int).toNat (⟨(rd_T72 x13 x18).f0, (-1)⟩ : S72)) x17 (wrap64 (x18 + 1))) else (none)) else (retargetlaw42_RowsBuilds.l1 k x0 x1 x7 x8 x9 x17 0)
def retargetlaw42_RowsBuilds.l1 : Nat → List (S72) → List (S72) → List (S72) → List (S72) → List (S72) → Bool → Int → Option (Bool)
  | 0, _, _, _, _, _, _, _ => none
  | k + 1, x0, x1, x7, x8, x9, x17, x19 => if x19 < (x9.length : Int) then (if 0 ≤ x19 then (retargetlaw42_RowsBuilds.l1 k x0 x1 x7 x8 (x9.set (x19 : Int).toNat (⟨(rd_T72 x9 x19).f0, (-1)⟩ : S72)) x17 (wrap64 (x19 + 1))) else (none)) else (if x17 = true then ((retargetref42_Same.f k x0 x7).bind fun t310 => (if t310 = true then ((retargetref42_Same.f k x1 x8).bind fun t311 => (some t311)) else (some false))) else (some false))
end
def retargetlaw42_RowsBuilds.f (k : Nat) (l0 : List (S72)) (l1 : List (S72)) (a2 : Int) : Option (Bool) := if (l0.length : Int) > 2000 then (retargetlaw42_RowsBuilds.j0 k l0 l1 a2 true) else (retargetlaw42_RowsBuilds.j0 k l0 l1 a2 (decide ((l1.length : Int) > 2000)))
theorem retargetlaw42_RowsBuilds.mono_l : ∀ k, (∀ y0 y1 y2 y3, LeO (retargetlaw42_RowsBuilds.j0 k y0 y1 y2 y3) (retargetlaw42_RowsBuilds.j0 (k + 1) y0 y1 y2 y3)) ∧ (∀ y0 y1 y2 y3 y4 y5 y6, LeO (retargetlaw42_RowsBuilds.j1 k y0 y1 y2 y3 y4 y5 y6) (retargetlaw42_RowsBuilds.j1 (k + 1) y0 y1 y2 y3 y4 y5 y6)) ∧ (∀ y0 y1 y2 y3 y4 y5 y6 y7, LeO (retargetlaw42_RowsBuilds.l0 k y0 y1 y2 y3 y4 y5 y6 y7) (retargetlaw42_RowsBuilds.l0 (k + 1) y0 y1 y2 y3 y4 y5 y6 y7)) ∧ (∀ y0 y1 y2 y3 y4 y5 y6, LeO (retargetlaw42_RowsBuilds.l1 k y0 y1 y2 y3 y4 y5 y6) (retargetlaw42_RowsBuilds.l1 (k + 1) y0 y1 y2 y3 y4 y5 y6))
  | 0 => ⟨fun _ _ _ _ r h => by simp [retargetlaw42_RowsBuilds.j0] at h, fun _ _ _ _ _ _ _ r h => by simp [retargetlaw42_RowsBuilds.j1] at h, fun _ _ _ _ _ _ _ _ r h => by simp [retargetlaw42_RowsBuilds.l0] at h, fun _ _ _ _ _ _ _ r h => by simp [retargetlaw42_RowsBuilds.l1] at h⟩
  | k + 1 => by
    obtain ⟨ih0, ih1, ih2, ih3⟩ := retargetlaw42_RowsBuilds.mono_l k
    refine ⟨?_, ?_, ?_, ?_⟩
    · intro y0 y1 y2 y3
      unfold retargetlaw42_RowsBuilds.j0
      repeat' first
      | (with_reducible exact ih0 _ _ _ _)
      | (with_reducible exact ih1 _ _ _ _ _ _ _)
      | (with_reducible exact ih2 _ _ _ _ _ _ _ _)
      | (with_reducible exact ih3 _ _ _ _ _ _ _)
      | (with_reducible exact retargetref42_Join.mono _ _ _)
      | (with_reducible exact retargetref42_Same.mono _ _ _)
      | (with_reducible exact retargetref42_Shift.mono _ _ _)
      | (with_reducible exact rows_Join.mono _ _ _)
      | (with_reducible exact rows_Shift.mono _ _ _)
      | (with_reducible exact LeO.refl _)
      | (with_reducible exact LeO.none _)
      | (with_reducible refine LeO.ite ?_ ?_)
      | (with_reducible refine LeO.bind ?_ (fun _ => ?_))
      | exact ih0 _ _ _ _
      | exact ih1 _ _ _ _ _ _ _
      | exact ih2 _ _ _ _ _ _ _ _
      | exact ih3 _ _ _ _ _ _ _
      | exact retargetref42_Join.mono _ _ _
      | exact retargetref42_Same.mono _ _ _
      | exact retargetref42_Shift.mono _ _ _
      | exact rows_Join.mono _ _ _
      | exact rows_Shift.mono _ _ _
      | exact LeO.none _
      | refine LeO.ite ?_ ?_
      | refine LeO.bind ?_ (fun _ => ?_)
    · intro y0 y1 y2 y3 y4 y5 y6
      unfold retargetlaw42_RowsBuilds.j1
      repeat' first
      | (with_reducible exact ih0 _ _ _ _)
      | (with_reducible exact ih1 _ _ _ _ _ _ _)
      | (with_reducible exact ih2 _ _ _ _ _ _ _ _)
      | (with_reducible exact ih3 _ _ _ _ _ _ _)
      | (with_reducible exact retargetref42_Join.mono _ _ _)
      | (with_reducible exact retargetref42_Same.mono _ _ _)
      | (with_reducible exact retargetref42_Shift.mono _ _ _)
      | (with_reducible exact rows_Join.mono _ _ _)
      | (with_reducible exact rows_Shift.mono _ _ _)
      | (with_reducible exact LeO.refl _)
      | (with_reducible exact LeO.none _)
      | (with_reducible refine LeO.ite ?_ ?_)
      | (with_reducible refine LeO.bind ?_ (fun _ => ?_))
      | exact ih0 _ _ _ _
      | exact ih1 _ _ _ _ _ _ _
      | exact ih2 _ _ _ _ _ _ _ _
      | exact ih3 _ _ _ _ _ _ _
      | exact retargetref42_Join.mono _ _ _
      | exact retargetref42_Same.mono _ _ _
      | exact retargetref42_Shift.mono _ _ _
      | exact rows_Join.mono _ _ _
      | exact rows_Shift.mono _ _ _
      | exact LeO.none _
      | refine LeO.ite ?_ ?_
      | refine LeO.bind ?_ (fun _ => ?_)
    · intro y0 y1 y2 y3 y4 y5 y6 y7
      unfold retargetlaw42_RowsBuilds.l0
      repeat' first
      | (with_reducible exact ih0 _ _ _ _)
      | (with_reducible exact ih1 _ _ _ _ _ _ _)
      | (with_reducible exact ih2 _ _ _ _ _ _ _ _)
      | (with_reducible exact ih3 _ _ _ _ _ _ _)
      | (with_reducible exact retargetref42_Join.mono _ _ _)
      | (with_reducible exact retargetref42_Same.mono _ _ _)
      | (with_reducible exact retargetref42_Shift.mono _ _ _)
      | (with_reducible exact rows_Join.mono _ _ _)
      | (with_reducible exact rows_Shift.mono _ _ _)
      | (with_reducible exact LeO.refl _)
      | (with_reducible exact LeO.none _)
      | (with_reducible refine LeO.ite ?_ ?_)
      | (with_reducible refine LeO.bind ?_ (fun _ => ?_))
      | exact ih0 _ _ _ _
      | exact ih1 _ _ _ _ _ _ _
      | exact ih2 _ _ _ _ _ _ _ _
      | exact ih3 _ _ _ _ _ _ _
      | exact retargetref42_Join.mono _ _ _
      | exact retargetref42_Same.mono _ _ _
      | exact retargetref42_Shift.mono _ _ _
      | exact rows_Join.mono _ _ _
      | exact rows_Shift.mono _ _ _
      | exact LeO.none _
      | refine LeO.ite ?_ ?_
      | refine LeO.bind ?_ (fun _ => ?_)
    · intro y0 y1 y2 y3 y4 y5 y6
      unfold retargetlaw42_RowsBuilds.l1
      repeat' first
      | (with_reducible exact ih0 _ _ _ _)
      | (with_reducible exact ih1 _ _ _ _ _ _ _)
      | (with_reducible exact ih2 _ _ _ _ _ _ _ _)
      | (with_reducible exact ih3 _ _ _ _ _ _ _)
      | (with_reducible exact retargetref42_Join.mono _ _ _)
      | (with_reducible exact retargetref42_Same.mono _ _ _)
      | (with_reducible exact retargetref42_Shift.mono _ _ _)
      | (with_reducible exact rows_Join.mono _ _ _)
      | (with_reducible exact rows_Shift.mono _ _ _)
      | (with_reducible exact LeO.refl _)
      | (with_reducible exact LeO.none _)
      | (with_reducible refine LeO.ite ?_ ?_)
      | (with_reducible refine LeO.bind ?_ (fun _ => ?_))
      | exact ih0 _ _ _ _
      | exact ih1 _ _ _ _ _ _ _
      | exact ih2 _ _ _ _ _ _ _ _
      | exact ih3 _ _ _ _ _ _ _
      | exact retargetref42_Join.mono _ _ _
      | exact retargetref42_Same.mono _ _ _
      | exact retargetref42_Shift.mono _ _ _
      | exact rows_Join.mono _ _ _
      | exact rows_Shift.mono _ _ _
      | exact LeO.none _
      | refine LeO.ite ?_ ?_
      | refine LeO.bind ?_ (fun _ => ?_)
theorem retargetlaw42_RowsBuilds.mono : ∀ a0 a1 a2 k, LeO (retargetlaw42_RowsBuilds.f k a0 a1 a2) (retargetlaw42_RowsBuilds.f (k + 1) a0 a1 a2) := by
  intro a0 a1 a2 k
  obtain ⟨ih0, ih1, ih2, ih3⟩ := retargetlaw42_RowsBuilds.mono_l k
  unfold retargetlaw42_RowsBuilds.f
  repeat' first
      | (with_reducible exact ih0 _ _ _ _)
      | (with_reducible exact ih1 _ _ _ _ _ _ _)
      | (with_reducible exact ih2 _ _ _ _ _ _ _ _)
      | (with_reducible exact ih3 _ _ _ _ _ _ _)
      | (with_reducible exact retargetref42_Join.mono _ _ _)
      | (with_reducible exact retargetref42_Same.mono _ _ _)
      | (with_reducible exact retargetref42_Shift.mono _ _ _)
      | (with_reducible exact rows_Join.mono _ _ _)
      | (with_reducible exact rows_Shift.mono _ _ _)
      | (with_reducible exact LeO.refl _)
      | (with_reducible exact LeO.none _)
      | (with_reducible refine LeO.ite ?_ ?_)
      | (with_reducible refine LeO.bind ?_ (fun _ => ?_))
      | exact ih0 _ _ _ _
      | exact ih1 _ _ _ _ _ _ _
      | exact ih2 _ _ _ _ _ _ _ _
      | exact ih3 _ _ _ _ _ _ _
      | exact retargetref42_Join.mono _ _ _
      | exact retargetref42_Same.mono _ _ _
      | exact retargetref42_Shift.mono _ _ _
      | exact rows_Join.mono _ _ _
      | exact rows_Shift.mono _ _ _
      | exact LeO.none _
      | refine LeO.ite ?_ ?_
      | refine LeO.bind ?_ (fun _ => ?_)
set_option maxHeartbeats 8000000 in
set_option maxRecDepth 100000 in
theorem retargetlaw42_RowsBuilds.calls (k : Nat) (A0 : Option Addr) (c0 : Nat) (l0 : List (S72)) (A1 : Option Addr) (c1 : Nat) (l1 : List (S72)) (a2 : Int) (r : Bool) (w : World) (hr0 : Kd.C k72 w A0 l0.length l0) (hc0 : l0.length ≤ c0) (hr1 : Kd.C k72 w A1 l1.length l1) (hc1 : l1.length ≤ c1) (h : retargetlaw42_RowsBuilds.f k l0 l1 a2 = some r) :
    Calls Try.prog 7 #[.slice A0 l0.length c0, .slice A1 l1.length c1, .int .u64 a2] w fun e w' => e = .returned (.bool r) ∧ Below w.heap.size w w' := by
  have HR0 := Aside0.mk hr0
  have HC0 := Aside0.mk hc0
  clear hr0 hc0
  have HR1 := Aside0.mk hr1
  have HC1 := Aside0.mk hc1
  clear hr1 hc1
  have HB := Aside0.mk (Below.refl w.heap.size w)
  have H : (if (l0.length : Int) > 2000 then (retargetlaw42_RowsBuilds.j0 k l0 l1 a2 true) else (retargetlaw42_RowsBuilds.j0 k l0 l1 a2 (decide ((l1.length : Int) > 2000)))) = some r := h
  clear h
  have HC4 := Aside0.mk H
  clear H
  go_enter Try.func7, Try.ntmps7
  go_upto_region 1 with (fail)
  go_cut [27] (fun v27 wc => ∃ (kq : Nat) (x27_3 : Bool), v27 = .bool x27_3 ∧ Aside0 (retargetlaw42_RowsBuilds.j0 kq l0 l1 a2 x27_3 = some r) ∧ Aside0 (kq ≤ k) ∧ Aside0 (Below w.heap.size w wc))
  case first =>
    have H := HC4.out
    clear HC4
    by_cases c5 : (l0.length : Int) > 2000
    · rw [if_pos c5] at H
      have c5b0 : decide (2000 < (l0.length : Int)) = true := decide_eq_true c5
      have c5b1 : decide (2000 < l0.length) = true := decide_eq_true (by omega)
      clear c5
      (first | rw [c5b0] | (simp only [i64_w, i32_w]; rw [c5b0]) | skip)
      have H' := Aside0.mk H
      clear H
      go_wp2
      go_meet
      case rel => exact ⟨_, (true), (by first | rfl | (simp; done) | (simp [*]; done)), H', ⟨by first | omega | exact Nat.le_refl _⟩, ⟨by repeat (first | (with_reducible first | exact HB.out | apply below_alloc | apply pw_below_drewN | apply below_drew1) | exact HB.out)⟩⟩
    · rw [if_neg c5] at H
      have c5b0 : decide (2000 < (l0.length : Int)) = false := decide_eq_false c5
      have c5b1 : decide (2000 < l0.length) = false := decide_eq_false (by omega)
      clear c5
      (first | rw [c5b0] | (simp only [i64_w, i32_w]; rw [c5b0]) | skip)
      have H' := Aside0.mk H
      clear H
      go_wp2
      go_meet
      case rel => exact ⟨_, (decide ((l1.length : Int) > 2000)), (by first | rfl | (simp; done) | (simp [*]; done)), H', ⟨by first | omega | exact Nat.le_refl _⟩, ⟨by repeat (first | (with_reducible first | exact HB.out | apply below_alloc | apply pw_below_drewN | apply below_drew1) | exact HB.out)⟩⟩
  case rest =>
    clear HC4
    try clear c1
    try clear p2
    try clear c5
    try clear c5b0
    try clear c5b1
    obtain ⟨kq, x27_3, rfl, HA, HJ3, HB⟩ := hcut
    cases kq with
    | zero => exact absurd HA.out (by simp [retargetlaw42_RowsBuilds.j0])
    | succ kj3 =>
      have H := HA.out
      clear HA
      simp only [retargetlaw42_RowsBuilds.j0] at H
      by_cases c6 : x27_3 = true
      · subst c6
        have H1 : (some true) = some r := by rw [if_pos rfl] at H; exact H
        clear H
        have H := H1
        clear H1
        obtain rfl := Option.some.inj H
        go_wp2
        go_ret
        exact ⟨by first | rfl | (simp [errW_none, errW_some] <;> rfl) | (simp [*, errW_none, errW_some] <;> rfl), by repeat (first | (with_reducible first | exact HB.out | apply below_alloc | apply pw_below_drewN | apply below_drew1) | exact HB.out)⟩
      · replace c6 := Bool.eq_false_iff.mpr c6
        subst c6
        have H1 : ((some (([] : List (S72)) : List (S72))).bind fun y278 => (if y278.length + l0.length < 8796093022208 then ((some (y278 ++ l0 : List (S72))).bind fun y281 => ((some (([] : List (S72)) : List (S72))).bind fun y284 => (if y284.length + l1.length < 8796093022208 then ((some (y284 ++ l1 : List (S72))).bind fun y287 => ((rows_Shift.f kj3 l0 a2).bind fun bt290 => ((retargetref42_Shift.f kj3 l0 a2).bind fun bt294 => ((rows_Join.f kj3 l0 l1).bind fun bt298 => ((retargetref42_Join.f kj3 l0 l1).bind fun bt302 => ((retargetref42_Same.f kj3 bt290.1 bt294.1).bind fun t306 => (if t306 = true then (if bt290.2 = bt294.2 then ((retargetref42_Same.f kj3 bt298.1 bt302.1).bind fun t307 => (if t307 = true then (retargetlaw42_RowsBuilds.j1 kj3 l0 l1 y281 y287 bt290.1 bt298.1 (bt298.2 == bt302.2)) else (retargetlaw42_RowsBuilds.j1 kj3 l0 l1 y281 y287 bt290.1 bt298.1 false))) else (retargetlaw42_RowsBuilds.j1 kj3 l0 l1 y281 y287 bt290.1 bt298.1 false)) else (retargetlaw42_RowsBuilds.j1 kj3 l0 l1 y281 y287 bt290.1 bt298.1 false)))))))) else (none)))) else (none))) = some r := by rw [if_neg (show ¬ (false = true) by decide)] at H; exact H
        clear H
        have H := H1
        clear H1
        obtain ⟨y278, hy278⟩ : ∃ y_ : List (S72), y_ = (([] : List (S72))) := ⟨_, rfl⟩
        replace H : (if y278.length + l0.length < 8796093022208 then ((some (y278 ++ l0 : List (S72))).bind fun y281 => ((some (([] : List (S72)) : List (S72))).bind fun y284 => (if y284.length + l1.length < 8796093022208 then ((some (y284 ++ l1 : List (S72))).bind fun y287 => ((rows_Shift.f kj3 l0 a2).bind fun bt290 => ((retargetref42_Shift.f kj3 l0 a2).bind fun bt294 => ((rows_Join.f kj3 l0 l1).bind fun bt298 => ((retargetref42_Join.f kj3 l0 l1).bind fun bt302 => ((retargetref42_Same.f kj3 bt290.1 bt294.1).bind fun t306 => (if t306 = true then (if bt290.2 = bt294.2 then ((retargetref42_Same.f kj3 bt298.1 bt302.1).bind fun t307 => (if t307 = true then (retargetlaw42_RowsBuilds.j1 kj3 l0 l1 y281 y287 bt290.1 bt298.1 (bt298.2 == bt302.2)) else (retargetlaw42_RowsBuilds.j1 kj3 l0 l1 y281 y287 bt290.1 bt298.1 false))) else (retargetlaw42_RowsBuilds.j1 kj3 l0 l1 y281 y287 bt290.1 bt298.1 false)) else (retargetlaw42_RowsBuilds.j1 kj3 l0 l1 y281 y287 bt290.1 bt298.1 false)))))))) else (none)))) else (none)) = some r := by first | (rw [hy278]; with_reducible exact H) | (have H2_ := (Option.bind_some _ _).symm.trans H; rw [hy278]; with_reducible exact H2_) | (have H2_ := (Option.bind_some _ _).symm.trans H; with_reducible exact H2_) | with_reducible exact H | (rw [hy278]; exact H) | exact H
        have Ny278 := Aside0.mk hy278
        clear hy278
        by_cases c7 : y278.length + l0.length < 8796093022208
        · rw [if_pos c7] at H
          have LMc7 := Aside0.mk c7
          clear c7
          obtain ⟨y281, hy281⟩ : ∃ y_ : List (S72), y_ = (y278 ++ l0) := ⟨_, rfl⟩
          replace H : ((some (([] : List (S72)) : List (S72))).bind fun y284 => (if y284.length + l1.length < 8796093022208 then ((some (y284 ++ l1 : List (S72))).bind fun y287 => ((rows_Shift.f kj3 l0 a2).bind fun bt290 => ((retargetref42_Shift.f kj3 l0 a2).bind fun bt294 => ((rows_Join.f kj3 l0 l1).bind fun bt298 => ((retargetref42_Join.f kj3 l0 l1).bind fun bt302 => ((retargetref42_Same.f kj3 bt290.1 bt294.1).bind fun t306 => (if t306 = true then (if bt290.2 = bt294.2 then ((retargetref42_Same.f kj3 bt298.1 bt302.1).bind fun t307 => (if t307 = true then (retargetlaw42_RowsBuilds.j1 kj3 l0 l1 y281 y287 bt290.1 bt298.1 (bt298.2 == bt302.2)) else (retargetlaw42_RowsBuilds.j1 kj3 l0 l1 y281 y287 bt290.1 bt298.1 false))) else (retargetlaw42_RowsBuilds.j1 kj3 l0 l1 y281 y287 bt290.1 bt298.1 false)) else (retargetlaw42_RowsBuilds.j1 kj3 l0 l1 y281 y287 bt290.1 bt298.1 false)))))))) else (none))) = some r := by first | (rw [hy281]; with_reducible exact H) | (have H2_ := (Option.bind_some _ _).symm.trans H; rw [hy281]; with_reducible exact H2_) | (have H2_ := (Option.bind_some _ _).symm.trans H; with_reducible exact H2_) | with_reducible exact H | (rw [hy281]; exact H) | exact H
          have Ny281 := Aside0.mk hy281
          clear hy281
          obtain ⟨y284, hy284⟩ : ∃ y_ : List (S72), y_ = (([] : List (S72))) := ⟨_, rfl⟩
          replace H : (if y284.length + l1.length < 8796093022208 then ((some (y284 ++ l1 : List (S72))).bind fun y287 => ((rows_Shift.f kj3 l0 a2).bind fun bt290 => ((retargetref42_Shift.f kj3 l0 a2).bind fun bt294 => ((rows_Join.f kj3 l0 l1).bind fun bt298 => ((retargetref42_Join.f kj3 l0 l1).bind fun bt302 => ((retargetref42_Same.f kj3 bt290.1 bt294.1).bind fun t306 => (if t306 = true then (if bt290.2 = bt294.2 then ((retargetref42_Same.f kj3 bt298.1 bt302.1).bind fun t307 => (if t307 = true then (retargetlaw42_RowsBuilds.j1 kj3 l0 l1 y281 y287 bt290.1 bt298.1 (bt298.2 == bt302.2)) else (retargetlaw42_RowsBuilds.j1 kj3 l0 l1 y281 y287 bt290.1 bt298.1 false))) else (retargetlaw42_RowsBuilds.j1 kj3 l0 l1 y281 y287 bt290.1 bt298.1 false)) else (retargetlaw42_RowsBuilds.j1 kj3 l0 l1 y281 y287 bt290.1 bt298.1 false)))))))) else (none)) = some r := by first | (rw [hy284]; with_reducible exact H) | (have H2_ := (Option.bind_some _ _).symm.trans H; rw [hy284]; with_reducible exact H2_) | (have H2_ := (Option.bind_some _ _).symm.trans H; with_reducible exact H2_) | with_reducible exact H | (rw [hy284]; exact H) | exact H
          have Ny284 := Aside0.mk hy284
          clear hy284
          by_cases c8 : y284.length + l1.length < 8796093022208
          · rw [if_pos c8] at H
            have LMc8 := Aside0.mk c8
            clear c8
            obtain ⟨y287, hy287⟩ : ∃ y_ : List (S72), y_ = (y284 ++ l1) := ⟨_, rfl⟩
            replace H : ((rows_Shift.f kj3 l0 a2).bind fun bt290 => ((retargetref42_Shift.f kj3 l0 a2).bind fun bt294 => ((rows_Join.f kj3 l0 l1).bind fun bt298 => ((retargetref42_Join.f kj3 l0 l1).bind fun bt302 => ((retargetref42_Same.f kj3 bt290.1 bt294.1).bind fun t306 => (if t306 = true then (if bt290.2 = bt294.2 then ((retargetref42_Same.f kj3 bt298.1 bt302.1).bind fun t307 => (if t307 = true then (retargetlaw42_RowsBuilds.j1 kj3 l0 l1 y281 y287 bt290.1 bt298.1 (bt298.2 == bt302.2)) else (retargetlaw42_RowsBuilds.j1 kj3 l0 l1 y281 y287 bt290.1 bt298.1 false))) else (retargetlaw42_RowsBuilds.j1 kj3 l0 l1 y281 y287 bt290.1 bt298.1 false)) else (retargetlaw42_RowsBuilds.j1 kj3 l0 l1 y281 y287 bt290.1 bt298.1 false))))))) = some r := by first | (rw [hy287]; with_reducible exact H) | (have H2_ := (Option.bind_some _ _).symm.trans H; rw [hy287]; with_reducible exact H2_) | (have H2_ := (Option.bind_some _ _).symm.trans H; with_reducible exact H2_) | with_reducible exact H | (rw [hy287]; exact H) | exact H
            have Ny287 := Aside0.mk hy287
            clear hy287
            replace H := Option.bind_eq_some_iff.mp H
            obtain ⟨⟨t290, t291⟩, A90, H⟩ := H
            replace H : ((retargetref42_Shift.f kj3 l0 a2).bind fun bt294 => ((rows_Join.f kj3 l0 l1).bind fun bt298 => ((retargetref42_Join.f kj3 l0 l1).bind fun bt302 => ((retargetref42_Same.f kj3 t290 bt294.1).bind fun t306 => (if t306 = true then (if t291 = bt294.2 then ((retargetref42_Same.f kj3 bt298.1 bt302.1).bind fun t307 => (if t307 = true then (retargetlaw42_RowsBuilds.j1 kj3 l0 l1 y281 y287 t290 bt298.1 (bt298.2 == bt302.2)) else (retargetlaw42_RowsBuilds.j1 kj3 l0 l1 y281 y287 t290 bt298.1 false))) else (retargetlaw42_RowsBuilds.j1 kj3 l0 l1 y281 y287 t290 bt298.1 false)) else (retargetlaw42_RowsBuilds.j1 kj3 l0 l1 y281 y287 t290 bt298.1 false)))))) = some r := H
            have A9 := Aside0.mk A90
            clear A90
            replace H := Option.bind_eq_some_iff.mp H
            obtain ⟨⟨t294, t295⟩, A100, H⟩ := H
            replace H : ((rows_Join.f kj3 l0 l1).bind fun bt298 => ((retargetref42_Join.f kj3 l0 l1).bind fun bt302 => ((retargetref42_Same.f kj3 t290 t294).bind fun t306 => (if t306 = true then (if t291 = t295 then ((retargetref42_Same.f kj3 bt298.1 bt302.1).bind fun t307 => (if t307 = true then (retargetlaw42_RowsBuilds.j1 kj3 l0 l1 y281 y287 t290 bt298.1 (bt298.2 == bt302.2)) else (retargetlaw42_RowsBuilds.j1 kj3 l0 l1 y281 y287 t290 bt298.1 false))) else (retargetlaw42_RowsBuilds.j1 kj3 l0 l1 y281 y287 t290 bt298.1 false)) else (retargetlaw42_RowsBuilds.j1 kj3 l0 l1 y281 y287 t290 bt298.1 false))))) = some r := H
            have A10 := Aside0.mk A100
            clear A100
            replace H := Option.bind_eq_some_iff.mp H
            obtain ⟨⟨t298, t299⟩, A110, H⟩ := H
            replace H : ((retargetref42_Join.f kj3 l0 l1).bind fun bt302 => ((retargetref42_Same.f kj3 t290 t294).bind fun t306 => (if t306 = true then (if t291 = t295 then ((retargetref42_Same.f kj3 t298 bt302.1).bind fun t307 => (if t307 = true then (retargetlaw42_RowsBuilds.j1 kj3 l0 l1 y281 y287 t290 t298 (t299 == bt302.2)) else (retargetlaw42_RowsBuilds.j1 kj3 l0 l1 y281 y287 t290 t298 false))) else (retargetlaw42_RowsBuilds.j1 kj3 l0 l1 y281 y287 t290 t298 false)) else (retargetlaw42_RowsBuilds.j1 kj3 l0 l1 y281 y287 t290 t298 false)))) = some r := H
            have A11 := Aside0.mk A110
            clear A110
            replace H := Option.bind_eq_some_iff.mp H
            obtain ⟨⟨t302, t303⟩, A120, H⟩ := H
            replace H : ((retargetref42_Same.f kj3 t290 t294).bind fun t306 => (if t306 = true then (if t291 = t295 then ((retargetref42_Same.f kj3 t298 t302).bind fun t307 => (if t307 = true then (retargetlaw42_RowsBuilds.j1 kj3 l0 l1 y281 y287 t290 t298 (t299 == t303)) else (retargetlaw42_RowsBuilds.j1 kj3 l0 l1 y281 y287 t290 t298 false))) else (retargetlaw42_RowsBuilds.j1 kj3 l0 l1 y281 y287 t290 t298 false)) else (retargetlaw42_RowsBuilds.j1 kj3 l0 l1 y281 y287 t290 t298 false))) = some r := H
            have A12 := Aside0.mk A120
            clear A120
            have HC13 := Aside0.mk H
            clear H
            go_upto_region 8 with (first | ((with_reducible refine gate_dst (N := 28) rfl ?_); (try (refine gate_guard (by rfl) ?_; dsimp only)); refine Kd.R_lit k72 _ 72 ?hg (N := 28) ?hd (xs := ([] : List (S72))) (inner := []) (ok := fun _ => True) (okp := fun _ => True) ?hr ?hp (fun _ hk => hk) trivial (Below.refl _ _) (Nat.le_refl _) (by simp) ?_; (case hd => rfl); (case hg => rfl); (case hr => first | (go_simp; done) | (go_simp; rfl)); (case hp => exact (Reps.none _ _)); intro v279 w14 ho15 hb hg_ hnew_; clear hg_ hnew_; (first | rw [← Ny278.out] at ho15 | (simp only [Int.reduceToNat] at ho15; rw [← Ny278.out] at ho15)); have n0_ := Aside0.mk (Kd.R_lower ho15 (below_size (by repeat (first | (with_reducible first | exact HB.out | apply below_alloc | apply pw_below_drewN | apply below_drew1) | exact HB.out)))); have n1_ := Aside0.mk (below_step (by repeat (first | (with_reducible first | exact HB.out | apply below_alloc | apply pw_below_drewN | apply below_drew1) | exact HB.out)) hb); clear HB; have HO280 := n0_; have HB := n1_; clear n0_ n1_; clear hb ho15) | ((with_reducible refine gate_builtin (b := .append) (xs := #[.tmp 28, .tmp 29]) rfl ?_); (try (refine gate_guard (by rfl) ?_; dsimp only)); at_builtin; refine Kd.R_append_rows k72 (w0 := w) w.heap.size rfl (.tmp 28) (.tmp 29) 22 72 (.agg #[(.int .u64 0), (.int .i64 0)]) 16 rfl Try.underlying22 info72 rfl (by decide) (by omega) v279 y278 l0 _ _ _ (fun _ => True) (fun _ => False) rfl rfl ?aO ?aR (fun _ _ h => h) (fun _ h => h.elim) ?aF ?aB ?aS ?aL ?_; (case aR => repeat (first | exact (Kd.C_below HR0.out HB.out) | (with_reducible refine Kd.C_alloc ?_ _) | (with_reducible refine Kd.C_drewN ?_ _) | (with_reducible refine Kd.C_drew ?_))); (case aB => exact (by repeat (first | (with_reducible first | exact HB.out | apply below_alloc | apply pw_below_drewN | apply below_drew1) | exact HB.out))); (case aF => exact (fun _ _ => trivial)); (case aO => exact (by (with_reducible repeat (first | apply Kd.R_alloc | apply Kd.R_drewN | apply Kd.R_drew)); exact HO280.out)); (case aS => exact (below_size (by repeat (first | (with_reducible first | exact HB.out | apply below_alloc | apply pw_below_drewN | apply below_drew1) | exact HB.out)))); (case aL => have := LMc7.out; omega); intro v282 w16 ho hb hg hat; rw [← Ny281.out] at ho; have n0_ := Aside0.mk (hb); have n1_ := Aside0.mk (ho); clear HB; clear HO280; have HB := n0_; have HO283 := n1_; clear n0_ n1_; clear ho hb hg hat) | ((with_reducible refine gate_dst (N := 31) rfl ?_); (try (refine gate_guard (by rfl) ?_; dsimp only)); refine Kd.R_lit k72 _ 72 ?hg (N := 31) ?hd (xs := ([] : List (S72))) (inner := []) (ok := fun _ => True) (okp := fun _ => True) ?hr ?hp (fun _ hk => hk) trivial (Below.refl _ _) (Nat.le_refl _) (by simp) ?_; (case hd => rfl); (case hg => rfl); (case hr => first | (go_simp; done) | (go_simp; rfl)); (case hp => exact (Reps.none _ _)); intro v285 w17 ho18 hb hg_ hnew_; clear hg_ hnew_; (first | rw [← Ny284.out] at ho18 | (simp only [Int.reduceToNat] at ho18; rw [← Ny284.out] at ho18)); have n0_ := Aside0.mk (Kd.R_elder' (by (with_reducible repeat (first | apply Kd.R_alloc | apply Kd.R_drewN | apply Kd.R_drew)); exact HO283.out) (Kd.R_base ho18) hb); have n1_ := Aside0.mk (Kd.R_lower (Kd.R_new' ho18 (Kd.R_lt (by (with_reducible repeat (first | apply Kd.R_alloc | apply Kd.R_drewN | apply Kd.R_drew)); exact HO283.out))) (below_size (by repeat (first | (with_reducible first | exact HB.out | apply below_alloc | apply pw_below_drewN | apply below_drew1) | exact HB.out)))); have n2_ := Aside0.mk (below_step (by repeat (first | (with_reducible first | exact HB.out | apply below_alloc | apply pw_below_drewN | apply below_drew1) | exact HB.out)) hb); clear HO283; clear HB; have HO283 := n0_; have HO286 := n1_; have HB := n2_; clear n0_ n1_ n2_; clear hb ho18) | ((with_reducible refine gate_builtin (b := .append) (xs := #[.tmp 31, .tmp 32]) rfl ?_); (try (refine gate_guard (by rfl) ?_; dsimp only)); at_builtin; refine Kd.R_append_rows k72 (w0 := w) w.heap.size rfl (.tmp 31) (.tmp 32) 22 72 (.agg #[(.int .u64 0), (.int .i64 0)]) 16 rfl Try.underlying22 info72 rfl (by decide) (by omega) v285 y284 l1 _ _ _ (fun k_ => some k_ ≠ (v282 : Value).ownBlock) (fun _ => False) rfl rfl ?aO ?aR (fun _ _ h => h) (fun _ h => h.elim) ?aF ?aB ?aS ?aL ?_; (case aR => repeat (first | exact (Kd.C_below HR1.out HB.out) | (with_reducible refine Kd.C_alloc ?_ _) | (with_reducible refine Kd.C_drewN ?_ _) | (with_reducible refine Kd.C_drew ?_))); (case aB => exact (by repeat (first | (with_reducible first | exact HB.out | apply below_alloc | apply pw_below_drewN | apply below_drew1) | exact HB.out))); (case aF => exact (fun k_ hk => Kd.fresh' (Kd.R_lt (by (with_reducible repeat (first | apply Kd.R_alloc | apply Kd.R_drewN | apply Kd.R_drew)); exact HO283.out)) k_ hk)); (case aO => exact (by (with_reducible repeat (first | apply Kd.R_alloc | apply Kd.R_drewN | apply Kd.R_drew)); exact Kd.R_mono HO286.out (fun _ hk => hk.2))); (case aS => exact (below_size (by repeat (first | (with_reducible first | exact HB.out | apply below_alloc | apply pw_below_drewN | apply below_drew1) | exact HB.out)))); (case aL => have := LMc8.out; omega); intro v288 w19 ho hb hg hat; rw [← Ny287.out] at ho; have n0_ := Aside0.mk (Kd.R_after (ok := (fun _ => True)) (by (with_reducible repeat (first | apply Kd.R_alloc | apply Kd.R_drewN | apply Kd.R_drew)); exact HO283.out) hg hat); have n1_ := Aside0.mk (hb); have n2_ := Aside0.mk (ho); clear HO283; clear HB; clear HO286; have HO283 := n0_; have HB := n1_; have HO289 := n2_; clear n0_ n1_ n2_; clear ho hb hg hat) | ((with_reducible refine gate_callee (f := 49) rfl ?_); refine goesL_ (some 37) rfl rfl Try.func49 (by kernel_rfl) rfl #[.slice A0 l0.length c0, .int .u64 a2] rfl (by (try simp only [List.map_toArray, List.map_cons, List.map_nil]); first | done | rfl | (simp only [List.length_drop, List.length_take]; rfl)) ?_; (with_reducible refine (rows_Shift.calls kj3 _ _ l0 a2 t290 t291 _ ?side1 ?side2 A9.out).mono ?_); (case side1 => repeat (first | exact (Kd.C_below HR0.out HB.out) | (with_reducible refine Kd.C_alloc ?_ _) | (with_reducible refine Kd.C_drewN ?_ _) | (with_reducible refine Kd.C_drew ?_))); (case side2 => exact HC0.out); rintro e w20 ⟨v292, rfl, ho0, hb⟩; refine ⟨_, rfl, ?_⟩; have n0_ := Aside0.mk (Kd.R_elder' (by (with_reducible repeat (first | apply Kd.R_alloc | apply Kd.R_drewN | apply Kd.R_drew)); exact HO283.out) (Kd.R_base ho0) hb); have n1_ := Aside0.mk (Kd.R_elder' (by (with_reducible repeat (first | apply Kd.R_alloc | apply Kd.R_drewN | apply Kd.R_drew)); exact HO289.out) (Kd.R_base ho0) hb); have n2_ := Aside0.mk (Kd.R_lower (Kd.R_new' (Kd.R_new' ho0 (Kd.R_lt (by (with_reducible repeat (first | apply Kd.R_alloc | apply Kd.R_drewN | apply Kd.R_drew)); exact HO283.out))) (Kd.R_lt (by (with_reducible repeat (first | apply Kd.R_alloc | apply Kd.R_drewN | apply Kd.R_drew)); exact HO289.out))) (below_size (by repeat (first | (with_reducible first | exact HB.out | apply below_alloc | apply pw_below_drewN | apply below_drew1) | exact HB.out)))); have n3_ := Aside0.mk (below_step (by repeat (first | (with_reducible first | exact HB.out | apply below_alloc | apply pw_below_drewN | apply below_drew1) | exact HB.out)) hb); clear HO283; clear HO289; clear HB; have HO283 := n0_; have HO289 := n1_; have HO293 := n2_; have HB := n3_; clear n0_ n1_ n2_ n3_; (try clear hb); (try clear hb2); (try clear hk); (try clear hi); (try clear ho0)) | ((with_reducible refine gate_callee (f := 50) rfl ?_); refine goesL_ (some 43) rfl rfl Try.func50 (by kernel_rfl) rfl #[.slice A0 l0.length c0, .int .u64 a2] rfl (by (try simp only [List.map_toArray, List.map_cons, List.map_nil]); first | done | rfl | (simp only [List.length_drop, List.length_take]; rfl)) ?_; (with_reducible refine (retargetref42_Shift.calls kj3 _ _ l0 a2 t294 t295 _ ?side1 ?side2 A10.out).mono ?_); (case side1 => repeat (first | exact (Kd.C_below HR0.out HB.out) | (with_reducible refine Kd.C_alloc ?_ _) | (with_reducible refine Kd.C_drewN ?_ _) | (with_reducible refine Kd.C_drew ?_))); (case side2 => exact HC0.out); rintro e w21 ⟨v296, rfl, ho0, hb⟩; refine ⟨_, rfl, ?_⟩; have n0_ := Aside0.mk (Kd.R_elder' (by (with_reducible repeat (first | apply Kd.R_alloc | apply Kd.R_drewN | apply Kd.R_drew)); exact HO283.out) (Kd.R_base ho0) hb); have n1_ := Aside0.mk (Kd.R_elder' (by (with_reducible repeat (first | apply Kd.R_alloc | apply Kd.R_drewN | apply Kd.R_drew)); exact HO289.out) (Kd.R_base ho0) hb); have n2_ := Aside0.mk (Kd.R_elder' (by (with_reducible repeat (first | apply Kd.R_alloc | apply Kd.R_drewN | apply Kd.R_drew)); exact HO293.out) (Kd.R_base ho0) hb); have n3_ := Aside0.mk (Kd.R_lower (Kd.R_new' (Kd.R_new' (Kd.R_new' ho0 (Kd.R_lt (by (with_reducible repeat (first | apply Kd.R_alloc | apply Kd.R_drewN | apply Kd.R_drew)); exact HO283.out))) (Kd.R_lt (by (with_reducible repeat (first | apply Kd.R_alloc | apply Kd.R_drewN | apply Kd.R_drew)); exact HO289.out))) (Kd.R_lt (by (with_reducible repeat (first | apply Kd.R_alloc | apply Kd.R_drewN | apply Kd.R_drew)); exact HO293.out))) (below_size (by repeat (first | (with_reducible first | exact HB.out | apply below_alloc | apply pw_below_drewN | apply below_drew1) | exact HB.out)))); have n4_ := Aside0.mk (below_step (by repeat (first | (with_reducible first | exact HB.out | apply below_alloc | apply pw_below_drewN | apply below_drew1) | exact HB.out)) hb); clear HO283; clear HO289; clear HO293; clear HB; have HO283 := n0_; have HO289 := n1_; have HO293 := n2_; have HO297 := n3_; have HB := n4_; clear n0_ n1_ n2_ n3_ n4_; (try clear hb); (try clear hb2); (try clear hk); (try clear hi); (try clear ho0)) | ((with_reducible refine gate_callee (f := 51) rfl ?_); refine goesL_ (some 49) rfl rfl Try.func51 (by kernel_rfl) rfl #[.slice A0 l0.length c0, .slice A1 l1.length c1] rfl (by (try simp only [List.map_toArray, List.map_cons, List.map_nil]); first | done | rfl | (simp only [List.length_drop, List.length_take]; rfl)) ?_; (with_reducible refine (rows_Join.calls kj3 _ _ l0 _ _ l1 t298 t299 _ ?side1 ?side2 ?side3 ?side4 A11.out).mono ?_); (case side1 => repeat (first | exact (Kd.C_below HR0.out HB.out) | (with_reducible refine Kd.C_alloc ?_ _) | (with_reducible refine Kd.C_drewN ?_ _) | (with_reducible refine Kd.C_drew ?_))); (case side2 => exact HC0.out); (case side3 => repeat (first | exact (Kd.C_below HR1.out HB.out) | (with_reducible refine Kd.C_alloc ?_ _) | (with_reducible refine Kd.C_drewN ?_ _) | (with_reducible refine Kd.C_drew ?_))); (case side4 => exact HC1.out); rintro e w22 ⟨v300, rfl, ho0, hb⟩; refine ⟨_, rfl, ?_⟩; have n0_ := Aside0.mk (Kd.R_elder' (by (with_reducible repeat (first | apply Kd.R_alloc | apply Kd.R_drewN | apply Kd.R_drew)); exact HO283.out) (Kd.R_base ho0) hb); have n1_ := Aside0.mk (Kd.R_elder' (by (with_reducible repeat (first | apply Kd.R_alloc | apply Kd.R_drewN | apply Kd.R_drew)); exact HO289.out) (Kd.R_base ho0) hb); have n2_ := Aside0.mk (Kd.R_elder' (by (with_reducible repeat (first | apply Kd.R_alloc | apply Kd.R_drewN | apply Kd.R_drew)); exact HO293.out) (Kd.R_base ho0) hb); have n3_ := Aside0.mk (Kd.R_elder' (by (with_reducible repeat (first | apply Kd.R_alloc | apply Kd.R_drewN | apply Kd.R_drew)); exact HO297.out) (Kd.R_base ho0) hb); have n4_ := Aside0.mk (Kd.R_lower (Kd.R_new' (Kd.R_new' (Kd.R_new' (Kd.R_new' ho0 (Kd.R_lt (by (with_reducible repeat (first | apply Kd.R_alloc | apply Kd.R_drewN | apply Kd.R_drew)); exact HO283.out))) (Kd.R_lt (by (with_reducible repeat (first | apply Kd.R_alloc | apply Kd.R_drewN | apply Kd.R_drew)); exact HO289.out))) (Kd.R_lt (by (with_reducible repeat (first | apply Kd.R_alloc | apply Kd.R_drewN | apply Kd.R_drew)); exact HO293.out))) (Kd.R_lt (by (with_reducible repeat (first | apply Kd.R_alloc | apply Kd.R_drewN | apply Kd.R_drew)); exact HO297.out))) (below_size (by repeat (first | (with_reducible first | exact HB.out | apply below_alloc | apply pw_below_drewN | apply below_drew1) | exact HB.out)))); have n5_ := Aside0.mk (below_step (by repeat (first | (with_reducible first | exact HB.out | apply below_alloc | apply pw_below_drewN | apply below_drew1) | exact HB.out)) hb); clear HO283; clear HO289; clear HO293; clear HO297; clear HB; have HO283 := n0_; have HO289 := n1_; have HO293 := n2_; have HO297 := n3_; have HO301 := n4_; have HB := n5_; clear n0_ n1_ n2_ n3_ n4_ n5_; (try clear hb); (try clear hb2); (try clear hk); (try clear hi); (try clear ho0)) | ((with_reducible refine gate_callee (f := 52) rfl ?_); refine goesL_ (some 55) rfl rfl Try.func52 (by kernel_rfl) rfl #[.slice A0 l0.length c0, .slice A1 l1.length c1] rfl (by (try simp only [List.map_toArray, List.map_cons, List.map_nil]); first | done | rfl | (simp only [List.length_drop, List.length_take]; rfl)) ?_; (with_reducible refine (retargetref42_Join.calls kj3 _ _ l0 _ _ l1 t302 t303 _ ?side1 ?side2 ?side3 ?side4 A12.out).mono ?_); (case side1 => repeat (first | exact (Kd.C_below HR0.out HB.out) | (with_reducible refine Kd.C_alloc ?_ _) | (with_reducible refine Kd.C_drewN ?_ _) | (with_reducible refine Kd.C_drew ?_))); (case side2 => exact HC0.out); (case side3 => repeat (first | exact (Kd.C_below HR1.out HB.out) | (with_reducible refine Kd.C_alloc ?_ _) | (with_reducible refine Kd.C_drewN ?_ _) | (with_reducible refine Kd.C_drew ?_))); (case side4 => exact HC1.out); rintro e w23 ⟨v304, rfl, ho0, hb⟩; refine ⟨_, rfl, ?_⟩; have n0_ := Aside0.mk (Kd.R_elder' (by (with_reducible repeat (first | apply Kd.R_alloc | apply Kd.R_drewN | apply Kd.R_drew)); exact HO283.out) (Kd.R_base ho0) hb); have n1_ := Aside0.mk (Kd.R_elder' (by (with_reducible repeat (first | apply Kd.R_alloc | apply Kd.R_drewN | apply Kd.R_drew)); exact HO289.out) (Kd.R_base ho0) hb); have n2_ := Aside0.mk (Kd.R_elder' (by (with_reducible repeat (first | apply Kd.R_alloc | apply Kd.R_drewN | apply Kd.R_drew)); exact HO293.out) (Kd.R_base ho0) hb); have n3_ := Aside0.mk (Kd.R_elder' (by (with_reducible repeat (first | apply Kd.R_alloc | apply Kd.R_drewN | apply Kd.R_drew)); exact HO297.out) (Kd.R_base ho0) hb); have n4_ := Aside0.mk (Kd.R_elder' (by (with_reducible repeat (first | apply Kd.R_alloc | apply Kd.R_drewN | apply Kd.R_drew)); exact HO301.out) (Kd.R_base ho0) hb); have n5_ := Aside0.mk (Kd.R_lower (Kd.R_new' (Kd.R_new' (Kd.R_new' (Kd.R_new' (Kd.R_new' ho0 (Kd.R_lt (by (with_reducible repeat (first | apply Kd.R_alloc | apply Kd.R_drewN | apply Kd.R_drew)); exact HO283.out))) (Kd.R_lt (by (with_reducible repeat (first | apply Kd.R_alloc | apply Kd.R_drewN | apply Kd.R_drew)); exact HO289.out))) (Kd.R_lt (by (with_reducible repeat (first | apply Kd.R_alloc | apply Kd.R_drewN | apply Kd.R_drew)); exact HO293.out))) (Kd.R_lt (by (with_reducible repeat (first | apply Kd.R_alloc | apply Kd.R_drewN | apply Kd.R_drew)); exact HO297.out))) (Kd.R_lt (by (with_reducible repeat (first | apply Kd.R_alloc | apply Kd.R_drewN | apply Kd.R_drew)); exact HO301.out))) (below_size (by repeat (first | (with_reducible first | exact HB.out | apply below_alloc | apply pw_below_drewN | apply below_drew1) | exact HB.out)))); have n6_ := Aside0.mk (below_step (by repeat (first | (with_reducible first | exact HB.out | apply below_alloc | apply pw_below_drewN | apply below_drew1) | exact HB.out)) hb); clear HO283; clear HO289; clear HO293; clear HO297; clear HO301; clear HB; have HO283 := n0_; have HO289 := n1_; have HO293 := n2_; have HO297 := n3_; have HO301 := n4_; have HO305 := n5_; have HB := n6_; clear n0_ n1_ n2_ n3_ n4_ n5_ n6_; (try clear hb); (try clear hb2); (try clear hk); (try clear hi); (try clear ho0)))
            (try simp only [Act.put, List.setIfInBounds_toArray, List.set_cons_zero, List.set_cons_succ])
            go_cut [17] (fun v17 wc => ∃ (kq : Nat) (x17_12 : Bool), v17 = .bool x17_12 ∧ Aside0 (retargetlaw42_RowsBuilds.j1 kq l0 l1 y281 y287 t290 t298 x17_12 = some r) ∧ Aside0 (kq ≤ kj3) ∧ Aside0 (Kd.R k72 72 wc w.heap.size (fun k_ => some k_ ≠ (v288 : Value).ownBlock ∧ some k_ ≠ (v292 : Value).ownBlock ∧ some k_ ≠ (v300 : Value).ownBlock) v282 y281) ∧ Aside0 (Kd.R k72 72 wc w.heap.size (fun k_ => some k_ ≠ (v282 : Value).ownBlock ∧ some k_ ≠ (v292 : Value).ownBlock ∧ some k_ ≠ (v300 : Value).ownBlock) v288 y287) ∧ Aside0 (Kd.R k72 72 wc w.heap.size (fun k_ => some k_ ≠ (v282 : Value).ownBlock ∧ some k_ ≠ (v288 : Value).ownBlock ∧ some k_ ≠ (v300 : Value).ownBlock) v292 t290) ∧ Aside0 (Kd.R k72 72 wc w.heap.size (fun k_ => some k_ ≠ (v282 : Value).ownBlock ∧ some k_ ≠ (v288 : Value).ownBlock ∧ some k_ ≠ (v292 : Value).ownBlock) v300 t298) ∧ Aside0 (Below w.heap.size w wc))
            case first =>
              have H := HC13.out
              clear HC13
              replace H := Option.bind_eq_some_iff.mp H
              obtain ⟨t306, A240, H⟩ := H
              replace H : (if t306 = true then (if t291 = t295 then ((retargetref42_Same.f kj3 t298 t302).bind fun t307 => (if t307 = true then (retargetlaw42_RowsBuilds.j1 kj3 l0 l1 y281 y287 t290 t298 (t299 == t303)) else (retargetlaw42_RowsBuilds.j1 kj3 l0 l1 y281 y287 t290 t298 false))) else (retargetlaw42_RowsBuilds.j1 kj3 l0 l1 y281 y287 t290 t298 false)) else (retargetlaw42_RowsBuilds.j1 kj3 l0 l1 y281 y287 t290 t298 false)) = some r := H
              have A24 := Aside0.mk A240
              clear A240
              by_cases c25 : t306 = true
              · subst c25
                have H1 : (if t291 = t295 then ((retargetref42_Same.f kj3 t298 t302).bind fun t307 => (if t307 = true then (retargetlaw42_RowsBuilds.j1 kj3 l0 l1 y281 y287 t290 t298 (t299 == t303)) else (retargetlaw42_RowsBuilds.j1 kj3 l0 l1 y281 y287 t290 t298 false))) else (retargetlaw42_RowsBuilds.j1 kj3 l0 l1 y281 y287 t290 t298 false)) = some r := by rw [if_pos rfl] at H; exact H
                clear H
                have H := H1
                clear H1
                by_cases c26 : t291 = t295
                · rw [if_pos c26] at H
                  have c26b0 : (t291 == t295) = true := beq_iff_eq.mpr c26
                  have c26b1 : (t291 != t295) = false := bne_eq_false_iff_eq.mpr c26
                  clear c26
                  (first | rw [c26b0] | (simp only [i64_w, i32_w]; rw [c26b0]) | skip)
                  replace H := Option.bind_eq_some_iff.mp H
                  obtain ⟨t307, A270, H⟩ := H
                  replace H : (if t307 = true then (retargetlaw42_RowsBuilds.j1 kj3 l0 l1 y281 y287 t290 t298 (t299 == t303)) else (retargetlaw42_RowsBuilds.j1 kj3 l0 l1 y281 y287 t290 t298 false)) = some r := H
                  have A27 := Aside0.mk A270
                  clear A270
                  by_cases c28 : t307 = true
                  · subst c28
                    have H1 : (retargetlaw42_RowsBuilds.j1 kj3 l0 l1 y281 y287 t290 t298 (t299 == t303)) = some r := by rw [if_pos rfl] at H; exact H
                    clear H
                    have H := H1
                    clear H1
                    have H' := Aside0.mk H
                    clear H
                    obtain ⟨Ao29, co29, eo29⟩ := Kd.R_slice HO293.out
                    subst eo29
                    obtain ⟨Ao30, co30, eo30⟩ := Kd.R_slice HO297.out
                    subst eo30
                    go_wp2_with (first | ((with_reducible refine gate_callee (f := 53) rfl ?_); refine goesL_ (some 60) rfl rfl Try.func53 (by kernel_rfl) rfl #[.slice Ao29 t290.length co29, .slice Ao30 t294.length co30] rfl (by (try simp only [List.map_toArray, List.map_cons, List.map_nil]); first | done | rfl | (simp only [List.length_drop, List.length_take]; rfl)) ?_; (with_reducible refine (retargetref42_Same.calls kj3 _ _ t290 _ _ t294 true _ ?side1 ?side2 ?side3 ?side4 A24.out).mono ?_); (case side1 => repeat (first | exact (Kd.R_reads' HO293.out).2.2 | (with_reducible refine Kd.C_alloc ?_ _) | (with_reducible refine Kd.C_drewN ?_ _) | (with_reducible refine Kd.C_drew ?_))); (case side2 => exact (Kd.R_reads' HO293.out).2.1); (case side3 => repeat (first | exact (Kd.R_reads' HO297.out).2.2 | (with_reducible refine Kd.C_alloc ?_ _) | (with_reducible refine Kd.C_drewN ?_ _) | (with_reducible refine Kd.C_drew ?_))); (case side4 => exact (Kd.R_reads' HO297.out).2.1); rintro e w' ⟨rfl, ⟨nd, rfl⟩⟩; refine ⟨_, rfl, ?_⟩; obtain ⟨Ao31, co31, eo31⟩ := Kd.R_slice HO301.out; subst eo31; obtain ⟨Ao32, co32, eo32⟩ := Kd.R_slice HO305.out; subst eo32) | (go_at_call 53; (with_reducible refine (retargetref42_Same.calls kj3 _ _ t298 _ _ t302 true _ ?side1 ?side2 ?side3 ?side4 A27.out).mono ?_); (case side1 => repeat (first | exact (Kd.R_reads' HO301.out).2.2 | (with_reducible refine Kd.C_alloc ?_ _) | (with_reducible refine Kd.C_drewN ?_ _) | (with_reducible refine Kd.C_drew ?_))); (case side2 => exact (Kd.R_reads' HO301.out).2.1); (case side3 => repeat (first | exact (Kd.R_reads' HO305.out).2.2 | (with_reducible refine Kd.C_alloc ?_ _) | (with_reducible refine Kd.C_drewN ?_ _) | (with_reducible refine Kd.C_drew ?_))); (case side4 => exact (Kd.R_reads' HO305.out).2.1); rintro e w' ⟨rfl, ⟨nd, rfl⟩⟩))
                    go_meet
                    case rel => exact ⟨_, ((t299 == t303)), (by first | rfl | (simp; done) | (simp [*]; done)), H', ⟨by have := HJ3.out; first | omega | exact Nat.le_refl _⟩, ⟨by (with_reducible repeat (first | apply Kd.R_alloc | apply Kd.R_drewN | apply Kd.R_drew)); exact Kd.R_mono HO283.out (fun _ hk => ⟨hk.1.1.1.1.2, ⟨hk.1.1.1.2, hk.1.2⟩⟩)⟩, ⟨by (with_reducible repeat (first | apply Kd.R_alloc | apply Kd.R_drewN | apply Kd.R_drew)); exact Kd.R_mono HO289.out (fun _ hk => ⟨hk.1.1.1.1, ⟨hk.1.1.1.2, hk.1.2⟩⟩)⟩, ⟨by (with_reducible repeat (first | apply Kd.R_alloc | apply Kd.R_drewN | apply Kd.R_drew)); exact Kd.R_mono HO293.out (fun _ hk => ⟨hk.1.1.1.1.2, ⟨hk.1.1.1.2, hk.1.2⟩⟩)⟩, ⟨by (with_reducible repeat (first | apply Kd.R_alloc | apply Kd.R_drewN | apply Kd.R_drew)); exact Kd.R_mono HO301.out (fun _ hk => ⟨hk.1.1.1.1.2, ⟨hk.1.1.1.2, hk.1.1.2⟩⟩)⟩, ⟨by repeat (first | (with_reducible first | exact HB.out | apply below_alloc | apply pw_below_drewN | apply below_drew1) | exact HB.out)⟩⟩
                  · replace c28 := Bool.eq_false_iff.mpr c28
                    subst c28
                    have H1 : (retargetlaw42_RowsBuilds.j1 kj3 l0 l1 y281 y287 t290 t298 false) = some r := by rw [if_neg (show ¬ (false = true) by decide)] at H; exact H
                    clear H
                    have H := H1
                    clear H1
                    have H' := Aside0.mk H
                    clear H
                    obtain ⟨Ao33, co33, eo33⟩ := Kd.R_slice HO293.out
                    subst eo33
                    obtain ⟨Ao34, co34, eo34⟩ := Kd.R_slice HO297.out
                    subst eo34
                    go_wp2_with (first | ((with_reducible refine gate_callee (f := 53) rfl ?_); refine goesL_ (some 60) rfl rfl Try.func53 (by kernel_rfl) rfl #[.slice Ao33 t290.length co33, .slice Ao34 t294.length co34] rfl (by (try simp only [List.map_toArray, List.map_cons, List.map_nil]); first | done | rfl | (simp only [List.length_drop, List.length_take]; rfl)) ?_; (with_reducible refine (retargetref42_Same.calls kj3 _ _ t290 _ _ t294 true _ ?side1 ?side2 ?side3 ?side4 A24.out).mono ?_); (case side1 => repeat (first | exact (Kd.R_reads' HO293.out).2.2 | (with_reducible refine Kd.C_alloc ?_ _) | (with_reducible refine Kd.C_drewN ?_ _) | (with_reducible refine Kd.C_drew ?_))); (case side2 => exact (Kd.R_reads' HO293.out).2.1); (case side3 => repeat (first | exact (Kd.R_reads' HO297.out).2.2 | (with_reducible refine Kd.C_alloc ?_ _) | (with_reducible refine Kd.C_drewN ?_ _) | (with_reducible refine Kd.C_drew ?_))); (case side4 => exact (Kd.R_reads' HO297.out).2.1); rintro e w' ⟨rfl, ⟨nd, rfl⟩⟩; refine ⟨_, rfl, ?_⟩; obtain ⟨Ao35, co35, eo35⟩ := Kd.R_slice HO301.out; subst eo35; obtain ⟨Ao36, co36, eo36⟩ := Kd.R_slice HO305.out; subst eo36) | (go_at_call 53; (with_reducible refine (retargetref42_Same.calls kj3 _ _ t298 _ _ t302 false _ ?side1 ?side2 ?side3 ?side4 A27.out).mono ?_); (case side1 => repeat (first | exact (Kd.R_reads' HO301.out).2.2 | (with_reducible refine Kd.C_alloc ?_ _) | (with_reducible refine Kd.C_drewN ?_ _) | (with_reducible refine Kd.C_drew ?_))); (case side2 => exact (Kd.R_reads' HO301.out).2.1); (case side3 => repeat (first | exact (Kd.R_reads' HO305.out).2.2 | (with_reducible refine Kd.C_alloc ?_ _) | (with_reducible refine Kd.C_drewN ?_ _) | (with_reducible refine Kd.C_drew ?_))); (case side4 => exact (Kd.R_reads' HO305.out).2.1); rintro e w' ⟨rfl, ⟨nd, rfl⟩⟩))
                    go_meet
                    case rel => exact ⟨_, (false), (by first | rfl | (simp; done) | (simp [*]; done)), H', ⟨by have := HJ3.out; first | omega | exact Nat.le_refl _⟩, ⟨by (with_reducible repeat (first | apply Kd.R_alloc | apply Kd.R_drewN | apply Kd.R_drew)); exact Kd.R_mono HO283.out (fun _ hk => ⟨hk.1.1.1.1.2, ⟨hk.1.1.1.2, hk.1.2⟩⟩)⟩, ⟨by (with_reducible repeat (first | apply Kd.R_alloc | apply Kd.R_drewN | apply Kd.R_drew)); exact Kd.R_mono HO289.out (fun _ hk => ⟨hk.1.1.1.1, ⟨hk.1.1.1.2, hk.1.2⟩⟩)⟩, ⟨by (with_reducible repeat (first | apply Kd.R_alloc | apply Kd.R_drewN | apply Kd.R_drew)); exact Kd.R_mono HO293.out (fun _ hk => ⟨hk.1.1.1.1.2, ⟨hk.1.1.1.2, hk.1.2⟩⟩)⟩, ⟨by (with_reducible repeat (first | apply Kd.R_alloc | apply Kd.R_drewN | apply Kd.R_drew)); exact Kd.R_mono HO301.out (fun _ hk => ⟨hk.1.1.1.1.2, ⟨hk.1.1.1.2, hk.1.1.2⟩⟩)⟩, ⟨by repeat (first | (with_reducible first | exact HB.out | apply below_alloc | apply pw_below_drewN | apply below_drew1) | exact HB.out)⟩⟩
                · rw [if_neg c26] at H
                  have c26b0 : (t291 == t295) = false := beq_eq_false_iff_ne.mpr c26
                  have c26b1 : (t291 != t295) = true := bne_iff_ne.mpr c26
                  (first | rw [c26b0] | (simp only [i64_w, i32_w]; rw [c26b0]) | skip)
                  have H' := Aside0.mk H
                  clear H
                  obtain ⟨Ao37, co37, eo37⟩ := Kd.R_slice HO293.out
                  subst eo37
                  obtain ⟨Ao38, co38, eo38⟩ := Kd.R_slice HO297.out
                  subst eo38
                  go_wp2_with (first | ((with_reducible refine gate_callee (f := 53) rfl ?_); refine goesL_ (some 60) rfl rfl Try.func53 (by kernel_rfl) rfl #[.slice Ao37 t290.length co37, .slice Ao38 t294.length co38] rfl (by (try simp only [List.map_toArray, List.map_cons, List.map_nil]); first | done | rfl | (simp only [List.length_drop, List.length_take]; rfl)) ?_; (with_reducible refine (retargetref42_Same.calls kj3 _ _ t290 _ _ t294 true _ ?side1 ?side2 ?side3 ?side4 A24.out).mono ?_); (case side1 => repeat (first | exact (Kd.R_reads' HO293.out).2.2 | (with_reducible refine Kd.C_alloc ?_ _) | (with_reducible refine Kd.C_drewN ?_ _) | (with_reducible refine Kd.C_drew ?_))); (case side2 => exact (Kd.R_reads' HO293.out).2.1); (case side3 => repeat (first | exact (Kd.R_reads' HO297.out).2.2 | (with_reducible refine Kd.C_alloc ?_ _) | (with_reducible refine Kd.C_drewN ?_ _) | (with_reducible refine Kd.C_drew ?_))); (case side4 => exact (Kd.R_reads' HO297.out).2.1); rintro e w' ⟨rfl, ⟨nd, rfl⟩⟩; refine ⟨_, rfl, ?_⟩))
                  go_meet
                  case rel => exact ⟨_, (false), (by first | rfl | (simp; done) | (simp [*]; done)), H', ⟨by have := HJ3.out; first | omega | exact Nat.le_refl _⟩, ⟨by (with_reducible repeat (first | apply Kd.R_alloc | apply Kd.R_drewN | apply Kd.R_drew)); exact Kd.R_mono HO283.out (fun _ hk => ⟨hk.1.1.1.1.2, ⟨hk.1.1.1.2, hk.1.2⟩⟩)⟩, ⟨by (with_reducible repeat (first | apply Kd.R_alloc | apply Kd.R_drewN | apply Kd.R_drew)); exact Kd.R_mono HO289.out (fun _ hk => ⟨hk.1.1.1.1, ⟨hk.1.1.1.2, hk.1.2⟩⟩)⟩, ⟨by (with_reducible repeat (first | apply Kd.R_alloc | apply Kd.R_drewN | apply Kd.R_drew)); exact Kd.R_mono HO293.out (fun _ hk => ⟨hk.1.1.1.1.2, ⟨hk.1.1.1.2, hk.1.2⟩⟩)⟩, ⟨by (with_reducible repeat (first | apply Kd.R_alloc | apply Kd.R_drewN | apply Kd.R_drew)); exact Kd.R_mono HO301.out (fun _ hk => ⟨hk.1.1.1.1.2, ⟨hk.1.1.1.2, hk.1.1.2⟩⟩)⟩, ⟨by repeat (first | (with_reducible first | exact HB.out | apply below_alloc | apply pw_below_drewN | apply below_drew1) | exact HB.out)⟩⟩
              · replace c25 := Bool.eq_false_iff.mpr c25
                subst c25
                have H1 : (retargetlaw42_RowsBuilds.j1 kj3 l0 l1 y281 y287 t290 t298 false) = some r := by rw [if_neg (show ¬ (false = true) by decide)] at H; exact H
                clear H
                have H := H1
                clear H1
                have H' := Aside0.mk H
                clear H
                obtain ⟨Ao39, co39, eo39⟩ := Kd.R_slice HO293.out
                subst eo39
                obtain ⟨Ao40, co40, eo40⟩ := Kd.R_slice HO297.out
                subst eo40
                go_wp2_with (first | ((with_reducible refine gate_callee (f := 53) rfl ?_); refine goesL_ (some 60) rfl rfl Try.func53 (by kernel_rfl) rfl #[.slice Ao39 t290.length co39, .slice Ao40 t294.length co40] rfl (by (try simp only [List.map_toArray, List.map_cons, List.map_nil]); first | done | rfl | (simp only [List.length_drop, List.length_take]; rfl)) ?_; (with_reducible refine (retargetref42_Same.calls kj3 _ _ t290 _ _ t294 false _ ?side1 ?side2 ?side3 ?side4 A24.out).mono ?_); (case side1 => repeat (first | exact (Kd.R_reads' HO293.out).2.2 | (with_reducible refine Kd.C_alloc ?_ _) | (with_reducible refine Kd.C_drewN ?_ _) | (with_reducible refine Kd.C_drew ?_))); (case side2 => exact (Kd.R_reads' HO293.out).2.1); (case side3 => repeat (first | exact (Kd.R_reads' HO297.out).2.2 | (with_reducible refine Kd.C_alloc ?_ _) | (with_reducible refine Kd.C_drewN ?_ _) | (with_reducible refine Kd.C_drew ?_))); (case side4 => exact (Kd.R_reads' HO297.out).2.1); rintro e w' ⟨rfl, ⟨nd, rfl⟩⟩; refine ⟨_, rfl, ?_⟩))
                go_meet
                case rel => exact ⟨_, (false), (by first | rfl | (simp; done) | (simp [*]; done)), H', ⟨by have := HJ3.out; first | omega | exact Nat.le_refl _⟩, ⟨by (with_reducible repeat (first | apply Kd.R_alloc | apply Kd.R_drewN | apply Kd.R_drew)); exact Kd.R_mono HO283.out (fun _ hk => ⟨hk.1.1.1.1.2, ⟨hk.1.1.1.2, hk.1.2⟩⟩)⟩, ⟨by (with_reducible repeat (first | apply Kd.R_alloc | apply Kd.R_drewN | apply Kd.R_drew)); exact Kd.R_mono HO289.out (fun _ hk => ⟨hk.1.1.1.1, ⟨hk.1.1.1.2, hk.1.2⟩⟩)⟩, ⟨by (with_reducible repeat (first | apply Kd.R_alloc | apply Kd.R_drewN | apply Kd.R_drew)); exact Kd.R_mono HO293.out (fun _ hk => ⟨hk.1.1.1.1.2, ⟨hk.1.1.1.2, hk.1.2⟩⟩)⟩, ⟨by (with_reducible repeat (first | apply Kd.R_alloc | apply Kd.R_drewN | apply Kd.R_drew)); exact Kd.R_mono HO301.out (fun _ hk => ⟨hk.1.1.1.1.2, ⟨hk.1.1.1.2, hk.1.1.2⟩⟩)⟩, ⟨by repeat (first | (with_reducible first | exact HB.out | apply below_alloc | apply pw_below_drewN | apply below_drew1) | exact HB.out)⟩⟩
            case rest =>
              clear HC13
              try clear c1
              try clear c2
              try clear p2
              try clear c4
              try clear c5
              try clear c5b0
              try clear c5b1
              try clear c6
              try clear c7
              try clear c8
              try clear c25
              try clear c26
              try clear c26b0
              try clear c26b1
              try clear c28
              try clear p2
              obtain ⟨kq, x17_12, rfl, HA, HJ12, HO_7, HO_8, HO_9, HO_13, HB⟩ := hcut
              cases kq with
              | zero => exact absurd HA.out (by simp [retargetlaw42_RowsBuilds.j1])
              | succ kj12 =>
                have H := HA.out
                clear HA
                simp only [retargetlaw42_RowsBuilds.j1] at H
                have H' := Aside0.mk H
                clear H
                go_wp2
                go_loopg [18] kj12 (fun kq v18 w' => ∃ (x13_3 : List (S72)) (x18_3 : Int), v18 = .int .i64 x18_3 ∧ Aside0 (retargetlaw42_RowsBuilds.l0 kq l0 l1 y281 y287 t290 x13_3 x17_12 x18_3 = some r) ∧ Aside0 (kq ≤ kj12) ∧ Aside0 (Kd.R k72 72 w' w.heap.size (fun k_ => some k_ ≠ (v288 : Value).ownBlock ∧ some k_ ≠ (v292 : Value).ownBlock ∧ some k_ ≠ (v300 : Value).ownBlock) v282 y281) ∧ Aside0 (Kd.R k72 72 w' w.heap.size (fun k_ => some k_ ≠ (v282 : Value).ownBlock ∧ some k_ ≠ (v292 : Value).ownBlock ∧ some k_ ≠ (v300 : Value).ownBlock) v288 y287) ∧ Aside0 (Kd.R k72 72 w' w.heap.size (fun k_ => some k_ ≠ (v282 : Value).ownBlock ∧ some k_ ≠ (v288 : Value).ownBlock ∧ some k_ ≠ (v300 : Value).ownBlock) v292 t290) ∧ Aside0 (Kd.R k72 72 w' w.heap.size (fun k_ => some k_ ≠ (v282 : Value).ownBlock ∧ some k_ ≠ (v288 : Value).ownBlock ∧ some k_ ≠ (v292 : Value).ownBlock) v300 x13_3) ∧ Aside0 (Below w.heap.size w w'))
                case atStart => exact ⟨(t298), (0), (by first | rfl | (simp; done) | (simp [*]; done)), H', ⟨Nat.le_refl _⟩, ⟨by (with_reducible repeat (first | apply Kd.R_alloc | apply Kd.R_drewN | apply Kd.R_drew)); exact HO_7.out⟩, ⟨by (with_reducible repeat (first | apply Kd.R_alloc | apply Kd.R_drewN | apply Kd.R_drew)); exact HO_8.out⟩, ⟨by (with_reducible repeat (first | apply Kd.R_alloc | apply Kd.R_drewN | apply Kd.R_drew)); exact HO_9.out⟩, ⟨by (with_reducible repeat (first | apply Kd.R_alloc | apply Kd.R_drewN | apply Kd.R_drew)); exact HO_13.out⟩, ⟨by repeat (first | (with_reducible first | exact HB.out | apply below_alloc | apply pw_below_drewN | apply below_drew1) | exact HB.out)⟩⟩
                case round =>
                  clear H'
                  try clear c1
                  try clear c2
                  try clear p2
                  try clear c4
                  try clear c5
                  try clear c5b0
                  try clear c5b1
                  try clear c6
                  try clear c7
                  try clear c8
                  try clear c25
                  try clear c26
                  try clear c26b0
                  try clear c26b1
                  try clear c28
                  try clear p2
                  obtain ⟨x13_3, x18_3, rfl, HA, HK3, HO_7, HO_8, HO_9, HO_13, HB⟩ := hrel
                  cases gk with
                  | zero => exact absurd HA.out (by simp [retargetlaw42_RowsBuilds.l0])
                  | succ k3 =>
                    have H := HA.out
                    clear HA
                    simp only [retargetlaw42_RowsBuilds.l0] at H
                    by_cases c41 : x18_3 < (x13_3.length : Int)
                    · rw [if_pos c41] at H
                      have c41b0 : decide (x18_3 < (x13_3.length : Int)) = true := decide_eq_true c41
                      clear c41
                      by_cases c42 : 0 ≤ x18_3
                      · rw [if_pos c42] at H
                        have c42b0 : decide (0 ≤ x18_3) = true := decide_eq_true c42
                        clear c42
                        obtain ⟨y308, hy308⟩ : ∃ y_ : List (S72), y_ = (x13_3.set (x18_3 : Int).toNat (⟨(rd_T72 x13_3 x18_3).f0, (-1)⟩ : S72)) := ⟨_, rfl⟩
                        replace H : (retargetlaw42_RowsBuilds.l0 k3 l0 l1 y281 y287 t290 y308 x17_12 (wrap64 (x18_3 + 1))) = some r := by first | (rw [hy308]; with_reducible exact H) | (have H2_ := (Option.bind_some _ _).symm.trans H; rw [hy308]; with_reducible exact H2_) | (have H2_ := (Option.bind_some _ _).symm.trans H; with_reducible exact H2_) | with_reducible exact H | (rw [hy308]; exact H) | exact H
                        have Ny308 := Aside0.mk hy308
                        clear hy308
                        have H' := Aside0.mk H
                        clear H
                        obtain ⟨Ao44, co44, eo44⟩ := Kd.R_slice HO_13.out
                        subst eo44
                        have p43 : 0 ≤ (x18_3 : Int) := of_decide_eq_true (by first | (with_reducible assumption) | assumption)
                        have q43 : (x18_3 : Int) < ((x13_3.length : Int) : Int) := of_decide_eq_true (by first | (with_reducible assumption) | assumption)
                        obtain ⟨go43, co43, eo43, gb43, gl43, cl43, HG43⟩ := Kd.R_form HO_13.out (by omega)
                        (first | cases eo43 | (injection eo43 with ea_ en_ ec_; (first | subst ea_ | (injection ea_ with ea_; subst ea_)); subst ec_; clear en_))
                        have GB43 := Aside0.mk gb43
                        have GG43 := Aside0.mk HG43
                        clear gb43 gl43 HG43
                        obtain ⟨ce43, hcl43, hM43, hcc43, hfr43⟩ := Kd.R_elem HO_13.out z72 (x18_3 : Int) p43 q43
                        obtain rfl := k72_openM hM43
                        have hx43_0 : wr.cell? ⟨go43, (x18_3 : Int).toNat * 2, none⟩ = some (.int .u64 ((rd_T72 x13_3 x18_3).f0)) := hcc43 0 _ rfl
                        have hx43_1 : wr.cell? ⟨go43, (x18_3 : Int).toNat * 2 + 1, none⟩ = some (.int .i64 ((rd_T72 x13_3 x18_3).f1)) := hcc43 1 _ rfl
                        have hf43_0 : wr.frozen? ⟨go43, (x18_3 : Int).toNat * 2, none⟩ = false := hfr43 0
                        have hf43_1 : wr.frozen? ⟨go43, (x18_3 : Int).toNat * 2 + 1, none⟩ = false := hfr43 1
                        clear hcl43 hcc43 hfr43 hM43
                        replace p43 := eq_true p43
                        replace q43 := eq_true q43
                        have HX45 := Aside0.mk (show Kd.R k72 72 wr w.heap.size (fun k_ => some k_ ≠ (v282 : Value).ownBlock ∧ some k_ ≠ (v288 : Value).ownBlock ∧ some k_ ≠ (v292 : Value).ownBlock) (.slice (some ⟨go43, 0, none⟩) x13_3.length co44) x13_3 from (by (with_reducible repeat (first | apply Kd.R_alloc | apply Kd.R_drewN | apply Kd.R_drew)); exact HO_13.out))
                        obtain ⟨ce45, hcl45, hM45, hcc45, hfr45⟩ := Kd.R_elem HX45.out z72 (x18_3 : Int) (of_decide_eq_true (by first | (with_reducible assumption) | assumption)) (by have h_ : (x18_3 : Int) < ((x13_3.length : Int) : Int) := of_decide_eq_true (by first | (with_reducible assumption) | assumption); first | exact h_ | (have e_ := (Kd.R_reads' HO_13.out).1; omega) | simpa using h_)
                        obtain rfl := k72_openM hM45
                        have HP45 := Kd.R_seg HX45.out (x18_3 : Int) (of_decide_eq_true (by first | (with_reducible assumption) | assumption)) (by have h_ : (x18_3 : Int) < ((x13_3.length : Int) : Int) := of_decide_eq_true (by first | (with_reducible assumption) | assumption); first | exact h_ | (have e_ := (Kd.R_reads' HO_13.out).1; omega) | simpa using h_) (seg := [.int .i64 (-1)]) (j := 1) hcl45 hcc45 (show 2 ≤ 2 from by decide) (x' := (⟨(rd_T72 x13_3 x18_3).f0, (-1)⟩ : S72)) (k72_mkM _ _ _ (⟨(rd_T72 x13_3 x18_3).f0, (-1)⟩ : S72) ) (fun _ hk => hk)
                        have hx45_1 := hcc45 1 _ rfl
                        (try simp only [show (k72).sz = 2 from rfl, Nat.mul_one, Nat.add_zero] at hx45_1)
                        have hf45_1 := hfr45 1
                        (try simp only [show (k72).sz = 2 from rfl, Nat.mul_one, Nat.add_zero] at hf45_1)
                        clear hcl45 hcc45 hfr45 hM45
                        go_wp2_with (first | ((with_reducible refine gate_store (t := 3) (p := 85) rfl ?_); refine store_event (t := 3) (p := 85) (v := ?vo_w46) (w1 := (wr.setCell ⟨go43, (x18_3 : Int).toNat * 2 + 1, none⟩ (.int .i64 (-1)))) ?hg ?ho ?hn ?hr ?_; (case ho => rfl); (case hg => rfl); (case hn => rfl); (case hr => first | (go_simp; done) | (go_simp; rfl)); intro w46 hw; have hg : wr.grownBy w46 (some go43) := (by rw [hw]; exact HP45.2); have hp_ : Kd.R k72 72 w46 w.heap.size (fun k_ => some k_ ≠ (v282 : Value).ownBlock ∧ some k_ ≠ (v288 : Value).ownBlock ∧ some k_ ≠ (v292 : Value).ownBlock) (.slice (some ⟨go43, 0, none⟩) x13_3.length co44) y308 := (by rw [hw, Ny308.out]; exact HP45.1); clear HP45; have n0_ := Aside0.mk (Kd.R_after (v := (.slice (some ⟨go43, 0, none⟩) x13_3.length co44)) (v1 := (.slice (some ⟨go43, 0, none⟩) x13_3.length co44)) (ok := (fun k_ => some k_ ≠ (v288 : Value).ownBlock ∧ some k_ ≠ (v292 : Value).ownBlock)) (by (with_reducible repeat (first | apply Kd.R_alloc | apply Kd.R_drewN | apply Kd.R_drew)); exact Kd.R_mono HO_7.out (fun _ hk => ⟨⟨hk.1, hk.2.1⟩, hk.2.2⟩)) hg (.inl rfl)); have n1_ := Aside0.mk (Kd.R_after (v := (.slice (some ⟨go43, 0, none⟩) x13_3.length co44)) (v1 := (.slice (some ⟨go43, 0, none⟩) x13_3.length co44)) (ok := (fun k_ => some k_ ≠ (v282 : Value).ownBlock ∧ some k_ ≠ (v292 : Value).ownBlock)) (by (with_reducible repeat (first | apply Kd.R_alloc | apply Kd.R_drewN | apply Kd.R_drew)); exact Kd.R_mono HO_8.out (fun _ hk => ⟨⟨hk.1, hk.2.1⟩, hk.2.2⟩)) hg (.inl rfl)); have n2_ := Aside0.mk (Kd.R_after (v := (.slice (some ⟨go43, 0, none⟩) x13_3.length co44)) (v1 := (.slice (some ⟨go43, 0, none⟩) x13_3.length co44)) (ok := (fun k_ => some k_ ≠ (v282 : Value).ownBlock ∧ some k_ ≠ (v288 : Value).ownBlock)) (by (with_reducible repeat (first | apply Kd.R_alloc | apply Kd.R_drewN | apply Kd.R_drew)); exact Kd.R_mono HO_9.out (fun _ hk => ⟨⟨hk.1, hk.2.1⟩, hk.2.2⟩)) hg (.inl rfl)); have n3_ := Aside0.mk (hp_); have n4_ := Aside0.mk ((by rw [hw]; exact below_set (HB.out) GB43.out : Below w.heap.size w w46)); clear HO_7; clear HO_8; clear HO_9; clear HO_13; clear HB; have HO_7 := n0_; have HO_8 := n1_; have HO_9 := n2_; have HO_13 := n3_; have HB := n4_; clear n0_ n1_ n2_ n3_ n4_; clear hg hw hp_))
                        go_roundg k3
                        case measure => have := HJ3.out; have := HJ12.out; have := HK3.out; omega
                        case rel => exact ⟨(y308), (wrap64 (x18_3 + 1)), (by first | rfl | (simp; done) | (simp [*]; done)), H', ⟨by have := HJ3.out; have := HJ12.out; have := HK3.out; omega⟩, ⟨by (with_reducible repeat (first | apply Kd.R_alloc | apply Kd.R_drewN | apply Kd.R_drew)); exact Kd.R_mono HO_7.out (fun _ hk => ⟨hk.1.1, ⟨hk.1.2, hk.2⟩⟩)⟩, ⟨by (with_reducible repeat (first | apply Kd.R_alloc | apply Kd.R_drewN | apply Kd.R_drew)); exact Kd.R_mono HO_8.out (fun _ hk => ⟨hk.1.1, ⟨hk.1.2, hk.2⟩⟩)⟩, ⟨by (with_reducible repeat (first | apply Kd.R_alloc | apply Kd.R_drewN | apply Kd.R_drew)); exact Kd.R_mono HO_9.out (fun _ hk => ⟨hk.1.1, ⟨hk.1.2, hk.2⟩⟩)⟩, ⟨by (with_reducible repeat (first | apply Kd.R_alloc | apply Kd.R_drewN | apply Kd.R_drew)); exact HO_13.out⟩, ⟨by repeat (first | (with_reducible first | exact HB.out | apply below_alloc | apply pw_below_drewN | apply below_drew1) | exact HB.out)⟩⟩
                      · rw [if_neg c42] at H
                        exact absurd H (by simp)
                    · rw [if_neg c41] at H
                      have c41b0 : decide (x18_3 < (x13_3.length : Int)) = false := decide_eq_false c41
                      clear c41
                      have H' := Aside0.mk H
                      clear H
                      obtain ⟨Ao47, co47, eo47⟩ := Kd.R_slice HO_13.out
                      subst eo47
                      go_wp2
                      go_loopg [19] k3 (fun kq v19 w' => ∃ (x9_4 : List (S72)) (x19_4 : Int), v19 = .int .i64 x19_4 ∧ Aside0 (retargetlaw42_RowsBuilds.l1 kq l0 l1 y281 y287 x9_4 x17_12 x19_4 = some r) ∧ Aside0 (kq ≤ k3) ∧ Aside0 (Kd.R k72 72 w' w.heap.size (fun k_ => some k_ ≠ (v288 : Value).ownBlock ∧ some k_ ≠ (v292 : Value).ownBlock) v282 y281) ∧ Aside0 (Kd.R k72 72 w' w.heap.size (fun k_ => some k_ ≠ (v282 : Value).ownBlock ∧ some k_ ≠ (v292 : Value).ownBlock) v288 y287) ∧ Aside0 (Kd.R k72 72 w' w.heap.size (fun k_ => some k_ ≠ (v282 : Value).ownBlock ∧ some k_ ≠ (v288 : Value).ownBlock) v292 x9_4) ∧ Aside0 (Below w.heap.size w w'))
                      case atStart => exact ⟨(t290), (0), (by first | rfl | (simp; done) | (simp [*]; done)), H', ⟨Nat.le_refl _⟩, ⟨by (with_reducible repeat (first | apply Kd.R_alloc | apply Kd.R_drewN | apply Kd.R_drew)); exact Kd.R_mono HO_7.out (fun _ hk => ⟨hk.1, hk.2.1⟩)⟩, ⟨by (with_reducible repeat (first | apply Kd.R_alloc | apply Kd.R_drewN | apply Kd.R_drew)); exact Kd.R_mono HO_8.out (fun _ hk => ⟨hk.1, hk.2.1⟩)⟩, ⟨by (with_reducible repeat (first | apply Kd.R_alloc | apply Kd.R_drewN | apply Kd.R_drew)); exact Kd.R_mono HO_9.out (fun _ hk => ⟨hk.1, hk.2.1⟩)⟩, ⟨by repeat (first | (with_reducible first | exact HB.out | apply below_alloc | apply pw_below_drewN | apply below_drew1) | exact HB.out)⟩⟩
                      case round =>
                        clear H'
                        try clear c1
                        try clear c2
                        try clear p2
                        try clear c4
                        try clear p4
                        try clear q4
                        try clear hx4
                        try clear hf4
                        try clear c5
                        try clear c5b0
                        try clear c5b1
                        try clear c6
                        try clear p6
                        try clear c7
                        try clear c8
                        try clear c25
                        try clear c26
                        try clear c26b0
                        try clear c26b1
                        try clear c28
                        try clear c41
                        try clear c41b0
                        try clear c42
                        try clear c42b0
                        try clear c43
                        try clear p43
                        try clear q43
                        try clear hx43
                        try clear hf43
                        try clear c45
                        try clear hx45
                        try clear hf45
                        try clear hx43_0
                        try clear hx43_1
                        try clear hx45_1
                        try clear p2
                        try clear p43
                        try clear q43
                        obtain ⟨x9_4, x19_4, rfl, HA, HK4, HO_7, HO_8, HO_9, HB⟩ := hrel
                        cases gk with
                        | zero => exact absurd HA.out (by simp [retargetlaw42_RowsBuilds.l1])
                        | succ k4 =>
                          have H := HA.out
                          clear HA
                          simp only [retargetlaw42_RowsBuilds.l1] at H
                          by_cases c48 : x19_4 < (x9_4.length : Int)
                          · rw [if_pos c48] at H
                            have c48b0 : decide (x19_4 < (x9_4.length : Int)) = true := decide_eq_true c48
                            clear c48
                            by_cases c49 : 0 ≤ x19_4
                            · rw [if_pos c49] at H
                              have c49b0 : decide (0 ≤ x19_4) = true := decide_eq_true c49
                              clear c49
                              obtain ⟨y309, hy309⟩ : ∃ y_ : List (S72), y_ = (x9_4.set (x19_4 : Int).toNat (⟨(rd_T72 x9_4 x19_4).f0, (-1)⟩ : S72)) := ⟨_, rfl⟩
                              replace H : (retargetlaw42_RowsBuilds.l1 k4 l0 l1 y281 y287 y309 x17_12 (wrap64 (x19_4 + 1))) = some r := by first | (rw [hy309]; with_reducible exact H) | (have H2_ := (Option.bind_some _ _).symm.trans H; rw [hy309]; with_reducible exact H2_) | (have H2_ := (Option.bind_some _ _).symm.trans H; with_reducible exact H2_) | with_reducible exact H | (rw [hy309]; exact H) | exact H
                              have Ny309 := Aside0.mk hy309
                              clear hy309
                              have H' := Aside0.mk H
                              clear H
                              obtain ⟨Ao51, co51, eo51⟩ := Kd.R_slice HO_9.out
                              subst eo51
                              have p50 : 0 ≤ (x19_4 : Int) := of_decide_eq_true (by first | (with_reducible assumption) | assumption)
                              have q50 : (x19_4 : Int) < ((x9_4.length : Int) : Int) := of_decide_eq_true (by first | (with_reducible assumption) | assumption)
                              obtain ⟨go50, co50, eo50, gb50, gl50, cl50, HG50⟩ := Kd.R_form HO_9.out (by omega)
                              (first | cases eo50 | (injection eo50 with ea_ en_ ec_; (first | subst ea_ | (injection ea_ with ea_; subst ea_)); subst ec_; clear en_))
                              have GB50 := Aside0.mk gb50
                              have GG50 := Aside0.mk HG50
                              clear gb50 gl50 HG50
                              obtain ⟨ce50, hcl50, hM50, hcc50, hfr50⟩ := Kd.R_elem HO_9.out z72 (x19_4 : Int) p50 q50
                              obtain rfl := k72_openM hM50
                              have hx50_0 : wr.cell? ⟨go50, (x19_4 : Int).toNat * 2, none⟩ = some (.int .u64 ((rd_T72 x9_4 x19_4).f0)) := hcc50 0 _ rfl
                              have hx50_1 : wr.cell? ⟨go50, (x19_4 : Int).toNat * 2 + 1, none⟩ = some (.int .i64 ((rd_T72 x9_4 x19_4).f1)) := hcc50 1 _ rfl
                              have hf50_0 : wr.frozen? ⟨go50, (x19_4 : Int).toNat * 2, none⟩ = false := hfr50 0
                              have hf50_1 : wr.frozen? ⟨go50, (x19_4 : Int).toNat * 2 + 1, none⟩ = false := hfr50 1
                              clear hcl50 hcc50 hfr50 hM50
                              replace p50 := eq_true p50
                              replace q50 := eq_true q50
                              have HX52 := Aside0.mk (show Kd.R k72 72 wr w.heap.size (fun k_ => some k_ ≠ (v282 : Value).ownBlock ∧ some k_ ≠ (v288 : Value).ownBlock) (.slice (some ⟨go50, 0, none⟩) x9_4.length co51) x9_4 from (by (with_reducible repeat (first | apply Kd.R_alloc | apply Kd.R_drewN | apply Kd.R_drew)); exact HO_9.out))
                              obtain ⟨ce52, hcl52, hM52, hcc52, hfr52⟩ := Kd.R_elem HX52.out z72 (x19_4 : Int) (of_decide_eq_true (by first | (with_reducible assumption) | assumption)) (by have h_ : (x19_4 : Int) < ((x9_4.length : Int) : Int) := of_decide_eq_true (by first | (with_reducible assumption) | assumption); first | exact h_ | (have e_ := (Kd.R_reads' HO_9.out).1; omega) | simpa using h_)
                              obtain rfl := k72_openM hM52
                              have HP52 := Kd.R_seg HX52.out (x19_4 : Int) (of_decide_eq_true (by first | (with_reducible assumption) | assumption)) (by have h_ : (x19_4 : Int) < ((x9_4.length : Int) : Int) := of_decide_eq_true (by first | (with_reducible assumption) | assumption); first | exact h_ | (have e_ := (Kd.R_reads' HO_9.out).1; omega) | simpa using h_) (seg := [.int .i64 (-1)]) (j := 1) hcl52 hcc52 (show 2 ≤ 2 from by decide) (x' := (⟨(rd_T72 x9_4 x19_4).f0, (-1)⟩ : S72)) (k72_mkM _ _ _ (⟨(rd_T72 x9_4 x19_4).f0, (-1)⟩ : S72) ) (fun _ hk => hk)
                              have hx52_1 := hcc52 1 _ rfl
                              (try simp only [show (k72).sz = 2 from rfl, Nat.mul_one, Nat.add_zero] at hx52_1)
                              have hf52_1 := hfr52 1
                              (try simp only [show (k72).sz = 2 from rfl, Nat.mul_one, Nat.add_zero] at hf52_1)
                              clear hcl52 hcc52 hfr52 hM52
                              go_wp2_with (first | ((with_reducible refine gate_store (t := 3) (p := 95) rfl ?_); refine store_event (t := 3) (p := 95) (v := ?vo_w53) (w1 := (wr.setCell ⟨go50, (x19_4 : Int).toNat * 2 + 1, none⟩ (.int .i64 (-1)))) ?hg ?ho ?hn ?hr ?_; (case ho => rfl); (case hg => rfl); (case hn => rfl); (case hr => first | (go_simp; done) | (go_simp; rfl)); intro w53 hw; have hg : wr.grownBy w53 (some go50) := (by rw [hw]; exact HP52.2); have hp_ : Kd.R k72 72 w53 w.heap.size (fun k_ => some k_ ≠ (v282 : Value).ownBlock ∧ some k_ ≠ (v288 : Value).ownBlock) (.slice (some ⟨go50, 0, none⟩) x9_4.length co51) y309 := (by rw [hw, Ny309.out]; exact HP52.1); clear HP52; have n0_ := Aside0.mk (Kd.R_after (v := (.slice (some ⟨go50, 0, none⟩) x9_4.length co51)) (v1 := (.slice (some ⟨go50, 0, none⟩) x9_4.length co51)) (ok := (fun k_ => some k_ ≠ (v288 : Value).ownBlock)) (by (with_reducible repeat (first | apply Kd.R_alloc | apply Kd.R_drewN | apply Kd.R_drew)); exact HO_7.out) hg (.inl rfl)); have n1_ := Aside0.mk (Kd.R_after (v := (.slice (some ⟨go50, 0, none⟩) x9_4.length co51)) (v1 := (.slice (some ⟨go50, 0, none⟩) x9_4.length co51)) (ok := (fun k_ => some k_ ≠ (v282 : Value).ownBlock)) (by (with_reducible repeat (first | apply Kd.R_alloc | apply Kd.R_drewN | apply Kd.R_drew)); exact HO_8.out) hg (.inl rfl)); have n2_ := Aside0.mk (hp_); have n3_ := Aside0.mk ((by rw [hw]; exact below_set (HB.out) GB50.out : Below w.heap.size w w53)); clear HO_7; clear HO_8; clear HO_9; clear HB; have HO_7 := n0_; have HO_8 := n1_; have HO_9 := n2_; have HB := n3_; clear n0_ n1_ n2_ n3_; clear hg hw hp_))
                              go_roundg k4
                              case measure => have := HJ3.out; have := HJ12.out; have := HK3.out; have := HK4.out; omega
                              case rel => exact ⟨(y309), (wrap64 (x19_4 + 1)), (by first | rfl | (simp; done) | (simp [*]; done)), H', ⟨by have := HJ3.out; have := HJ12.out; have := HK3.out; have := HK4.out; omega⟩, ⟨by (with_reducible repeat (first | apply Kd.R_alloc | apply Kd.R_drewN | apply Kd.R_drew)); exact HO_7.out⟩, ⟨by (with_reducible repeat (first | apply Kd.R_alloc | apply Kd.R_drewN | apply Kd.R_drew)); exact HO_8.out⟩, ⟨by (with_reducible repeat (first | apply Kd.R_alloc | apply Kd.R_drewN | apply Kd.R_drew)); exact HO_9.out⟩, ⟨by repeat (first | (with_reducible first | exact HB.out | apply below_alloc | apply pw_below_drewN | apply below_drew1) | exact HB.out)⟩⟩
                            · rw [if_neg c49] at H
                              exact absurd H (by simp)
                          · rw [if_neg c48] at H
                            have c48b0 : decide (x19_4 < (x9_4.length : Int)) = false := decide_eq_false c48
                            clear c48
                            by_cases c54 : x17_12 = true
                            · subst c54
                              have H1 : ((retargetref42_Same.f k4 l0 y281).bind fun t310 => (if t310 = true then ((retargetref42_Same.f k4 l1 y287).bind fun t311 => (some t311)) else (some false))) = some r := by rw [if_pos rfl] at H; exact H
                              clear H
                              have H := H1
                              clear H1
                              replace H := Option.bind_eq_some_iff.mp H
                              obtain ⟨t310, A550, H⟩ := H
                              replace H : (if t310 = true then ((retargetref42_Same.f k4 l1 y287).bind fun t311 => (some t311)) else (some false)) = some r := H
                              have A55 := Aside0.mk A550
                              clear A550
                              by_cases c56 : t310 = true
                              · subst c56
                                have H1 : ((retargetref42_Same.f k4 l1 y287).bind fun t311 => (some t311)) = some r := by rw [if_pos rfl] at H; exact H
                                clear H
                                have H := H1
                                clear H1
                                replace H := Option.bind_eq_some_iff.mp H
                                obtain ⟨t311, A570, H⟩ := H
                                replace H : (some t311) = some r := H
                                have A57 := Aside0.mk A570
                                clear A570
                                obtain rfl := Option.some.inj H
                                obtain ⟨Ao58, co58, eo58⟩ := Kd.R_slice HO_9.out
                                subst eo58
                                obtain ⟨Ao59, co59, eo59⟩ := Kd.R_slice HO_7.out
                                subst eo59
                                go_wp2_with (first | (go_at_call 53; (with_reducible refine (retargetref42_Same.calls k4 _ _ l0 _ _ y281 true _ ?side1 ?side2 ?side3 ?side4 A55.out).mono ?_); (case side1 => repeat (first | exact (Kd.C_below HR0.out HB.out) | (with_reducible refine Kd.C_alloc ?_ _) | (with_reducible refine Kd.C_drewN ?_ _) | (with_reducible refine Kd.C_drew ?_))); (case side2 => exact HC0.out); (case side3 => repeat (first | exact (Kd.R_reads' HO_7.out).2.2 | (with_reducible refine Kd.C_alloc ?_ _) | (with_reducible refine Kd.C_drewN ?_ _) | (with_reducible refine Kd.C_drew ?_))); (case side4 => exact (Kd.R_reads' HO_7.out).2.1); rintro e w' ⟨rfl, ⟨nd, rfl⟩⟩; obtain ⟨Ao60, co60, eo60⟩ := Kd.R_slice HO_8.out; subst eo60) | (go_at_call 53; (with_reducible refine (retargetref42_Same.calls k4 _ _ l1 _ _ y287 t311 _ ?side1 ?side2 ?side3 ?side4 A57.out).mono ?_); (case side1 => repeat (first | exact (Kd.C_below HR1.out (by repeat (first | (with_reducible first | exact HB.out | apply below_alloc | apply pw_below_drewN | apply below_drew1) | exact HB.out))) | (with_reducible refine Kd.C_alloc ?_ _) | (with_reducible refine Kd.C_drewN ?_ _) | (with_reducible refine Kd.C_drew ?_))); (case side2 => exact HC1.out); (case side3 => repeat (first | exact (Kd.R_reads' HO_8.out).2.2 | (with_reducible refine Kd.C_alloc ?_ _) | (with_reducible refine Kd.C_drewN ?_ _) | (with_reducible refine Kd.C_drew ?_))); (case side4 => exact (Kd.R_reads' HO_8.out).2.1); rintro e w' ⟨rfl, ⟨nd, rfl⟩⟩))
                                go_ret
                                exact ⟨by first | rfl | (simp [errW_none, errW_some] <;> rfl) | (simp [*, errW_none, errW_some] <;> rfl), by repeat (first | (with_reducible first | exact HB.out | apply below_alloc | apply pw_below_drewN | apply below_drew1) | exact HB.out)⟩
                              · replace c56 := Bool.eq_false_iff.mpr c56
                                subst c56
                                have H1 : (some false) = some r := by rw [if_neg (show ¬ (false = true) by decide)] at H; exact H
                                clear H
                                have H := H1
                                clear H1
                                obtain rfl := Option.some.inj H
                                obtain ⟨Ao61, co61, eo61⟩ := Kd.R_slice HO_9.out
                                subst eo61
                                obtain ⟨Ao62, co62, eo62⟩ := Kd.R_slice HO_7.out
                                subst eo62
                                go_wp2_with (first | (go_at_call 53; (with_reducible refine (retargetref42_Same.calls k4 _ _ l0 _ _ y281 false _ ?side1 ?side2 ?side3 ?side4 A55.out).mono ?_); (case side1 => repeat (first | exact (Kd.C_below HR0.out HB.out) | (with_reducible refine Kd.C_alloc ?_ _) | (with_reducible refine Kd.C_drewN ?_ _) | (with_reducible refine Kd.C_drew ?_))); (case side2 => exact HC0.out); (case side3 => repeat (first | exact (Kd.R_reads' HO_7.out).2.2 | (with_reducible refine Kd.C_alloc ?_ _) | (with_reducible refine Kd.C_drewN ?_ _) | (with_reducible refine Kd.C_drew ?_))); (case side4 => exact (Kd.R_reads' HO_7.out).2.1); rintro e w' ⟨rfl, ⟨nd, rfl⟩⟩))
                                go_ret
                                exact ⟨by first | rfl | (simp [errW_none, errW_some] <;> rfl) | (simp [*, errW_none, errW_some] <;> rfl), by repeat (first | (with_reducible first | exact HB.out | apply below_alloc | apply pw_below_drewN | apply below_drew1) | exact HB.out)⟩
                            · replace c54 := Bool.eq_false_iff.mpr c54
                              subst c54
                              have H1 : (some false) = some r := by rw [if_neg (show ¬ (false = true) by decide)] at H; exact H
                              clear H
                              have H := H1
                              clear H1
                              obtain rfl := Option.some.inj H
                              obtain ⟨Ao63, co63, eo63⟩ := Kd.R_slice HO_9.out
                              subst eo63
                              go_wp2
                              go_ret
                              exact ⟨by first | rfl | (simp [errW_none, errW_some] <;> rfl) | (simp [*, errW_none, errW_some] <;> rfl), by repeat (first | (with_reducible first | exact HB.out | apply below_alloc | apply pw_below_drewN | apply below_drew1) | exact HB.out)⟩
          · rw [if_neg c8] at H
            exact absurd H (by simp)
        · rw [if_neg c7] at H
          exact absurd H (by simp)

-- NOT PRINTED: function 97 (rows_differences)

end Go.Proofs.Ytbckdelbkcfjkaa.Ro
