/- The walk of bits.Unary: the inverse and the negative of a value, cut to the width. -/
import Derived.Test.YtbckdelbkcfjkaaBix0
import Derived.Test.YtbckdelbkcfjkaaBiG1
namespace Go.Proofs.Ytbckdelbkcfjkaa.Bi
open Go.RowKit Go.Proofs.YtbckdelbkcfjkaaW.PrintWords Go.Proofs.YtbckdelbkcfjkaaW.PrintLast Go.Proofs.YtbckdelbkcfjkaaW.PrintMore
set_option linter.unusedVariables false
set_option linter.unusedSimpArgs false
def bits_Unary.f (k : Nat) (a0 a1 a2 : Int) : Option (Int × Int) :=
  (bits_wide.f a1).bind fun t => if t = true then (if a0 = 3 then ((bits_check.f k a1 [a2]).bind fun c => if c = 0 then ((bits_Mask.f a1).bind fun m => some (Go.bits .and .u64 (Go.bits .xor .u64 IntKind.u64.max a2) m, 0)) else some (0, c))
    else if a0 = 4 then ((bits_check.f k a1 [a2]).bind fun c => if c = 0 then ((bits_Mask.f a1).bind fun m => some (Go.bits .and .u64 (IntKind.u64.wrap (-a2)) m, 0)) else some (0, c)) else some (0, 2)) else some (0, 14)
theorem bits_Unary.mono : ∀ a0 a1 a2 k, LeO (bits_Unary.f k a0 a1 a2) (bits_Unary.f (k + 1) a0 a1 a2) := by
  intro a0 a1 a2 k
  unfold bits_Unary.f
  refine LeO.bind (LeO.refl _) fun t => LeO.ite (LeO.ite (LeO.bind (bits_check.mono _ _ _) fun c => LeO.refl _) (LeO.ite (LeO.bind (bits_check.mono _ _ _) fun c => LeO.refl _) (LeO.refl _))) (LeO.refl _)
set_option maxHeartbeats 8000000 in
set_option maxRecDepth 100000 in
theorem bits_Unary.calls (k : Nat) (a0 a1 a2 r1 r2 : Int) (w : World) (h : bits_Unary.f k a0 a1 a2 = some (r1, r2)) :
    Calls Try.prog 45 #[.int .u8 a0, .int .i64 a1, .int .u64 a2] w fun e w' => e = .returned (.tuple #[.int .u64 r1, .int .i64 r2]) ∧ Below w.heap.size w w' := by
  unfold bits_Unary.f at h
  obtain ⟨t, ht, h⟩ := Option.bind_eq_some_iff.mp h
  have HT := Aside0.mk ht
  clear ht
  by_cases c1 : t = true
  · subst c1
    rw [if_pos rfl] at h
    by_cases c2 : a0 = 3
    · rw [if_pos c2] at h
      have c2b : (a0 == 3) = true := beq_iff_eq.mpr c2
      have c2c : (a0 != 3) = false := bne_eq_false_iff_eq.mpr c2
      clear c2
      obtain ⟨c, hc, h⟩ := Option.bind_eq_some_iff.mp h
      have HC := Aside0.mk hc
      clear hc
      by_cases c4 : c = 0
      · rw [if_pos c4] at h
        have c4b0 : (c == 0) = true := beq_iff_eq.mpr c4
        have c4b1 : (c != 0) = false := bne_eq_false_iff_eq.mpr c4
        clear c4
        obtain ⟨m, hm, h3⟩ := Option.bind_eq_some_iff.mp h
        have HM := Aside0.mk hm
        clear hm h
        have h : some (Go.bits .and .u64 (Go.bits .xor .u64 IntKind.u64.max a2) m, (0 : Int)) = some (r1, r2) := h3
        clear h3
        simp only [Option.some.injEq, Prod.mk.injEq] at h
        obtain ⟨rfl, rfl⟩ := h
        go_enter Try.func45, Try.ntmps45
        go_wp2_with (first | (go_at_call 81; refine (bits_wide.calls a1 true _ HT.out).mono ?_; rintro e w' ⟨rfl, ⟨nd, rfl⟩⟩) | ((with_reducible refine gate_dst (N := 20) rfl ?_); refine Kd.R_lit (Kd.int .u64) _ 23 ?hg (N := 20) ?hd (xs := ([a2] : List Int)) (inner := [.int .u64 a2]) (ok := fun _ => True) (okp := fun _ => True) ?hr ?hp (fun _ hk => hk) trivial (Below.refl _ _) (Nat.le_refl _) (by simp) ?_; (case hd => rfl); (case hg => rfl); (case hr => first | (go_simp; done) | (go_simp; rfl)); (case hp => exact (Reps.one (show Kd.M (Kd.int .u64) _ _ _ a2 [.int .u64 a2] from rfl) (Reps.none _ _))); intro vs w6 ho7 hb hg_ hnew_; clear hg_ hnew_; obtain ⟨Ao, co, eo⟩ := Kd.R_slice ho7; subst eo; have HO := Aside0.mk ho7; have HB := Aside0.mk (below_then (pw_below_drewN (Below.refl _ _) nd : Below w.heap.size w _) (Nat.le_refl _) hb); clear ho7 hb) | (go_at_call 77; refine (bits_check.calls k a1 _ _ [a2] c _ (Kd.R_reads' HO.out).2.2 (Kd.R_reads' HO.out).2.1 HC.out).mono ?_; rintro e w' ⟨rfl, ⟨nc, rfl⟩⟩) | (go_at_call 37; refine (bits_Mask.calls a1 m _ HM.out).mono ?_; rintro e w' ⟨rfl, ⟨nm, rfl⟩⟩))
        go_ret2
        exact ⟨rfl, pw_below_drewN HB.out _⟩
      · rw [if_neg c4] at h
        have c4b0 : (c == 0) = false := beq_eq_false_iff_ne.mpr c4
        have c4b1 : (c != 0) = true := bne_iff_ne.mpr c4
        clear c4
        simp only [Option.some.injEq, Prod.mk.injEq] at h
        obtain ⟨rfl, rfl⟩ := h
        go_enter Try.func45, Try.ntmps45
        go_wp2_with (first | (go_at_call 81; refine (bits_wide.calls a1 true _ HT.out).mono ?_; rintro e w' ⟨rfl, ⟨nd, rfl⟩⟩) | ((with_reducible refine gate_dst (N := 20) rfl ?_); refine Kd.R_lit (Kd.int .u64) _ 23 ?hg (N := 20) ?hd (xs := ([a2] : List Int)) (inner := [.int .u64 a2]) (ok := fun _ => True) (okp := fun _ => True) ?hr ?hp (fun _ hk => hk) trivial (Below.refl _ _) (Nat.le_refl _) (by simp) ?_; (case hd => rfl); (case hg => rfl); (case hr => first | (go_simp; done) | (go_simp; rfl)); (case hp => exact (Reps.one (show Kd.M (Kd.int .u64) _ _ _ a2 [.int .u64 a2] from rfl) (Reps.none _ _))); intro vs w6 ho7 hb hg_ hnew_; clear hg_ hnew_; obtain ⟨Ao, co, eo⟩ := Kd.R_slice ho7; subst eo; have HO := Aside0.mk ho7; have HB := Aside0.mk (below_then (pw_below_drewN (Below.refl _ _) nd : Below w.heap.size w _) (Nat.le_refl _) hb); clear ho7 hb) | (go_at_call 77; refine (bits_check.calls k a1 _ _ [a2] c _ (Kd.R_reads' HO.out).2.2 (Kd.R_reads' HO.out).2.1 HC.out).mono ?_; rintro e w' ⟨rfl, ⟨nc, rfl⟩⟩))
        go_ret2
        exact ⟨rfl, pw_below_drewN HB.out _⟩
    rw [if_neg c2] at h
    have c2b : (a0 == 3) = false := beq_eq_false_iff_ne.mpr c2
    have c2c : (a0 != 3) = true := bne_iff_ne.mpr c2
    clear c2
    by_cases c3 : a0 = 4
    · rw [if_pos c3] at h
      have c3b : (a0 == 4) = true := beq_iff_eq.mpr c3
      have c3c : (a0 != 4) = false := bne_eq_false_iff_eq.mpr c3
      clear c3
      obtain ⟨c, hc, h⟩ := Option.bind_eq_some_iff.mp h
      have HC := Aside0.mk hc
      clear hc
      by_cases c4 : c = 0
      · rw [if_pos c4] at h
        have c4b0 : (c == 0) = true := beq_iff_eq.mpr c4
        have c4b1 : (c != 0) = false := bne_eq_false_iff_eq.mpr c4
        clear c4
        obtain ⟨m, hm, h3⟩ := Option.bind_eq_some_iff.mp h
        have HM := Aside0.mk hm
        clear hm h
        have h : some (Go.bits .and .u64 (IntKind.u64.wrap (-a2)) m, (0 : Int)) = some (r1, r2) := h3
        clear h3
        simp only [Option.some.injEq, Prod.mk.injEq] at h
        obtain ⟨rfl, rfl⟩ := h
        go_enter Try.func45, Try.ntmps45
        go_wp2_with (first | (go_at_call 81; refine (bits_wide.calls a1 true _ HT.out).mono ?_; rintro e w' ⟨rfl, ⟨nd, rfl⟩⟩) | ((with_reducible refine gate_dst (N := 20) rfl ?_); refine Kd.R_lit (Kd.int .u64) _ 23 ?hg (N := 20) ?hd (xs := ([a2] : List Int)) (inner := [.int .u64 a2]) (ok := fun _ => True) (okp := fun _ => True) ?hr ?hp (fun _ hk => hk) trivial (Below.refl _ _) (Nat.le_refl _) (by simp) ?_; (case hd => rfl); (case hg => rfl); (case hr => first | (go_simp; done) | (go_simp; rfl)); (case hp => exact (Reps.one (show Kd.M (Kd.int .u64) _ _ _ a2 [.int .u64 a2] from rfl) (Reps.none _ _))); intro vs w6 ho7 hb hg_ hnew_; clear hg_ hnew_; obtain ⟨Ao, co, eo⟩ := Kd.R_slice ho7; subst eo; have HO := Aside0.mk ho7; have HB := Aside0.mk (below_then (pw_below_drewN (Below.refl _ _) nd : Below w.heap.size w _) (Nat.le_refl _) hb); clear ho7 hb) | (go_at_call 77; refine (bits_check.calls k a1 _ _ [a2] c _ (Kd.R_reads' HO.out).2.2 (Kd.R_reads' HO.out).2.1 HC.out).mono ?_; rintro e w' ⟨rfl, ⟨nc, rfl⟩⟩) | (go_at_call 37; refine (bits_Mask.calls a1 m _ HM.out).mono ?_; rintro e w' ⟨rfl, ⟨nm, rfl⟩⟩))
        go_ret2
        exact ⟨rfl, pw_below_drewN HB.out _⟩
      · rw [if_neg c4] at h
        have c4b0 : (c == 0) = false := beq_eq_false_iff_ne.mpr c4
        have c4b1 : (c != 0) = true := bne_iff_ne.mpr c4
        clear c4
        simp only [Option.some.injEq, Prod.mk.injEq] at h
        obtain ⟨rfl, rfl⟩ := h
        go_enter Try.func45, Try.ntmps45
        go_wp2_with (first | (go_at_call 81; refine (bits_wide.calls a1 true _ HT.out).mono ?_; rintro e w' ⟨rfl, ⟨nd, rfl⟩⟩) | ((with_reducible refine gate_dst (N := 20) rfl ?_); refine Kd.R_lit (Kd.int .u64) _ 23 ?hg (N := 20) ?hd (xs := ([a2] : List Int)) (inner := [.int .u64 a2]) (ok := fun _ => True) (okp := fun _ => True) ?hr ?hp (fun _ hk => hk) trivial (Below.refl _ _) (Nat.le_refl _) (by simp) ?_; (case hd => rfl); (case hg => rfl); (case hr => first | (go_simp; done) | (go_simp; rfl)); (case hp => exact (Reps.one (show Kd.M (Kd.int .u64) _ _ _ a2 [.int .u64 a2] from rfl) (Reps.none _ _))); intro vs w6 ho7 hb hg_ hnew_; clear hg_ hnew_; obtain ⟨Ao, co, eo⟩ := Kd.R_slice ho7; subst eo; have HO := Aside0.mk ho7; have HB := Aside0.mk (below_then (pw_below_drewN (Below.refl _ _) nd : Below w.heap.size w _) (Nat.le_refl _) hb); clear ho7 hb) | (go_at_call 77; refine (bits_check.calls k a1 _ _ [a2] c _ (Kd.R_reads' HO.out).2.2 (Kd.R_reads' HO.out).2.1 HC.out).mono ?_; rintro e w' ⟨rfl, ⟨nc, rfl⟩⟩))
        go_ret2
        exact ⟨rfl, pw_below_drewN HB.out _⟩
    rw [if_neg c3] at h
    have c3b : (a0 == 4) = false := beq_eq_false_iff_ne.mpr c3
    have c3c : (a0 != 4) = true := bne_iff_ne.mpr c3
    clear c3
    simp only [Option.some.injEq, Prod.mk.injEq] at h
    obtain ⟨rfl, rfl⟩ := h
    go_enter Try.func45, Try.ntmps45
    go_wp2_with (go_at_call 81; refine (bits_wide.calls a1 true _ HT.out).mono ?_; rintro e w' ⟨rfl, ⟨nd, rfl⟩⟩)
    go_ret2
    exact ⟨rfl, pw_below_drewN (Below.refl _ _) _⟩
  · rw [if_neg c1] at h
    have c1b : t = false := by cases t <;> simp_all
    subst c1b
    clear c1
    simp only [Option.some.injEq, Prod.mk.injEq] at h
    obtain ⟨rfl, rfl⟩ := h
    go_enter Try.func45, Try.ntmps45
    go_wp2_with (go_at_call 81; refine (bits_wide.calls a1 false _ HT.out).mono ?_; rintro e w' ⟨rfl, ⟨nd, rfl⟩⟩)
    go_ret2
    exact ⟨rfl, pw_below_drewN (Below.refl _ _) _⟩
end Go.Proofs.Ytbckdelbkcfjkaa.Bi
