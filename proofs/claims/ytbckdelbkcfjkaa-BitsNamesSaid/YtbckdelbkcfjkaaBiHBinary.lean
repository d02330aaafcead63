/- The walk of bits.Binary: it does the operation of the kind, cut to the width. -/
import Derived.Test.YtbckdelbkcfjkaaBiHOperation
import Derived.Test.YtbckdelbkcfjkaaBiG1
namespace Go.Proofs.Ytbckdelbkcfjkaa.Bi
open Go.RowKit Go.Proofs.YtbckdelbkcfjkaaW.PrintWords Go.Proofs.YtbckdelbkcfjkaaW.PrintLast Go.Proofs.YtbckdelbkcfjkaaW.PrintMore
set_option linter.unusedVariables false
set_option linter.unusedSimpArgs false

/-- What the function of a kind answers, before it is cut. -/
def opsF (n : Nat) (w a b : Int) : Option Int :=
  if n = 5 then bits_operation__1.f w a b else if n = 6 then bits_operation__2.f w a b else if n = 7 then bits_operation__3.f w a b
  else if n = 8 then bits_operation__4.f w a b else if n = 9 then bits_operation__5.f w a b else if n = 10 then bits_operation__6.f w a b
  else if n = 11 then bits_operation__7.f w a b else if n = 12 then bits_operation__8.f w a b else if n = 13 then bits_operation__9.f w a b
  else if n = 14 then bits_operation__10.f w a b else if n = 15 then bits_operation__11.f w a b else if n = 16 then bits_operation__12.f w a b
  else if n = 17 then bits_operation__13.f w a b else bits_operation__14.f w a b
theorem ops_calls (n : Nat) (h0 : 5 ≤ n) (h1 : n ≤ 18) : ∃ K, opsV[n]? = some (.func (.func K) #[] #[]) ∧ (∀ (args : Array Value) (w : World), (callFunc K args).run Try.prog w = .ok (.enter K args) w) ∧ ∀ (w0 a b r : Int) (w : World), opsF n w0 a b = some r →
    Calls Try.prog K #[.int .i64 w0, .int .u64 a, .int .u64 b] w fun e w' => e = .returned (.int .u64 r) ∧ Below w.heap.size w w' := by
  have hn : n = 5 ∨ n = 6 ∨ n = 7 ∨ n = 8 ∨ n = 9 ∨ n = 10 ∨ n = 11 ∨ n = 12 ∨ n = 13 ∨ n = 14 ∨ n = 15 ∨ n = 16 ∨ n = 17 ∨ n = 18 := by omega
  rcases hn with rfl | rfl | rfl | rfl | rfl | rfl | rfl | rfl | rfl | rfl | rfl | rfl | rfl | rfl
  · exact ⟨125, by unfold opsV; rfl, enters_ Try.func125 (by kernel_rfl) rfl, fun w0 a b r w h => (bits_operation__1.calls w0 a b r w h).mono fun _ _ ⟨e, d⟩ => ⟨e, d.below⟩⟩
  · exact ⟨126, by unfold opsV; rfl, enters_ Try.func126 (by kernel_rfl) rfl, fun w0 a b r w h => (bits_operation__2.calls w0 a b r w h).mono fun _ _ ⟨e, d⟩ => ⟨e, d.below⟩⟩
  · exact ⟨127, by unfold opsV; rfl, enters_ Try.func127 (by kernel_rfl) rfl, fun w0 a b r w h => (bits_operation__3.calls w0 a b r w h).mono fun _ _ ⟨e, d⟩ => ⟨e, d.below⟩⟩
  · exact ⟨128, by unfold opsV; rfl, enters_ Try.func128 (by kernel_rfl) rfl, fun w0 a b r w h => (bits_operation__4.calls w0 a b r w h).mono fun _ _ ⟨e, d⟩ => ⟨e, d.below⟩⟩
  · exact ⟨129, by unfold opsV; rfl, enters_ Try.func129 (by kernel_rfl) rfl, fun w0 a b r w h => (bits_operation__5.calls w0 a b r w h).mono fun _ _ ⟨e, d⟩ => ⟨e, d.below⟩⟩
  · exact ⟨130, by unfold opsV; rfl, enters_ Try.func130 (by kernel_rfl) rfl, fun w0 a b r w h => (bits_operation__6.calls w0 a b r w h).mono fun _ _ ⟨e, d⟩ => ⟨e, d.below⟩⟩
  · exact ⟨131, by unfold opsV; rfl, enters_ Try.func131 (by kernel_rfl) rfl, fun w0 a b r w h => bits_operation__7.calls w0 a b r w h⟩
  · exact ⟨133, by unfold opsV; rfl, enters_ Try.func133 (by kernel_rfl) rfl, fun w0 a b r w h => bits_operation__8.calls w0 a b r w h⟩
  · exact ⟨134, by unfold opsV; rfl, enters_ Try.func134 (by kernel_rfl) rfl, fun w0 a b r w h => bits_operation__9.calls w0 a b r w h⟩
  · exact ⟨135, by unfold opsV; rfl, enters_ Try.func135 (by kernel_rfl) rfl, fun w0 a b r w h => (bits_operation__10.calls w0 a b r w h).mono fun _ _ ⟨e, d⟩ => ⟨e, d.below⟩⟩
  · exact ⟨136, by unfold opsV; rfl, enters_ Try.func136 (by kernel_rfl) rfl, fun w0 a b r w h => (bits_operation__11.calls w0 a b r w h).mono fun _ _ ⟨e, d⟩ => ⟨e, d.below⟩⟩
  · exact ⟨137, by unfold opsV; rfl, enters_ Try.func137 (by kernel_rfl) rfl, fun w0 a b r w h => (bits_operation__12.calls w0 a b r w h).mono fun _ _ ⟨e, d⟩ => ⟨e, d.below⟩⟩
  · exact ⟨139, by unfold opsV; rfl, enters_ Try.func139 (by kernel_rfl) rfl, fun w0 a b r w h => (bits_operation__13.calls w0 a b r w h).mono fun _ _ ⟨e, d⟩ => ⟨e, d.below⟩⟩
  · exact ⟨140, by unfold opsV; rfl, enters_ Try.func140 (by kernel_rfl) rfl, fun w0 a b r w h => (bits_operation__14.calls w0 a b r w h).mono fun _ _ ⟨e, d⟩ => ⟨e, d.below⟩⟩
def bits_Binary.f (k : Nat) (a0 a1 a2 a3 : Int) : Option (Int × Int) :=
  (bits_wide.f a1).bind fun t => if t = true then (if a0 < 5 then some (0, 2) else if a0 > 18 then some (0, 2) else
    (bits_check.f k a1 [a2, a3]).bind fun c => if c = 0 then ((opsF a0.toNat a1 a2 a3).bind fun v => (bits_Mask.f a1).bind fun m => some (Go.bits .and .u64 v m, 0)) else some (0, c)) else some (0, 14)
theorem bits_Binary.mono : ∀ a0 a1 a2 a3 k, LeO (bits_Binary.f k a0 a1 a2 a3) (bits_Binary.f (k + 1) a0 a1 a2 a3) := by
  intro a0 a1 a2 a3 k
  unfold bits_Binary.f
  refine LeO.bind (LeO.refl _) fun t => LeO.ite (LeO.ite (LeO.refl _) (LeO.ite (LeO.refl _) (LeO.bind (bits_check.mono _ _ _) fun c => LeO.refl _))) (LeO.refl _)
set_option maxHeartbeats 8000000 in
set_option maxRecDepth 100000 in
theorem bits_Binary.calls (k : Nat) (a0 a1 a2 a3 r1 r2 : Int) (w : World) (h : bits_Binary.f k a0 a1 a2 a3 = some (r1, r2)) :
    Calls Try.prog 47 #[.int .u8 a0, .int .i64 a1, .int .u64 a2, .int .u64 a3] w fun e w' => e = .returned (.tuple #[.int .u64 r1, .int .i64 r2]) ∧ Below w.heap.size w w' := by
  unfold bits_Binary.f at h
  obtain ⟨t, ht, h⟩ := Option.bind_eq_some_iff.mp h
  have HT := Aside0.mk ht
  clear ht
  by_cases c1 : t = true
  · subst c1
    rw [if_pos rfl] at h
    by_cases c2 : a0 < 5
    · rw [if_pos c2] at h
      have c2b : decide (a0 < 5) = true := decide_eq_true c2
      clear c2
      simp only [Option.some.injEq, Prod.mk.injEq] at h
      obtain ⟨rfl, rfl⟩ := h
      go_enter Try.func47, Try.ntmps47
      go_wp2_with (go_at_call 81; refine (bits_wide.calls a1 true _ HT.out).mono ?_; rintro e w' ⟨rfl, ⟨nd, rfl⟩⟩)
      go_ret2
      exact ⟨rfl, pw_below_drewN (Below.refl _ _) _⟩
    rw [if_neg c2] at h
    have c2b : decide (a0 < 5) = false := decide_eq_false c2
    by_cases c3 : a0 > 18
    · rw [if_pos c3] at h
      have c3b : decide (18 < a0) = true := decide_eq_true c3
      clear c3 c2
      simp only [Option.some.injEq, Prod.mk.injEq] at h
      obtain ⟨rfl, rfl⟩ := h
      go_enter Try.func47, Try.ntmps47
      go_wp2_with (go_at_call 81; refine (bits_wide.calls a1 true _ HT.out).mono ?_; rintro e w' ⟨rfl, ⟨nd, rfl⟩⟩)
      go_ret2
      exact ⟨rfl, pw_below_drewN (Below.refl _ _) _⟩
    rw [if_neg c3] at h
    have c3b : decide (18 < a0) = false := decide_eq_false c3
    obtain ⟨c, hc, h⟩ := Option.bind_eq_some_iff.mp h
    have HC := Aside0.mk hc
    clear hc
    by_cases c4 : c = 0
    · rw [if_pos c4] at h
      have c4b0 : (c == 0) = true := beq_iff_eq.mpr c4
      have c4b1 : (c != 0) = false := bne_eq_false_iff_eq.mpr c4
      clear c4
      obtain ⟨v, hv, h2⟩ := Option.bind_eq_some_iff.mp h
      obtain ⟨m, hm, h3⟩ := Option.bind_eq_some_iff.mp h2
      clear h h2
      obtain ⟨n, rfl⟩ := Int.eq_ofNat_of_zero_le (show 0 ≤ a0 by omega)
      obtain ⟨K, hK, hen, hcall⟩ := ops_calls n (by omega) (by omega)
      have HK := Aside0.mk (hcall a1 a2 a3 v · (by simpa using hv))
      have HOP := Aside0.mk (operation_calls n K (by omega) (by omega) hK)
      have HM := Aside0.mk hm
      clear hcall hv hK hm c2 c3
      have h : some (Go.bits .and .u64 v m, (0 : Int)) = some (r1, r2) := h3
      clear h3
      simp only [Option.some.injEq, Prod.mk.injEq] at h
      obtain ⟨rfl, rfl⟩ := h
      go_enter Try.func47, Try.ntmps47
      go_wp2_with (first | (go_at_call 81; refine (bits_wide.calls a1 true _ HT.out).mono ?_; rintro e w' ⟨rfl, ⟨nd, rfl⟩⟩) | ((with_reducible refine gate_dst (N := 23) rfl ?_); refine Kd.R_lit (Kd.int .u64) _ 23 ?hg (N := 23) ?hd (xs := ([a2, a3] : List Int)) (inner := [.int .u64 a2, .int .u64 a3]) (ok := fun _ => True) (okp := fun _ => True) ?hr ?hp (fun _ hk => hk) trivial (Below.refl _ _) (Nat.le_refl _) (by simp) ?_; (case hd => rfl); (case hg => rfl); (case hr => first | (go_simp; done) | (go_simp; rfl)); (case hp => exact (Reps.one (show Kd.M (Kd.int .u64) _ _ _ a2 [.int .u64 a2] from rfl) (Reps.one (show Kd.M (Kd.int .u64) _ _ _ a3 [.int .u64 a3] from rfl) (Reps.none _ _)))); intro vs w6 ho7 hb hg_ hnew_; clear hg_ hnew_; obtain ⟨Ao, co, eo⟩ := Kd.R_slice ho7; subst eo; have HO := Aside0.mk ho7; have HB := Aside0.mk (below_then (pw_below_drewN (Below.refl _ _) nd : Below w.heap.size w _) (Nat.le_refl _) hb); clear ho7 hb) | (go_at_call 77; refine (bits_check.calls k a1 _ _ [a2, a3] c _ (Kd.R_reads' HO.out).2.2 (Kd.R_reads' HO.out).2.1 HC.out).mono ?_; rintro e w' ⟨rfl, ⟨nc, rfl⟩⟩) | (go_at_call 88; refine (HOP.out _).mono ?_; rintro e w7 ⟨rfl, hb⟩; have HB1 := Aside0.mk (below_then (pw_below_drewN HB.out _) (Nat.le_trans (below_size HB.out) (by simp)) hb); clear hb) | (go_at_call 37; refine (bits_Mask.calls a1 m _ HM.out).mono ?_; rintro e w' ⟨rfl, ⟨nm, rfl⟩⟩) | ((with_reducible refine (HK.out _).mono ?_); rintro e w8 ⟨rfl, hb⟩; have HB2 := Aside0.mk (below_step HB1.out hb); clear hb))
      go_ret2
      exact ⟨rfl, pw_below_drewN HB2.out _⟩
    · rw [if_neg c4] at h
      have c4b0 : (c == 0) = false := beq_eq_false_iff_ne.mpr c4
      have c4b1 : (c != 0) = true := bne_iff_ne.mpr c4
      clear c4 c2 c3
      simp only [Option.some.injEq, Prod.mk.injEq] at h
      obtain ⟨rfl, rfl⟩ := h
      go_enter Try.func47, Try.ntmps47
      go_wp2_with (first | (go_at_call 81; refine (bits_wide.calls a1 true _ HT.out).mono ?_; rintro e w' ⟨rfl, ⟨nd, rfl⟩⟩) | ((with_reducible refine gate_dst (N := 23) rfl ?_); refine Kd.R_lit (Kd.int .u64) _ 23 ?hg (N := 23) ?hd (xs := ([a2, a3] : List Int)) (inner := [.int .u64 a2, .int .u64 a3]) (ok := fun _ => True) (okp := fun _ => True) ?hr ?hp (fun _ hk => hk) trivial (Below.refl _ _) (Nat.le_refl _) (by simp) ?_; (case hd => rfl); (case hg => rfl); (case hr => first | (go_simp; done) | (go_simp; rfl)); (case hp => exact (Reps.one (show Kd.M (Kd.int .u64) _ _ _ a2 [.int .u64 a2] from rfl) (Reps.one (show Kd.M (Kd.int .u64) _ _ _ a3 [.int .u64 a3] from rfl) (Reps.none _ _)))); intro vs w6 ho7 hb hg_ hnew_; clear hg_ hnew_; obtain ⟨Ao, co, eo⟩ := Kd.R_slice ho7; subst eo; have HO := Aside0.mk ho7; have HB := Aside0.mk (below_then (pw_below_drewN (Below.refl _ _) nd : Below w.heap.size w _) (Nat.le_refl _) hb); clear ho7 hb) | (go_at_call 77; refine (bits_check.calls k a1 _ _ [a2, a3] c _ (Kd.R_reads' HO.out).2.2 (Kd.R_reads' HO.out).2.1 HC.out).mono ?_; rintro e w' ⟨rfl, ⟨nc, rfl⟩⟩))
      go_ret2
      exact ⟨rfl, pw_below_drewN HB.out _⟩
  · rw [if_neg c1] at h
    have c1b : t = false := by cases t <;> simp_all
    subst c1b
    clear c1
    simp only [Option.some.injEq, Prod.mk.injEq] at h
    obtain ⟨rfl, rfl⟩ := h
    go_enter Try.func47, Try.ntmps47
    go_wp2_with (go_at_call 81; refine (bits_wide.calls a1 false _ HT.out).mono ?_; rintro e w' ⟨rfl, ⟨nd, rfl⟩⟩)
    go_ret2
    exact ⟨rfl, pw_below_drewN (Below.refl _ _) _⟩
end Go.Proofs.Ytbckdelbkcfjkaa.Bi
