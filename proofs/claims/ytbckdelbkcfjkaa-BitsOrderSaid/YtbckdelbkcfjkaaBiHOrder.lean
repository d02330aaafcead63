/- The walk of the law BitsOrder (its closure included), out of what the functions that it calls answer. -/
import Derived.Test.YtbckdelbkcfjkaaBiG1
import Derived.Test.YtbckdelbkcfjkaaBiG3
import Derived.Test.YtbckdelbkcfjkaaBiFretargetlaw01op
import Derived.Test.YtbckdelbkcfjkaaBiFretargetlaw01cut
import Derived.Test.YtbckdelbkcfjkaaBiFretargetlaw01alive
namespace Go.Proofs.Ytbckdelbkcfjkaa.Bi
open Go.RowKit Go.Proofs.YtbckdelbkcfjkaaW.PrintWords Go.Proofs.YtbckdelbkcfjkaaW.PrintLast Go.Proofs.YtbckdelbkcfjkaaW.PrintMore
set_option linter.unusedVariables false
set_option linter.unusedSimpArgs false
set_option maxHeartbeats 4000000 in
set_option maxRecDepth 100000 in
theorem one57 (t : Bool) (E : Int) (hE : (if t = true then 1 else 0) = E) (w : World) : Calls Try.prog 57 #[.bool t] w fun e w' => e = .returned (.int .u64 E) ∧ w = w' := by
  cases t
  · obtain rfl : (0 : Int) = E := hE
    go_enter Try.func57, Try.ntmps57
    go_wp2
    go_ret
    exact ⟨rfl, rfl⟩
  · obtain rfl : (1 : Int) = E := hE
    go_enter Try.func57, Try.ntmps57
    go_wp2
    go_ret
    exact ⟨rfl, rfl⟩
set_option maxHeartbeats 4000000 in
set_option maxRecDepth 100000 in
theorem order_of (k : Nat) (v x y W W2 A B N M E1 E2 E3 : Int) (w : World) (hc1 : retargetlaw01_cut.f v x = some (W, A)) (hc2 : retargetlaw01_cut.f v y = some (W2, B))
    (hs1 : bits_Signed.f k W A = some (N, 0)) (hs2 : bits_Signed.f k W B = some (M, 0)) (ho : bits_Of.f W N = some (A, 0)) (hal : retargetlaw01_alive.f k = some true)
    (h1 : retargetlaw01_op.f k 16 W A B = some E1) (h2 : retargetlaw01_op.f k 17 W A B = some E2) (h3 : retargetlaw01_op.f k 18 W A B = some E3)
    (e1 : (if (A == B) = true then 1 else 0) = E1) (e2 : (if decide (A < B) = true then 1 else 0) = E2) (e3 : (if decide (N < M) = true then 1 else 0) = E3) :
    Calls Try.prog 10 #[.int .u8 v, .int .u64 x, .int .u64 y] w fun e w' => e = .returned (.bool true) ∧ Below w.heap.size w w' := by
  have HC1 := Aside0.mk hc1
  have HC2 := Aside0.mk hc2
  have HS1 := Aside0.mk hs1
  have HS2 := Aside0.mk hs2
  have HO := Aside0.mk ho
  have HAL := Aside0.mk hal
  have H1 := Aside0.mk h1
  have H2 := Aside0.mk h2
  have H3 := Aside0.mk h3
  have G1 := Aside0.mk e1
  have G2 := Aside0.mk e2
  have G3 := Aside0.mk e3
  have HB := Aside0.mk (Below.refl w.heap.size w)
  clear hc1 hc2 hs1 hs2 ho hal h1 h2 h3 e1 e2 e3
  go_enter Try.func10, Try.ntmps10
  go_wp2_with (first | (go_at_call 54; (with_reducible refine (retargetlaw01_cut.calls v x W A _ HC1.out).mono ?_); rintro e w' ⟨rfl, ⟨nd, rfl⟩⟩) | (go_at_call 54; (with_reducible refine (retargetlaw01_cut.calls v y W2 B _ HC2.out).mono ?_); rintro e w' ⟨rfl, ⟨nd, rfl⟩⟩) | (go_at_call 31; (with_reducible refine (bits_Signed.calls k W A N 0 _ HS1.out).mono ?_); rintro e w' ⟨rfl, hb⟩; have HBn := Aside0.mk (below_step (by repeat (first | exact HB.out | apply pw_below_drewN | apply below_drew1)) hb); clear HB hb; have HB := HBn; clear HBn) | (go_at_call 31; (with_reducible refine (bits_Signed.calls k W B M 0 _ HS2.out).mono ?_); rintro e w' ⟨rfl, hb⟩; have HBn := Aside0.mk (below_step (by repeat (first | exact HB.out | apply pw_below_drewN | apply below_drew1)) hb); clear HB hb; have HB := HBn; clear HBn) | (go_at_call 33; (with_reducible refine (bits_Of.calls W N A 0 _ HO.out).mono ?_); rintro e w' ⟨rfl, ⟨nd, rfl⟩⟩) | (go_at_call 56; (with_reducible refine (retargetlaw01_alive.calls k true _ HAL.out).mono ?_); rintro e w' ⟨rfl, hb⟩; have HBn := Aside0.mk (below_step (by repeat (first | exact HB.out | apply pw_below_drewN | apply below_drew1)) hb); clear HB hb; have HB := HBn; clear HBn) | (go_at_call 55; (with_reducible refine (retargetlaw01_op.calls k 16 W A B E1 _ H1.out).mono ?_); rintro e w' ⟨rfl, hb⟩; have HBn := Aside0.mk (below_step (by repeat (first | exact HB.out | apply pw_below_drewN | apply below_drew1)) hb); clear HB hb; have HB := HBn; clear HBn) | (go_at_call 55; (with_reducible refine (retargetlaw01_op.calls k 17 W A B E2 _ H2.out).mono ?_); rintro e w' ⟨rfl, hb⟩; have HBn := Aside0.mk (below_step (by repeat (first | exact HB.out | apply pw_below_drewN | apply below_drew1)) hb); clear HB hb; have HB := HBn; clear HBn) | (go_at_call 55; (with_reducible refine (retargetlaw01_op.calls k 18 W A B E3 _ H3.out).mono ?_); rintro e w' ⟨rfl, hb⟩; have HBn := Aside0.mk (below_step (by repeat (first | exact HB.out | apply pw_below_drewN | apply below_drew1)) hb); clear HB hb; have HB := HBn; clear HBn) | (go_at_call 57; (with_reducible refine (one57 _ E1 G1.out _).mono ?_); rintro e w' ⟨rfl, rfl⟩) | (go_at_call 57; (with_reducible refine (one57 _ E2 G2.out _).mono ?_); rintro e w' ⟨rfl, rfl⟩) | (go_at_call 57; (with_reducible refine (one57 _ E3 G3.out _).mono ?_); rintro e w' ⟨rfl, rfl⟩))
  go_ret
  exact ⟨rfl, by repeat (first | exact HB.out | apply pw_below_drewN | apply below_drew1)⟩
end Go.Proofs.Ytbckdelbkcfjkaa.Bi
