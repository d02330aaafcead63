/- The walk of bits.operation: it hands back the function of a kind from 5 to 18. -/
import Derived.Test.YtbckdelbkcfjkaaBix0
import Derived.Laws.EntriesVeiled
import Derived.WalkLawsBesides
import Derived.WalkSpells
import Derived.Deep.WholeRow
namespace Go.Proofs.Ytbckdelbkcfjkaa.Bi
open Go.RowKit Go.Proofs.YtbckdelbkcfjkaaW.PrintWords Go.Proofs.YtbckdelbkcfjkaaW.PrintLast Go.Proofs.YtbckdelbkcfjkaaW.PrintMore
set_option linter.unusedVariables false
set_option linter.unusedSimpArgs false
@[irreducible] def opsV : Array Value := #[.nilFunc, .nilFunc, .nilFunc, .nilFunc, .nilFunc, .func (.func 125) #[] #[], .func (.func 126) #[] #[], .func (.func 127) #[] #[], .func (.func 128) #[] #[], .func (.func 129) #[] #[], .func (.func 130) #[] #[], .func (.func 131) #[] #[], .func (.func 133) #[] #[], .func (.func 134) #[] #[], .func (.func 135) #[] #[], .func (.func 136) #[] #[], .func (.func 137) #[] #[], .func (.func 139) #[] #[], .func (.func 140) #[] #[]]
theorem opsV_size : opsV.size = 19 := by unfold opsV; rfl
theorem opsV_one : opsV.all (·.oneCell') = true := by unfold opsV; kernel_rfl
theorem size170 : (Try.prog.info? 170).map (·.size) = some opsV.size := by rw [opsV_size]; kernel_rfl
theorem store_ops (w : World) : (storeCells ⟨w.heap.size, 0, none⟩ opsV.toList).run Try.prog (w.alloc (.cells #[.nilFunc, .nilFunc, .nilFunc, .nilFunc, .nilFunc, .nilFunc, .nilFunc, .nilFunc, .nilFunc, .nilFunc, .nilFunc, .nilFunc, .nilFunc, .nilFunc, .nilFunc, .nilFunc, .nilFunc, .nilFunc, .nilFunc] 170)) = .ok () (w.alloc (.cells opsV 170)) :=
  run_storeCells_new w 170 _ opsV size170 (by rw [opsV_size]; rfl) opsV_one
theorem cell_ops (w : World) (j : Nat) (v : Value) (h : opsV[j]? = some v) : (w.alloc (.cells opsV 170)).cell? ⟨w.heap.size, j, none⟩ = some v := by
  rw [World.cell?_alloc_new]; exact h
set_option maxHeartbeats 1000000 in
set_option maxRecDepth 100000 in
theorem operation_calls (n : Nat) (K : Nat) (h0 : 5 ≤ n) (h1 : n ≤ 18) (hk : opsV[n]? = some (.func (.func K) #[] #[])) (w : World) :
    Calls Try.prog 88 #[.int .u8 (n : Int)] w fun e w' => e = .returned (.func (.func K) #[] #[]) ∧ Below w.heap.size w w' := by
  have hsz := opsV_size
  have hst := store_ops w
  have hc := cell_ops w n _ hk
  clear hk
  have hn0 : 0 ≤ (n : Int) := by omega
  have hn1 : (n : Int) < 19 := by omega
  go_enter Try.func88, Try.ntmps88
  go_wp2_with ((with_reducible refine gate_dst (N := 4) rfl ?_); refine Kd.event_run rfl (v := .agg opsV) (w1 := w) (by kernel_rfl) ?_)
  go_ret
  exact ⟨rfl, below_alloc (Below.refl _ _) _⟩
end Go.Proofs.Ytbckdelbkcfjkaa.Bi
