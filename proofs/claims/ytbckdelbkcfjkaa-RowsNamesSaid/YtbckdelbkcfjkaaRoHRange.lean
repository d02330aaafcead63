/- The iterator of rows.differences, and the loop over it. -/
import Derived.RangeFuncBox
import Derived.RangeFuncMany
import Derived.RangeFuncLeaves
import Derived.Shelf.Abstract
import Derived.OwnWalkIn
import Derived.TacticsInMore
import Derived.LoopNIn
import Derived.LoopIn
import Derived.Test.YtbckdelbkcfjkaaRox0
namespace Go.Proofs.Ytbckdelbkcfjkaa.Ro
open Go.RowKit Go.Shelf Go.Proofs.YtbckdelbkcfjkaaW.PrintWords Go.Proofs.YtbckdelbkcfjkaaW.PrintLast Go.Proofs.YtbckdelbkcfjkaaW.PrintMore
set_option linter.unusedVariables false
set_option linter.unusedSimpArgs false
attribute [local go_sem] Oper.semAt_some
/-- The one before (0 ahead of the first). -/
def prev (f : Nat → Int) : Nat → Int
  | 0 => 0
  | k + 1 => f k
theorem grown_cell (W : World) (p : Addr) (u : Value) : W.grownBy (W.setCell p u) (some p.block) :=
  ⟨rfl, rfl, rfl, (KeepsWalks.setCell W _ u).size, fun k _ hk => Below.heap_setCell _ _ _ k (fun e => hk (by rw [e]))⟩
/-- What this iterator does beside its calls of yield: new blocks; turns of blocks of rows laid since it began. -/
def Abides72 (B : Nat) (J : Nat → World → Prop) : Prop :=
  ∀ s W W' row, J s W → W.grownBy W' row → (∀ r, row = some r → B ≤ r ∧ ∃ c, W.heap[r]? = some (.cells c 72 (0, 0))) → J s W'
/-- What a round keeps: all that lay below n₀, and the blocks of rows. -/
structure Kept72 (n₀ : Nat) (W W' : World) : Prop where
  below : Below n₀ W W'
  rows : ∀ (b : Nat) (c : Array Value), W.heap[b]? = some (Obj.cells c 72 (0, 0)) → W'.heap[b]? = some (Obj.cells c 72 (0, 0))
set_option maxRecDepth 100000 in
set_option maxHeartbeats 4000000 in
theorem differences1_in (F : Fence) (n : Nat) (h7 : F.fn 143) (hro : F.round = none) (hn : 1 ≤ n) (l Bs n₀ len cap : Nat) (A : Option Addr) (ad : Addr) (fa fb : Nat → Int) (hreach : len ≤ 1000) (hA : 0 < len → A = some ad ∧ ad.block < n₀) (J : Nat → World → Prop) (W : World) (hn₀ : n₀ ≤ W.heap.size) (hJ : Abides72 W.heap.size J)
    (hY : ∀ k W1, k < len → J k W1 → YieldAt F (n - 1) Try.prog l #[.int .u64 (IntKind.u64.wrap (fa k - prev fa k)), .int .i64 (wrap64 (fb k - prev fb k))] W1 fun e W' => e = .returned (.bool true) ∧ J (k + 1) W' ∧ Kept72 n₀ W1 W')
    (hBs : W.cell? ⟨Bs, 0, none⟩ = some (.slice A len cap)) (hc0 : ∀ j, j < len → W.cell? (ad.add (j * 2)) = some (.int .u64 (fa j))) (hc1 : ∀ j, j < len → W.cell? ⟨(ad.add (j * 2)).block, (ad.add (j * 2)).off + 1, none⟩ = some (.int .i64 (fb j))) (h0 : J 0 W) :
    CallsIn F n Try.prog 143 #[.func (.yield l) #[] #[], .pointer (some ⟨Bs, 0, none⟩)] W fun e W' => (∃ v, e = .returned v) ∧ J len W' := by
  have hBs2 := cell_kept hBs (World.grownBy_alloc W (.cells #[.int .u64 0, .int .i64 0] 72) none) (fun r e => by cases e)
  refine callsIn_of_wp Try.func143 rfl h7 ?_ hro
  simp only [Try.ntmps143, List.size_toArray, List.length_cons, List.length_nil, Nat.reduceAdd, Nat.reduceSub, Array.replicate_succ, Array.replicate_zero, List.push_toArray, List.append_toArray, List.nil_append, List.cons_append]
  gi_wp2
  clear hBs2
  gi_loopw [8] (fun i wr => ∃ k : Nat, k ≤ len ∧ i = .int .i64 k ∧ J k wr ∧ Below n₀ W wr ∧ W.heap.size < wr.heap.size ∧ wr.heap[W.heap.size]? = some (.cells #[.int .u64 (prev fa k), .int .i64 (prev fb k)] 72 (0, 0)))
    (fun i _ => len - (intOf i).toNat)
  case atStart => exact ⟨0, Nat.zero_le _, rfl, hJ _ _ _ none h0 (World.grownBy_alloc W _ none) (fun r e => by cases e), (Below.refl n₀ W).alloc hn₀ _, by simp, World.alloc_heap_new W _⟩
  case round =>
    obtain ⟨k, hk, rfl, hJs, hnx, hsz, hwas⟩ := hrel
    by_cases hlt : k < len
    · obtain ⟨rfl, hb⟩ := hA (by omega)
      have hb' : (ad.add (k * 2)).block < n₀ := by rw [add_block]; exact hb
      have c0 := (hnx.cell (p := ad.add (k * 2)) hb').trans (hc0 k hlt)
      have c1 := (hnx.cell (p := ⟨(ad.add (k * 2)).block, (ad.add (k * 2)).off + 1, none⟩) hb').trans (hc1 k hlt)
      clear hc0 hc1
      obtain ⟨W2, hW2⟩ : ∃ W2, wr.alloc (.cells #[.int .u64 (fa k), .int .i64 (fb k)] 72) = W2 := ⟨_, rfl⟩
      have hwas2 : W2.heap[W.heap.size]? = some (.cells #[.int .u64 (prev fa k), .int .i64 (prev fb k)] 72 (0, 0)) := by rw [← hW2]; exact (Below.heap_alloc _ _ _ hsz).trans hwas
      have hr2 : W2.heap[wr.heap.size]? = some (.cells #[.int .u64 (fa k), .int .i64 (fb k)] 72 (0, 0)) := by rw [← hW2]; exact World.alloc_heap_new wr _
      have hJ2 : J k W2 := by rw [← hW2]; exact hJ _ _ _ none hJs (World.grownBy_alloc wr _ none) (fun r e => by cases e)
      have hb2 : Below n₀ W W2 := by rw [← hW2]; exact hnx.alloc (Nat.le_trans hn₀ (Nat.le_of_lt hsz)) _
      have hwas0 := blk_cell hwas2 0
      have hwas1 := blk_cell hwas2 1
      have hr0 := blk_cell hr2 0
      have hr1 := blk_cell hr2 1
      replace hwas0 : W2.cell? ⟨W.heap.size, 0, none⟩ = some (.int .u64 (prev fa k)) := hwas0
      replace hwas1 : W2.cell? ⟨W.heap.size, 1, none⟩ = some (.int .i64 (prev fb k)) := hwas1
      replace hr0 : W2.cell? ⟨wr.heap.size, 0, none⟩ = some (.int .u64 (fa k)) := hr0
      replace hr1 : W2.cell? ⟨wr.heap.size, 1, none⟩ = some (.int .i64 (fb k)) := hr1
      obtain ⟨fn, tmps, assign, body, hy, hR⟩ := hY k W2 hlt hJ2
      have HS := Aside0.mk hsz
      have HW := Aside0.mk hwas
      have HW2 := Aside0.mk hwas2
      have HR2 := Aside0.mk hr2
      clear hsz hwas hwas2 hr2
      gi_wp2
      refine hR.mono ?_
      rintro e W3 ⟨rfl, hJ3, hk3⟩
      have g1 := hk3.rows _ _ HW2.out
      have g2 := hk3.rows _ _ HR2.out
      have r0 : W3.cell? ⟨wr.heap.size, 0, none⟩ = some (.int .u64 (fa k)) := blk_cell g2 0
      have r1 : W3.cell? ⟨wr.heap.size, 1, none⟩ = some (.int .i64 (fb k)) := blk_cell g2 1
      have s0 : W3.cell? ⟨W.heap.size, 0, none⟩ = some (.int .u64 (prev fa k)) := blk_cell g1 0
      have s1 : W3.cell? ⟨W.heap.size, 1, none⟩ = some (.int .i64 (prev fb k)) := blk_cell g1 1
      have z0 := blk_frozen g1 0
      have z1 := blk_frozen g1 1
      have G1 := Aside0.mk g1
      have hb3 := Aside0.mk (hb2.trans hk3.below)
      have hsz3 := Aside0.mk (show W.heap.size < W3.heap.size from (Array.getElem?_eq_some_iff.1 g1).1)
      have hJ4 := Aside0.mk hJ3
      clear g1 g2 hk3 hJ3 hb2 hJ2 hJs hnx hR hy hwas0 hwas1 hr0 hr1 hk
      gi_wp2
      go_roundw
      case rel =>
        have q1 := blk_put G1.out 0 (.int .u64 (fa k)) rfl
        have q2 := blk_put q1 1 (.int .i64 (fb k)) rfl
        have j1 := hJ _ _ _ _ hJ4.out (grown_cell W3 ⟨W.heap.size, 0, none⟩ (.int .u64 (fa k))) (fun r e => by cases e; exact ⟨Nat.le_refl _, _, G1.out⟩)
        have j2 := hJ _ _ _ _ j1 (grown_cell _ ⟨W.heap.size, 1, none⟩ (.int .i64 (fb k))) (fun r e => by cases e; exact ⟨Nat.le_refl _, _, q1⟩)
        exact ⟨k + 1, by omega, by simp, j2, (hb3.out.setCell (p := ⟨W.heap.size, 0, none⟩) hn₀ _).setCell (p := ⟨W.heap.size, 1, none⟩) hn₀ _, by simpa using hsz3.out, q2⟩
      case measure => simp [intOf]; omega
    · obtain rfl : k = len := by omega
      gi_wp2
      go_end0
      exact ⟨⟨_, rfl⟩, hJs⟩
/-- What a round of the loop's body keeps. -/
structure Round72 (B n₀ : Nat) (W W' : World) : Prop where
  kept : Kept72 n₀ W W'
  size : W.heap.size ≤ W'.heap.size
  same : ∀ (k : Nat) (o : Obj), B ≤ k → W.heap[k]? = some o → o.isCells = false → W'.heap[k]? = some o
/-- An invariant that new blocks, turns of rows' blocks laid since B, and turns of what is no cells from B on leave. -/
def Owns72 (B : Nat) (I : Nat → World → Prop) : Prop :=
  ∀ s W W' row, I s W → W.grownBy W' row → (∀ r, row = some r → B ≤ r ∧ ((∃ c, W.heap[r]? = some (.cells c 72 (0, 0))) ∨ ∃ o : Obj, W.heap[r]? = some o ∧ o.isCells = false)) → I s W'
theorem Owns72.put {B : Nat} {I : Nat → World → Prop} (h : Owns72 B I) {s : Nat} {W : World} (hi : I s W) {r : Nat} {o : Obj} (o' : Obj) (hr : B ≤ r) (ho : W.heap[r]? = some o) (hc : o.isCells = false) : I s (W.putObj r o') :=
  h _ _ _ _ hi (grownBy_putObj' W r o') (fun q e => by cases e; exact ⟨hr, .inr ⟨o, ho, hc⟩⟩)
theorem kept72_put {n₀ : Nat} {W : World} {r : Nat} {o : Obj} (o' : Obj) (hr : n₀ ≤ r) (ho : W.heap[r]? = some o) (hc : o.isCells = false) : Kept72 n₀ W (W.putObj r o') := by
  have hlt : r < W.heap.size := (Array.getElem?_eq_some_iff.1 ho).1
  refine ⟨(Below.refl n₀ W).grown (grownBy_putObj' W r o') (by omega) (fun k e => by cases e; exact hr), fun b c hb => (World.putObj_heap_other ?_).trans hb⟩
  rintro rfl
  rw [ho] at hb
  cases hb
  simp [Obj.isCells] at hc
theorem kept72_trans {n₀ : Nat} {A B C : World} (h : Kept72 n₀ A B) (k : Kept72 n₀ B C) : Kept72 n₀ A C := ⟨h.below.trans k.below, fun b c hb => k.rows b c (h.rows b c hb)⟩
/-- The loop over the differences of rows: its body never leaves the loop. -/
theorem range72 {F : Fence} {n : Nat} {g : Operand} {p0 p1 : Tmp} {assign body : Code} {Q : Exit → Act → World → Prop} {a : Act} {w : World} (h143 : F.fn 143) (hro : F.round = none) (hn : 3 ≤ n)
    {Bs n₀ len cap : Nat} {A : Option Addr} {ad : Addr} (hg : a.eval g = .func (.func 143) #[] #[.pointer (some ⟨Bs, 0, none⟩)]) (fa fb : Nat → Int) (hreach : len ≤ 1000) (hA : 0 < len → A = some ad ∧ ad.block < n₀) (hn₀ : n₀ ≤ w.heap.size)
    (hBs : w.cell? ⟨Bs, 0, none⟩ = some (.slice A len cap)) (hc0 : ∀ j, j < len → w.cell? (ad.add (j * 2)) = some (.int .u64 (fa j))) (hc1 : ∀ j, j < len → w.cell? ⟨(ad.add (j * 2)).block, (ad.add (j * 2)).off + 1, none⟩ = some (.int .i64 (fb j)))
    (I : Nat → World → Prop) (hI : Owns72 w.heap.size I) (h0 : I 0 w) (a₁ : Nat → Act)
    (hassign : ∀ (l k : Nat) (W : World) (K : Act → World → Prop), K (a₁ k) W →
      assign.wpIn (F.inRound l) (n - 1 - 1) Try.prog (Exit.then K (fun _ _ _ => False)) { tmps := (#[p0, p1].zip #[.int .u64 (IntKind.u64.wrap (fa k - prev fa k)), .int .i64 (wrap64 (fb k - prev fb k))]).foldl (fun t (p, v) => t.setIfInBounds p v) a.tmps, defers := [] } W)
    (hbody : ∀ (l k : Nat) (W : World), I k W → k < len → w.heap.size < W.heap.size → body.wpIn (F.inRound l) (n - 1 - 1) Try.prog (fun e _ W' => e = .normal ∧ I (k + 1) W' ∧ Round72 w.heap.size n₀ W W') (a₁ k) W)
    (hdone : ∀ (D : Nat) (W : World), w.heap.size ≤ D → I len W → W.heap[D]? = some (.deferred (some [])) → Q .normal { a with defers := { target := .collected D, args := #[] } :: a.defers } W) :
    (Code.rangeFunc g #[p0, p1] assign body).wpIn F n Try.prog Q a w := by
  refine wpIn_rangeFunc ?_
  intro fn hfn
  rw [hro]
  obtain ⟨rec, hrec⟩ : ∃ rec : LoopState → Loop, rec = fun st => { state := st, pending := none, fn, tmps := a.tmps, params := #[p0, p1], assign, body, defers := w.heap.size } := ⟨_, rfl⟩
  obtain ⟨W1, hW1⟩ : ∃ W1, (w.alloc (.deferred (some []))).alloc (.loop (rec .ready)) = W1 := ⟨_, rfl⟩
  have hL1 : W1.heap[w.heap.size + 1]? = some (.loop (rec .ready)) := by
    rw [← hW1]; have := World.alloc_heap_new (w.alloc (.deferred (some []))) (.loop (rec .ready)); rwa [World.size_alloc] at this
  have hK1 : W1.heap[w.heap.size]? = some (.deferred (some [])) := by
    rw [← hW1]; exact (Below.heap_alloc _ _ _ (by simp)).trans (World.alloc_heap_new w _)
  have hs1 : W1.heap.size = w.heap.size + 2 := by rw [← hW1]; simp
  have hI1 : I 0 W1 := by
    rw [← hW1]
    exact hI _ _ _ none (hI _ _ _ none h0 (World.grownBy_alloc w _ none) (fun r e => by cases e)) (World.grownBy_alloc _ _ none) (fun r e => by cases e)
  have kp : ∀ {p : Addr} {v : Value}, w.cell? p = some v → W1.cell? p = some v := fun h => by
    rw [← hW1]
    exact cell_kept (cell_kept h (World.grownBy_alloc w _ none) (fun r e => by cases e)) (World.grownBy_alloc _ _ none) (fun r e => by cases e)
  refine ⟨w.heap.size + 1, [{ target := .collected w.heap.size, args := #[] }], W1, { target := .fn (.func 143) #[.pointer (some ⟨Bs, 0, none⟩)], args := #[.func (.yield (w.heap.size + 1)) #[] #[]] }, W1, 143,
    #[.func (.yield (w.heap.size + 1)) #[] #[], .pointer (some ⟨Bs, 0, none⟩)], W1, ?_, ?_, ?_, ?_, fun _ => by omega, ?_⟩
  · rw [← hW1, hrec]; exact run_enterLoop_outer _ _ _ _ _
  · simp only [resolve, hg]
    simp [go_sem]
  · intro f' hf'; simp [Target.leads] at hf'; subst hf'; exact h143
  · simp [invoke, go_sem, enters_of Try.func143 (by kernel_rfl) rfl]
  · refine (differences1_in F (n - 1) h143 hro (by omega) (w.heap.size + 1) Bs n₀ len cap A ad fa fb hreach hA
      (fun k W => I k W ∧ W.heap[w.heap.size + 1]? = some (.loop (rec .ready)) ∧ W.heap[w.heap.size]? = some (.deferred (some []))) W1 (by omega) ?_ ?_ (kp hBs) (fun j hj => kp (hc0 j hj)) (fun j hj => kp (hc1 j hj)) ⟨hI1, hL1, hK1⟩).mono ?_
    · -- the invariant, with the two facts of book-keeping, abides
      rintro s A B row ⟨hi, hl, hk⟩ hg' hr
      have hne : ∀ (q : Nat) (o : Obj), A.heap[q]? = some o → o.isCells = false → some q ≠ row := by
        intro q o hq ho e
        obtain ⟨_, c, hc⟩ := hr q e.symm
        rw [hq] at hc
        cases hc
        simp [Obj.isCells] at ho
      refine ⟨hI s A B row hi hg' (fun r e => ?_), (hg'.block _ (Array.getElem?_eq_some_iff.1 hl).1 (hne _ _ hl rfl)).trans hl, (hg'.block _ (Array.getElem?_eq_some_iff.1 hk).1 (hne _ _ hk rfl)).trans hk⟩
      obtain ⟨h1, h2⟩ := hr r e
      exact ⟨by omega, .inl h2⟩
    · -- one round
      rintro k W hlen ⟨hi, hl, hk⟩
      have hlt : w.heap.size + 1 < W.heap.size := (Array.getElem?_eq_some_iff.1 hl).1
      have hy := run_yield (P := Try.prog) (args := #[.int .u64 (IntKind.u64.wrap (fa k - prev fa k)), .int .i64 (wrap64 (fb k - prev fb k))]) hl (by rw [hrec]; rfl)
      rw [hrec] at hy
      refine ⟨fn, _, assign, body, hy, roundIn_of_wpIn hfn (hassign _ k W _ ⟨_, run_beginRound hl (by rw [hrec]), ?_⟩)⟩
      have hl2 : (W.putObj (w.heap.size + 1) (.loop { rec .ready with state := .busy })).heap[w.heap.size + 1]? = some (.loop { rec .ready with state := .busy }) := World.putObj_heap_same hlt
      have hk2 : (W.putObj (w.heap.size + 1) (.loop { rec .ready with state := .busy })).heap[w.heap.size]? = some (.deferred (some [])) := (World.putObj_heap_other (by omega)).trans hk
      have hw2 : Kept72 n₀ W (W.putObj (w.heap.size + 1) (.loop { rec .ready with state := .busy })) := kept72_put _ (by omega) hl rfl
      refine wpIn_mono (hbody _ k _ (hI.put hi _ (by omega) hl rfl) hlen (by simpa [World.putObj] using (by omega : w.heap.size < W.heap.size))) ?_
      rintro e a3 W3 ⟨rfl, hi3, hkp⟩
      have hl3 := hkp.same _ _ (by omega) hl2 rfl
      have hk3 := hkp.same _ _ (Nat.le_refl _) hk2 rfl
      have hend := run_endRound (P := Try.prog) none hl3
      refine ⟨_, _, hend, rfl, ⟨hI.put hi3 _ (by omega) hl3 rfl, ?_, (World.putObj_heap_other (by omega)).trans hk3⟩, kept72_trans (kept72_trans hw2 hkp.kept) (kept72_put _ (by omega) hl3 rfl)⟩
      rw [World.putObj_heap_same (Array.getElem?_eq_some_iff.1 hl3).1, hrec]
      rfl
    · -- behind the iterator
      rintro e W2 ⟨⟨v, rfl⟩, hi, hl, hk⟩
      exact ⟨none, _, by have := run_endLoop (P := Try.prog) hl (by rw [hrec]; simp); rw [hrec] at this; exact this, hdone _ _ (Nat.le_refl _) (hI.put hi _ (by omega) hl rfl) ((World.putObj_heap_other (by omega)).trans hk)⟩
end Go.Proofs.Ytbckdelbkcfjkaa.Ro
