/- The walk of rows.Unpack. -/
import Derived.Test.YtbckdelbkcfjkaaRoHNumber
import Derived.Laws.EntriesVeiled
namespace Go.Proofs.Ytbckdelbkcfjkaa.Ro
open Go.RowKit Go.Proofs.YtbckdelbkcfjkaaW.PrintWords Go.Proofs.YtbckdelbkcfjkaaW.PrintLast Go.Proofs.YtbckdelbkcfjkaaW.PrintMore
set_option linter.unusedVariables false
set_option linter.unusedSimpArgs false
/-- The row behind a difference. -/
def adv (was : S72) (d n : Int) : S72 := ⟨IntKind.u64.wrap (was.f0 + d), wrap64 (was.f1 + n)⟩
def rows_Unpack.l0 : Nat → List Int → Nat → List S72 → S72 → Option (List S72 × Int)
  | 0, _, _, _, _ => none
  | k + 1, b, i, l, was =>
    if i < b.length then
      (if 1000 < l.length then some ([], 12)
      else if rd b (i : Int) = 0 then (if i + 1 = b.length then (rows_Check.f k l).bind fun e => if e = 0 then some (l, 0) else some ([], 12) else some ([], 12))
      else if 32 ≤ rd b (i : Int) then rows_Unpack.l0 k b (i + 1) (l ++ [adv was ((rd b (i : Int) - 32) % 256 / 16 + 1) ((rd b (i : Int) - 32) % 16 - 8)]) (adv was ((rd b (i : Int) - 32) % 256 / 16 + 1) ((rd b (i : Int) - 32) % 16 - 8))
      else if 1 < rd b (i : Int) then some ([], 12)
      else (rows_unfold.f (numG b 5 0 0 (numG b 5 0 0 (i + 1)).2).1.1).bind fun n =>
        if (numG b 5 0 0 (i + 1)).1.2 = true ∧ (numG b 5 0 0 (numG b 5 0 0 (i + 1)).2).1.2 = true then (rows_short.f (numG b 5 0 0 (i + 1)).1.1 n).bind fun s =>
          if s = true then some ([], 12) else rows_Unpack.l0 k b (numG b 5 0 0 (numG b 5 0 0 (i + 1)).2).2 (l ++ [adv was (numG b 5 0 0 (i + 1)).1.1 n]) (adv was (numG b 5 0 0 (i + 1)).1.1 n)
        else some ([], 12))
    else some ([], 12)
def rows_Unpack.f (k : Nat) (b : List Int) : Option (List S72 × Int) := rows_Unpack.l0 k b 0 [] z72
theorem rows_Unpack.mono_l : ∀ k b i l was, LeO (rows_Unpack.l0 k b i l was) (rows_Unpack.l0 (k + 1) b i l was)
  | 0, _, _, _, _ => fun r h => by simp [rows_Unpack.l0] at h
  | k + 1, b, i, l, was => by
    unfold rows_Unpack.l0
    exact LeO.ite (LeO.ite (LeO.refl _) (LeO.ite (LeO.ite (LeO.bind (rows_Check.mono _ _) fun e => LeO.refl _) (LeO.refl _)) (LeO.ite (rows_Unpack.mono_l k _ _ _ _) (LeO.ite (LeO.refl _) (LeO.bind (LeO.refl _) fun n => LeO.ite (LeO.bind (LeO.refl _) fun s => LeO.ite (LeO.refl _) (rows_Unpack.mono_l k _ _ _ _)) (LeO.refl _)))))) (LeO.refl _)
theorem rows_Unpack.mono : ∀ a0 k, LeO (rows_Unpack.f k a0) (rows_Unpack.f (k + 1) a0) := fun a0 k => rows_Unpack.mono_l k a0 0 [] z72
/-- What the loop of Unpack holds: the four variables in memory, and the rows so far. -/
structure UnI (b : List Int) (A0 : Option Addr) (c0 : Nat) (w : World) (ga gn gw : Nat) (i : Nat) (l : List S72) (was : S72) (v7 : Value) (W : World) : Prop where
  at_ : Boxed W ga 3 (.int .i64 (i : Int))
  le : i ≤ b.length
  bb : W.heap[w.heap.size]? = some (.cells #[.slice A0 b.length c0] 79 (0, 0))
  nx : W.heap[gn]? = some (.cells #[.func (.func 102) #[] #[.pointer (some ⟨ga, 0, none⟩), .pointer (some ⟨w.heap.size, 0, none⟩)]] 145 (0, 0))
  ws : W.heap[gw]? = some (.cells #[.int .u64 was.f0, .int .i64 was.f1] 72 (0, 0))
  row : Kd.R k72 72 W w.heap.size (fun j => j ≠ gw) v7 l
  below : Below w.heap.size w W
theorem unI_only {b : List Int} {A0 : Option Addr} {c0 : Nat} {w W W' : World} {ga gn gw i j : Nat} {l : List S72} {was : S72} {v7 : Value} (h : UnI b A0 c0 w ga gn gw i l was v7 W) (n1 : ga ≠ w.heap.size) (n2 : ga ≠ gn) (n3 : gw ≠ ga) (n6 : w.heap.size ≤ ga)
    (ho : OnlyAt ga (.int .i64 (j : Int)) W W') (hj : j ≤ b.length) : UnI b A0 c0 w ga gn gw j l was v7 W' :=
  ⟨ho.box, hj, (ho.rest _ (fun e => n1 e.symm)).trans h.bb, (ho.rest _ (fun e => n2 e.symm)).trans h.nx, (ho.rest _ n3).trans h.ws,
    Kd.R_mono (Kd.R_step (Kd.R_tight2 rfl h.row) (fun q hq hlt => ho.rest q (fun e => Kd.R_ne h.row h.at_ (by decide) (by rw [← e]; exact hq.1)))) (fun q hq => hq.2),
    ⟨ho.os.trans h.below.os, ho.tape.trans h.below.tape, ho.output.trans h.below.output, by rw [ho.size]; exact h.below.size, fun q hq => (ho.rest q (by omega)).trans (h.below.block q hq)⟩⟩
theorem unI_drewN {b : List Int} {A0 : Option Addr} {c0 : Nat} {w W : World} {ga gn gw i : Nat} {l : List S72} {was : S72} {v7 : Value} (h : UnI b A0 c0 w ga gn gw i l was v7 W) (n : Nat) : UnI b A0 c0 w ga gn gw i l was v7 (W.drewN n) :=
  ⟨h.at_, h.le, h.bb, h.nx, h.ws, Kd.R_drewN h.row n, pw_below_drewN h.below n⟩
theorem unI_eq {b : List Int} {A0 : Option Addr} {c0 : Nat} {w W W' : World} {ga gn gw i : Nat} {l : List S72} {was : S72} {v7 : Value} (e : W = W') (h : UnI b A0 c0 w ga gn gw i l was v7 W) : UnI b A0 c0 w ga gn gw i l was v7 W' := e ▸ h
theorem numG_at (l : List Int) : ∀ d r n i, i ≤ l.length → (numG l d r n i).2 ≤ l.length
  | 0, _, _, i, h => h
  | d + 1, r, n, i, h => by
    rw [numG]
    split
    · split
      · show i + 1 ≤ _; omega
      · split
        · show i + 1 ≤ _; omega
        · exact numG_at l d _ _ _ (by omega)
    · exact h
theorem numG_le {l : List Int} {i j : Nat} {d : Int} {b : Bool} (h : i ≤ l.length) (e : numG l 5 0 0 i = ((d, b), j)) : j ≤ l.length := by
  have := numG_at l 5 0 0 i h
  rw [e] at this
  exact this
theorem blk1 {w : World} {g t : Nat} {v : Value} (h : w.heap[g]? = some (.cells #[v] t (0, 0))) : w.cell? ⟨g, 0, none⟩ = some v := blk_cell h 0
theorem unI_row {b : List Int} {A0 : Option Addr} {c0 : Nat} {w W : World} {ga gn gw i : Nat} {l : List S72} {was : S72} {v7 : Value} (h : UnI b A0 c0 w ga gn gw i l was v7 W) (n7 : w.heap.size ≤ gw) (u v : Value) :
    Kd.R k72 72 ((W.setCell ⟨gw, 0, none⟩ u).setCell ⟨gw, 1, none⟩ v) w.heap.size (fun j => j ≠ gw) v7 l ∧ Below w.heap.size w ((W.setCell ⟨gw, 0, none⟩ u).setCell ⟨gw, 1, none⟩ v) :=
  ⟨Kd.R_far (p := ⟨gw, 1, none⟩) (Kd.R_far (p := ⟨gw, 0, none⟩) h.row (fun _ hk => hk) u) (fun _ hk => hk) v, (h.below.setCell (p := ⟨gw, 0, none⟩) n7 u).setCell (p := ⟨gw, 1, none⟩) n7 v⟩
theorem unI_push {b : List Int} {A0 : Option Addr} {c0 : Nat} {w W w1 : World} {ga gn gw i : Nat} {l : List S72} {was : S72} {v7 v1 : Value} (h : UnI b A0 c0 w ga gn gw i l was v7 W) (n3 : gw ≠ ga) (n4 : gw ≠ gn) (n5 : gw ≠ w.heap.size) (n7 : w.heap.size ≤ gw) (a : S72)
    (ho : Kd.R k72 72 w1 w.heap.size (fun j => j ≠ gw) v1 (l ++ [a])) (hb : Below w.heap.size w w1) (hg : ((W.setCell ⟨gw, 0, none⟩ (.int .u64 a.f0)).setCell ⟨gw, 1, none⟩ (.int .i64 a.f1)).grownBy w1 v7.ownBlock) : UnI b A0 c0 w ga gn gw i (l ++ [a]) a v1 w1 := by
  have hr := (unI_row h n7 (.int .u64 a.f0) (.int .i64 a.f1)).1
  have keep : ∀ (g : Nat) (o : Obj), g ≠ gw → W.heap[g]? = some o → ((W.setCell ⟨gw, 0, none⟩ (.int .u64 a.f0)).setCell ⟨gw, 1, none⟩ (.int .i64 a.f1)).heap[g]? = some o := fun g o hne ho =>
    (Below.heap_setCell _ ⟨gw, 1, none⟩ _ g hne).trans ((Below.heap_setCell _ ⟨gw, 0, none⟩ _ g hne).trans ho)
  have up : ∀ (g t : Nat) (c : Array Value), ((W.setCell ⟨gw, 0, none⟩ (.int .u64 a.f0)).setCell ⟨gw, 1, none⟩ (.int .i64 a.f1)).heap[g]? = some (.cells c t (0, 0)) → some g ≠ v7.ownBlock → w1.heap[g]? = some (.cells c t (0, 0)) := fun g t c hc hne =>
    (hg.block g (Array.getElem?_eq_some_iff.1 hc).1 hne).trans hc
  have q1 := blk_put h.ws 0 (.int .u64 a.f0) rfl
  have q2 := blk_put q1 1 (.int .i64 a.f1) rfl
  have k1 := keep ga _ (fun e => n3 e.symm) h.at_
  have k2 := keep _ _ (fun e => n5 e.symm) h.bb
  have k3 := keep gn _ (fun e => n4 e.symm) h.nx
  exact ⟨up _ _ _ k1 (Kd.R_ne hr k1 (by decide)), h.le, up _ _ _ k2 (Kd.R_ne hr k2 (by decide)), up _ _ _ k3 (Kd.R_ne hr k3 (by decide)), up _ _ _ q2 (fun e => h.row.1 gw e.symm rfl), ho, hb⟩
set_option maxHeartbeats 8000000 in
set_option maxRecDepth 100000 in
theorem rows_Unpack.calls (k : Nat) (A0 : Option Addr) (c0 : Nat) (l0 : List Int) (r1 : List S72) (r2 : Int) (w : World) (hr0 : Kd.C (Kd.int .u8) w A0 l0.length l0) (hc0 : l0.length ≤ c0) (h : rows_Unpack.f k l0 = some (r1, r2)) :
    Calls Try.prog 64 #[.slice A0 l0.length c0] w fun e w' => ∃ v0_ : Value, e = .returned (.tuple #[v0_, .int .i64 r2]) ∧ Kd.R k72 72 w' w.heap.size (fun _ => True) v0_ r1 ∧ Below w.heap.size w w' := by
  have hlen : l0.length ≤ 9223372036854775807 := hr0.2.1
  have HC := Aside0.mk hr0
  have H := Aside0.mk (show rows_Unpack.l0 k l0 0 [] z72 = some (r1, r2) from h)
  clear hr0 h
  go_enter Try.func64, Try.ntmps64
  go_wp2
  obtain ⟨ga, hga⟩ : ∃ g, w.heap.size + 1 = g := ⟨_, rfl⟩
  obtain ⟨gn, hgn⟩ : ∃ g, ga + 1 = g := ⟨_, rfl⟩
  obtain ⟨gw, hgw⟩ : ∃ g, gn + 1 = g := ⟨_, rfl⟩
  rw [hga, hgn, hgw]
  have hU : UnI l0 A0 c0 w ga gn gw 0 [] z72 (.slice none 0 0) ((((w.alloc (.cells #[.slice A0 l0.length c0] 79)).alloc (.cells #[.int .i64 0] 3)).alloc (.cells #[.func (.func 102) #[] #[.pointer (some ⟨ga, 0, none⟩), .pointer (some ⟨w.heap.size, 0, none⟩)]] 145)).alloc (.cells #[.int .u64 0, .int .i64 0] 72)) := by
    have s1 : (w.alloc (.cells #[.slice A0 l0.length c0] 79)).heap.size = ga := by rw [World.size_alloc, hga]
    have s2 : ((w.alloc (.cells #[.slice A0 l0.length c0] 79)).alloc (.cells #[.int .i64 0] 3)).heap.size = gn := by rw [World.size_alloc, s1, hgn]
    have s3 : (((w.alloc (.cells #[.slice A0 l0.length c0] 79)).alloc (.cells #[.int .i64 0] 3)).alloc (.cells #[.func (.func 102) #[] #[.pointer (some ⟨ga, 0, none⟩), .pointer (some ⟨w.heap.size, 0, none⟩)]] 145)).heap.size = gw := by rw [World.size_alloc, s2, hgw]
    refine ⟨?_, Nat.zero_le _, ?_, ?_, ?_, Kd.R_nil _ _ _ _ _, ?_⟩
    · have h := Boxed.new (w.alloc (.cells #[.slice A0 l0.length c0] 79)) 3 (.int .i64 0)
      rw [s1] at h
      exact (h.alloc _).alloc _
    · exact (Below.heap_alloc _ _ _ (by rw [s3]; omega)).trans ((Below.heap_alloc _ _ _ (by rw [s2]; omega)).trans ((Below.heap_alloc _ _ _ (by rw [s1]; omega)).trans (World.alloc_heap_new w _)))
    · have h := World.alloc_heap_new ((w.alloc (.cells #[.slice A0 l0.length c0] 79)).alloc (.cells #[.int .i64 0] 3)) (.cells #[.func (.func 102) #[] #[.pointer (some ⟨ga, 0, none⟩), .pointer (some ⟨w.heap.size, 0, none⟩)]] 145)
      rw [s2] at h
      exact (Below.heap_alloc _ _ _ (by rw [s3]; omega)).trans h
    · have h := World.alloc_heap_new (((w.alloc (.cells #[.slice A0 l0.length c0] 79)).alloc (.cells #[.int .i64 0] 3)).alloc (.cells #[.func (.func 102) #[] #[.pointer (some ⟨ga, 0, none⟩), .pointer (some ⟨w.heap.size, 0, none⟩)]] 145)) (.cells #[.int .u64 0, .int .i64 0] 72)
      rw [s3] at h
      exact h
    · exact ((((Below.refl _ _).alloc (Nat.le_refl _) _).alloc (by rw [s1]; omega) _).alloc (by rw [s2]; omega) _).alloc (by rw [s3]; omega) _
  have HU := Aside0.mk hU
  have n1 : ga ≠ w.heap.size := by omega
  have n2 : ga ≠ gn := by omega
  have n3 : gw ≠ ga := by omega
  have n4 : gw ≠ gn := by omega
  have n5 : gw ≠ w.heap.size := by omega
  have n6 : w.heap.size ≤ ga := by omega
  have n7 : w.heap.size ≤ gw := by omega
  clear hU hga hgn hgw
  go_loopg [7] k (fun kq v7 W => ∃ (i : Nat) (l : List S72) (was : S72), Aside0 (rows_Unpack.l0 kq l0 i l was = some (r1, r2)) ∧ Aside0 (UnI l0 A0 c0 w ga gn gw i l was v7 W))
  case atStart => exact ⟨0, [], z72, H, HU⟩
  case round =>
    clear H HU
    obtain ⟨i, l, was, HA, HI⟩ := hrel
    cases gk with
    | zero => exact absurd HA.out (by simp [rows_Unpack.l0])
    | succ k1 =>
      have hH := HA.out
      clear HA
      simp only [rows_Unpack.l0] at hH
      have c1 : wr.cell? ⟨gn, 0, none⟩ = some (.func (.func 102) #[] #[.pointer (some ⟨ga, 0, none⟩), .pointer (some ⟨w.heap.size, 0, none⟩)]) := blk_cell HI.out.nx 0
      have hCr := Aside0.mk (Kd.C_below HC.out HI.out.below)
      obtain ⟨A7, c7, rfl⟩ := Kd.R_slice HI.out.row
      by_cases hil : i < l0.length
      · rw [if_pos hil] at hH
        have hfar : ∀ ad, A0 = some ad → ad.block < w.heap.size := by
          intro ad e
          obtain ⟨ad', e', g0⟩ := Kd.at_int HC.out (0 : Int) (by omega) (by omega)
          rw [e] at e'
          cases e'
          have := World.block_lt_of_cell? w _ g0
          rwa [add_block] at this
        have HF := Aside0.mk (show ∀ ad, A0 = some ad → ad.block ≠ ga from fun ad e => by have := hfar ad e; omega)
        clear hfar
        obtain ⟨x, hx⟩ : ∃ x, rd l0 (i : Int) = x := ⟨_, rfl⟩
        have hi1 : i + 1 ≤ l0.length := hil
        have HNX := Aside0.mk (next_yes ga w.heap.size A0 c0 l0 i wr hlen hil n1 HI.out.at_ (blk1 HI.out.bb) hCr.out HF.out)
        rw [hx] at HNX hH
        clear hx
        by_cases c1000 : 1000 < l.length
        · rw [if_pos c1000] at hH
          have HH := Aside0.mk hH
          have t1 : decide (1000 < l.length) = true := decide_eq_true c1000
          have t2 : decide ((1000 : Int) < (l.length : Int)) = true := decide_eq_true (by omega)
          clear hH c1000
          cases X1 : decide (1 < x) <;> cases X2 : decide (x < 32)
          all_goals
            go_wp2_with (go_at_call 102; (with_reducible refine HNX.out.mono ?_); rintro e w3 ⟨rfl, ho⟩; have HI3 := Aside0.mk (unI_only (j := i + 1) HI.out n1 n2 n3 n6 ho hi1); clear ho)
            go_ret2
            have e := HH.out
            simp only [Option.some.injEq, Prod.mk.injEq] at e
            obtain ⟨e1, e2⟩ := e
            subst e1 e2
            exact ⟨_, rfl, Kd.R_nil _ _ _ _ _, HI3.out.below⟩
        · rw [if_neg c1000] at hH
          have t1 : decide (1000 < l.length) = false := decide_eq_false c1000
          have t2 : decide ((1000 : Int) < (l.length : Int)) = false := decide_eq_false (by omega)
          by_cases cx0 : x = 0
          · rw [if_pos cx0] at hH
            subst cx0
            by_cases ce : i + 1 = l0.length
            · rw [if_pos ce] at hH
              have q1 : ((i : Int) + 1 == (l0.length : Int)) = true := beq_iff_eq.mpr (by omega)
              have q2 : ((i : Int) + 1 != (l0.length : Int)) = false := bne_eq_false_iff_eq.mpr (by omega)
              obtain ⟨ev, hev, hH⟩ := Option.bind_eq_some_iff.mp hH
              have HEV := Aside0.mk hev
              have HH := Aside0.mk hH
              clear hH hev ce c1000
              cases Z : (ev != 0)
              · go_wp2_with (first | (go_at_call 102; (with_reducible refine HNX.out.mono ?_); rintro e w3 ⟨rfl, ho⟩; have HI3 := Aside0.mk (unI_only (j := i + 1) HI.out n1 n2 n3 n6 ho hi1); clear ho; have d1 : w3.cell? ⟨ga, 0, none⟩ = some (.int .i64 ((i : Int) + 1)) := HI3.out.at_.cell; have d2 : w3.cell? ⟨w.heap.size, 0, none⟩ = some (.slice A0 l0.length c0) := blk_cell HI3.out.bb 0) | (go_at_call 23; (with_reducible refine (rows_Check.calls k1 A7 c7 l ev _ (Kd.R_reads' HI3.out.row).2.2 (Kd.R_reads' HI3.out.row).2.1 HEV.out).mono ?_); rintro e w4 ⟨rfl, hb4⟩))
                go_ret2
                have e := HH.out
                rw [if_pos (by simpa using Z)] at e
                simp only [Option.some.injEq, Prod.mk.injEq] at e
                obtain ⟨e1, e2⟩ := e
                subst e1 e2
                exact ⟨_, rfl, Kd.R_mono (Kd.R_below HI3.out.row hb4) (fun _ _ => trivial), below_step HI3.out.below hb4⟩
              · go_wp2_with (first | (go_at_call 102; (with_reducible refine HNX.out.mono ?_); rintro e w3 ⟨rfl, ho⟩; have HI3 := Aside0.mk (unI_only (j := i + 1) HI.out n1 n2 n3 n6 ho hi1); clear ho; have d1 : w3.cell? ⟨ga, 0, none⟩ = some (.int .i64 ((i : Int) + 1)) := HI3.out.at_.cell; have d2 : w3.cell? ⟨w.heap.size, 0, none⟩ = some (.slice A0 l0.length c0) := blk_cell HI3.out.bb 0) | (go_at_call 23; (with_reducible refine (rows_Check.calls k1 A7 c7 l ev _ (Kd.R_reads' HI3.out.row).2.2 (Kd.R_reads' HI3.out.row).2.1 HEV.out).mono ?_); rintro e w4 ⟨rfl, hb4⟩))
                go_ret2
                have e := HH.out
                rw [if_neg (by simpa using Z)] at e
                simp only [Option.some.injEq, Prod.mk.injEq] at e
                obtain ⟨e1, e2⟩ := e
                subst e1 e2
                exact ⟨_, rfl, Kd.R_nil _ _ _ _ _, below_step HI3.out.below hb4⟩
            · rw [if_neg ce] at hH
              have q1 : ((i : Int) + 1 == (l0.length : Int)) = false := beq_eq_false_iff_ne.mpr (by omega)
              have q2 : ((i : Int) + 1 != (l0.length : Int)) = true := bne_iff_ne.mpr (by omega)
              have HH := Aside0.mk hH
              clear hH ce c1000
              go_wp2_with (go_at_call 102; (with_reducible refine HNX.out.mono ?_); rintro e w3 ⟨rfl, ho⟩; have HI3 := Aside0.mk (unI_only (j := i + 1) HI.out n1 n2 n3 n6 ho hi1); clear ho; have d1 : w3.cell? ⟨ga, 0, none⟩ = some (.int .i64 ((i : Int) + 1)) := HI3.out.at_.cell; have d2 : w3.cell? ⟨w.heap.size, 0, none⟩ = some (.slice A0 l0.length c0) := blk_cell HI3.out.bb 0)
              go_ret2
              have e := HH.out
              simp only [Option.some.injEq, Prod.mk.injEq] at e
              obtain ⟨e1, e2⟩ := e
              subst e1 e2
              exact ⟨_, rfl, Kd.R_nil _ _ _ _ _, HI3.out.below⟩
          · rw [if_neg cx0] at hH
            have X0 : (x == 0) = false := beq_eq_false_iff_ne.mpr cx0
            have X0' : (x != 0) = true := bne_iff_ne.mpr cx0
            by_cases cx32 : 32 ≤ x
            · rw [if_pos cx32] at hH
              have X1 : decide (1 < x) = true := decide_eq_true (by omega)
              have X2 : decide (x < 32) = false := decide_eq_false (by omega)
              have X3 : decide (32 ≤ x) = true := decide_eq_true cx32
              have HH := Aside0.mk hH
              have b1000 : l.length ≤ 1000 := by omega
              clear hH c1000 cx0
              go_wp2_with (first | (go_at_call 102; (with_reducible refine HNX.out.mono ?_); rintro e w3 ⟨rfl, ho⟩; have HI3 := Aside0.mk (unI_only (j := i + 1) HI.out n1 n2 n3 n6 ho hi1); clear ho; have d1 : w3.cell? ⟨ga, 0, none⟩ = some (.int .i64 ((i : Int) + 1)) := HI3.out.at_.cell; have d2 : w3.cell? ⟨w.heap.size, 0, none⟩ = some (.slice A0 l0.length c0) := blk_cell HI3.out.bb 0; have d3 : w3.cell? ⟨gw, 0, none⟩ = some (.int .u64 was.f0) := blk_cell HI3.out.ws 0; have d4 : w3.cell? ⟨gw, 1, none⟩ = some (.int .i64 was.f1) := blk_cell HI3.out.ws 1; have d5 := blk_frozen HI3.out.ws 0; have d6 := blk_frozen HI3.out.ws 1) | ((with_reducible refine gate_builtin (b := .append) (xs := #[.tmp 83, .tmp 85]) rfl ?_); at_builtin; refine Kd.R_append k72 (w0 := w) w.heap.size rfl (.tmp 83) (.tmp 85) 22 72 (.agg #[(.int .u64 0), (.int .i64 0)]) 16 rfl Try.underlying22 info72 rfl (by decide) (by omega) (.slice A7 l.length c7) l (adv was ((x - 32) % 256 / 16 + 1) ((x - 32) % 16 - 8)) [.int .u64 (IntKind.u64.wrap (was.f0 + ((x - 32) % 256 / 16 + 1))), .int .i64 (wrap64 (was.f1 + ((x - 32) % 16 - 8)))] (fun j => j ≠ gw) (fun _ => False) rfl ?aX ?aP (fun _ hk => hk.elim) ?aF ?aO ?aB ?aS ?aL ?_; (case aX => show Value.slice (some ⟨w3.heap.size, 0, none⟩) 1 1 = _; simp [World.setCell]); (case aP => exact k72_mkM _ _ _ (adv was ((x - 32) % 256 / 16 + 1) ((x - 32) % 16 - 8))); (case aF => exact (fun j hj => by have := (blk_lt HI3.out.ws); simp [World.setCell] at hj; omega)); (case aO => exact (unI_row HI3.out n7 _ _).1); (case aB => exact (unI_row HI3.out n7 _ _).2); (case aS => exact (unI_row HI3.out n7 _ _).2.size); (case aL => omega); intro v5 w5 ho5 hb5 hg5 hat5; have HI5 := Aside0.mk (unI_push HI3.out n3 n4 n5 n7 (adv was ((x - 32) % 256 / 16 + 1) ((x - 32) % 16 - 8)) ho5 hb5 hg5); clear ho5 hb5 hg5 hat5))
              go_roundg k1
              case measure => omega
              case rel => exact ⟨i + 1, l ++ [adv was ((x - 32) % 256 / 16 + 1) ((x - 32) % 16 - 8)], adv was ((x - 32) % 256 / 16 + 1) ((x - 32) % 16 - 8), HH, HI5⟩
            · rw [if_neg cx32] at hH
              have X2 : decide (x < 32) = true := decide_eq_true (by omega)
              have X3 : decide (32 ≤ x) = false := decide_eq_false cx32
              have b1000 : l.length ≤ 1000 := by omega
              by_cases cx1 : 1 < x
              · rw [if_pos cx1] at hH
                have X1 : decide (1 < x) = true := decide_eq_true cx1
                have HH := Aside0.mk hH
                clear hH c1000 cx0 cx1 cx32
                go_wp2_with (go_at_call 102; (with_reducible refine HNX.out.mono ?_); rintro e w3 ⟨rfl, ho⟩; have HI3 := Aside0.mk (unI_only (j := i + 1) HI.out n1 n2 n3 n6 ho hi1); clear ho; have c3 : w3.cell? ⟨gn, 0, none⟩ = some (.func (.func 102) #[] #[.pointer (some ⟨ga, 0, none⟩), .pointer (some ⟨w.heap.size, 0, none⟩)]) := blk_cell HI3.out.nx 0)
                go_ret2
                have e := HH.out
                simp only [Option.some.injEq, Prod.mk.injEq] at e
                obtain ⟨e1, e2⟩ := e
                subst e1 e2
                exact ⟨_, rfl, Kd.R_nil _ _ _ _ _, HI3.out.below⟩
              · rw [if_neg cx1] at hH
                have X1 : decide (1 < x) = false := decide_eq_false cx1
                obtain ⟨⟨⟨d, is1⟩, j1⟩, hP⟩ : ∃ p, numG l0 5 0 0 (i + 1) = p := ⟨_, rfl⟩
                obtain ⟨⟨⟨z, is2⟩, j2⟩, hQ⟩ : ∃ p, numG l0 5 0 0 j1 = p := ⟨_, rfl⟩
                rw [hP] at hH
                simp only [hQ] at hH
                have HJ1 := Aside0.mk (numG_le hi1 hP)
                have HJ2 := Aside0.mk (numG_le HJ1.out hQ)
                have HP := Aside0.mk hP
                have HQ := Aside0.mk hQ
                obtain ⟨m, hm, hH⟩ := Option.bind_eq_some_iff.mp hH
                have HU := Aside0.mk hm
                clear hP hQ hm c1000 cx0 cx1 cx32
                by_cases cb : is1 = true ∧ is2 = true
                · obtain ⟨rfl, rfl⟩ := cb
                  rw [if_pos ⟨rfl, rfl⟩] at hH
                  obtain ⟨s, hs, hH⟩ := Option.bind_eq_some_iff.mp hH
                  have HS := Aside0.mk hs
                  have HH := Aside0.mk hH
                  clear hs hH
                  cases s with
                  | true =>
                    go_wp2_with (first | (go_at_call 102; (with_reducible refine HNX.out.mono ?_); rintro e w3 ⟨rfl, ho⟩; have HI3 := Aside0.mk (unI_only (j := i + 1) HI.out n1 n2 n3 n6 ho hi1); clear ho; have c3 : w3.cell? ⟨gn, 0, none⟩ = some (.func (.func 102) #[] #[.pointer (some ⟨ga, 0, none⟩), .pointer (some ⟨w.heap.size, 0, none⟩)]) := blk_cell HI3.out.nx 0) | (go_at_call 103; (with_reducible refine (number_calls ga w.heap.size gn A0 c0 l0 (i + 1) _ _ hlen hi1 n1 n2 HI3.out.at_ (blk1 HI3.out.bb) (blk1 HI3.out.nx) (Kd.C_below HC.out HI3.out.below) HF.out HP.out).mono ?_); rintro e w4 ⟨rfl, ho⟩; have HI4 := Aside0.mk (unI_only (j := j1) HI3.out n1 n2 n3 n6 ho HJ1.out); clear ho) | (go_at_call 103; (with_reducible refine (number_calls ga w.heap.size gn A0 c0 l0 j1 _ _ hlen HJ1.out n1 n2 HI4.out.at_ (blk1 HI4.out.bb) (blk1 HI4.out.nx) (Kd.C_below HC.out HI4.out.below) HF.out HQ.out).mono ?_); rintro e w5 ⟨rfl, ho⟩; have HI5 := Aside0.mk (unI_only (j := j2) HI4.out n1 n2 n3 n6 ho HJ2.out); clear ho) | (go_at_call 104; (with_reducible refine (rows_unfold.calls z m _ HU.out).mono ?_); rintro e w' ⟨rfl, ⟨nd, rfl⟩⟩; have HI6 := Aside0.mk (unI_drewN HI5.out nd)) | (go_at_call 98; (with_reducible refine (rows_short.calls d m true _ HS.out).mono ?_); rintro e w' ⟨rfl, ⟨nd2, rfl⟩⟩; have HI7 := Aside0.mk (unI_drewN HI6.out nd2)))
                    go_ret2
                    have e := HH.out
                    (first | rw [if_pos trivial] at e | rw [if_pos rfl] at e)
                    simp only [Option.some.injEq, Prod.mk.injEq] at e
                    obtain ⟨e1, e2⟩ := e
                    subst e1 e2
                    exact ⟨_, rfl, Kd.R_nil _ _ _ _ _, pw_below_drewN HI5.out.below _⟩

                  | false =>
                    go_wp2_with (first | (go_at_call 102; (with_reducible refine HNX.out.mono ?_); rintro e w3 ⟨rfl, ho⟩; have HI3 := Aside0.mk (unI_only (j := i + 1) HI.out n1 n2 n3 n6 ho hi1); clear ho; have c3 : w3.cell? ⟨gn, 0, none⟩ = some (.func (.func 102) #[] #[.pointer (some ⟨ga, 0, none⟩), .pointer (some ⟨w.heap.size, 0, none⟩)]) := blk_cell HI3.out.nx 0) | (go_at_call 103; (with_reducible refine (number_calls ga w.heap.size gn A0 c0 l0 (i + 1) _ _ hlen hi1 n1 n2 HI3.out.at_ (blk1 HI3.out.bb) (blk1 HI3.out.nx) (Kd.C_below HC.out HI3.out.below) HF.out HP.out).mono ?_); rintro e w4 ⟨rfl, ho⟩; have HI4 := Aside0.mk (unI_only (j := j1) HI3.out n1 n2 n3 n6 ho HJ1.out); clear ho) | (go_at_call 103; (with_reducible refine (number_calls ga w.heap.size gn A0 c0 l0 j1 _ _ hlen HJ1.out n1 n2 HI4.out.at_ (blk1 HI4.out.bb) (blk1 HI4.out.nx) (Kd.C_below HC.out HI4.out.below) HF.out HQ.out).mono ?_); rintro e w5 ⟨rfl, ho⟩; have HI5 := Aside0.mk (unI_only (j := j2) HI4.out n1 n2 n3 n6 ho HJ2.out); clear ho) | (go_at_call 104; (with_reducible refine (rows_unfold.calls z m _ HU.out).mono ?_); rintro e w' ⟨rfl, ⟨nd, rfl⟩⟩; have HI6 := Aside0.mk (unI_drewN HI5.out nd)) | (go_at_call 98; (with_reducible refine (rows_short.calls d m false _ HS.out).mono ?_); rintro e w' ⟨rfl, ⟨nd2, rfl⟩⟩; have HI7 := Aside0.mk (unI_drewN HI6.out nd2); have d3 : w5.cell? ⟨gw, 0, none⟩ = some (.int .u64 was.f0) := blk_cell HI5.out.ws 0; have d4 : w5.cell? ⟨gw, 1, none⟩ = some (.int .i64 was.f1) := blk_cell HI5.out.ws 1; have d5 := blk_frozen HI5.out.ws 0; have d6 := blk_frozen HI5.out.ws 1) | ((with_reducible refine gate_builtin (b := .append) (xs := #[.tmp 83, .tmp 85]) rfl ?_); at_builtin; refine Kd.R_append k72 (w0 := w) w.heap.size rfl (.tmp 83) (.tmp 85) 22 72 (.agg #[(.int .u64 0), (.int .i64 0)]) 16 rfl Try.underlying22 info72 rfl (by decide) (by omega) (.slice A7 l.length c7) l (adv was d m) [.int .u64 (IntKind.u64.wrap (was.f0 + d)), .int .i64 (wrap64 (was.f1 + m))] (fun j => j ≠ gw) (fun _ => False) rfl ?aX ?aP (fun _ hk => hk.elim) ?aF ?aO ?aB ?aS ?aL ?_; (case aX => show Value.slice (some ⟨w5.heap.size, 0, none⟩) 1 1 = _; simp [World.setCell]); (case aP => exact k72_mkM _ _ _ (adv was d m)); (case aF => exact (fun j hj => by have := (blk_lt HI5.out.ws); simp [World.setCell] at hj; first | omega | (have h9 : w5.heap.size ≤ j := hj; omega))); (case aO => exact (unI_row (unI_drewN HI5.out _) n7 _ _).1); (case aB => exact (unI_row (unI_drewN HI5.out _) n7 _ _).2); (case aS => exact (unI_row (unI_drewN HI5.out _) n7 _ _).2.size); (case aL => omega); intro v9 w9 ho5 hb5 hg5 hat5; have HI9 := Aside0.mk (unI_push (unI_drewN HI5.out _) n3 n4 n5 n7 (adv was d m) ho5 hb5 hg5); clear ho5 hb5 hg5 hat5))
                    go_roundg k1
                    case measure => omega
                    case rel => exact ⟨j2, l ++ [adv was d m], adv was d m, ⟨by have e := HH.out; (first | rw [if_neg (by decide)] at e | skip); exact e⟩, HI9⟩
                · rw [if_neg cb] at hH
                  have HH := Aside0.mk hH
                  clear hH
                  cases is1 <;> cases is2
                  all_goals first | exact absurd ⟨rfl, rfl⟩ cb | skip
                  all_goals
                    clear cb
                    go_wp2_with (first | (go_at_call 102; (with_reducible refine HNX.out.mono ?_); rintro e w3 ⟨rfl, ho⟩; have HI3 := Aside0.mk (unI_only (j := i + 1) HI.out n1 n2 n3 n6 ho hi1); clear ho; have c3 : w3.cell? ⟨gn, 0, none⟩ = some (.func (.func 102) #[] #[.pointer (some ⟨ga, 0, none⟩), .pointer (some ⟨w.heap.size, 0, none⟩)]) := blk_cell HI3.out.nx 0) | (go_at_call 103; (with_reducible refine (number_calls ga w.heap.size gn A0 c0 l0 (i + 1) _ _ hlen hi1 n1 n2 HI3.out.at_ (blk1 HI3.out.bb) (blk1 HI3.out.nx) (Kd.C_below HC.out HI3.out.below) HF.out HP.out).mono ?_); rintro e w4 ⟨rfl, ho⟩; have HI4 := Aside0.mk (unI_only (j := j1) HI3.out n1 n2 n3 n6 ho HJ1.out); clear ho) | (go_at_call 103; (with_reducible refine (number_calls ga w.heap.size gn A0 c0 l0 j1 _ _ hlen HJ1.out n1 n2 HI4.out.at_ (blk1 HI4.out.bb) (blk1 HI4.out.nx) (Kd.C_below HC.out HI4.out.below) HF.out HQ.out).mono ?_); rintro e w5 ⟨rfl, ho⟩; have HI5 := Aside0.mk (unI_only (j := j2) HI4.out n1 n2 n3 n6 ho HJ2.out); clear ho) | (go_at_call 104; (with_reducible refine (rows_unfold.calls z m _ HU.out).mono ?_); rintro e w' ⟨rfl, ⟨nd, rfl⟩⟩; have HI6 := Aside0.mk (unI_drewN HI5.out nd)))
                    go_ret2
                    have e := HH.out
                    simp only [Option.some.injEq, Prod.mk.injEq] at e
                    obtain ⟨e1, e2⟩ := e
                    subst e1 e2
                    exact ⟨_, rfl, Kd.R_nil _ _ _ _ _, HI6.out.below⟩
      · rw [if_neg hil] at hH
        have HH := Aside0.mk hH
        clear hH
        obtain rfl : i = l0.length := by have := HI.out.le; omega
        have HNO := Aside0.mk (next_no ga w.heap.size A0 c0 l0.length wr hlen HI.out.at_ (blk1 HI.out.bb))
        go_wp2_with (go_at_call 102; (with_reducible refine HNO.out.mono ?_); rintro e w3 ⟨rfl, ho⟩; have HI3 := Aside0.mk (unI_only (j := l0.length) HI.out n1 n2 n3 n6 ho (Nat.le_refl _)); clear ho)
        go_ret2
        have e := HH.out
        simp only [Option.some.injEq, Prod.mk.injEq] at e
        obtain ⟨e1, e2⟩ := e
        subst e1 e2
        exact ⟨_, rfl, Kd.R_nil _ _ _ _ _, HI3.out.below⟩
end Go.Proofs.Ytbckdelbkcfjkaa.Ro
