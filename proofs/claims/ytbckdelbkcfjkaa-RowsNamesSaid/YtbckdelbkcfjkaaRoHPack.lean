/- The walk of rows.Pack. -/
import Derived.Test.YtbckdelbkcfjkaaRoHRange
import Derived.Test.YtbckdelbkcfjkaaRoFrowsCheck
import Derived.Test.YtbckdelbkcfjkaaRoFrowsshort
import Derived.Test.YtbckdelbkcfjkaaRoFrowsfold
import Derived.Test.YtbckdelbkcfjkaaRoFrowsvarying
import Derived.RangeFuncCalls
import Derived.RangeFuncNested
import Derived.RangeFuncBound
import Derived.Maps.AppendAt
namespace Go.Proofs.Ytbckdelbkcfjkaa.Ro
open Go.RowKit Go.Shelf Go.Proofs.YtbckdelbkcfjkaaW.PrintWords Go.Proofs.YtbckdelbkcfjkaaW.PrintLast Go.Proofs.YtbckdelbkcfjkaaW.PrintMore
set_option linter.unusedVariables false
set_option linter.unusedSimpArgs false
attribute [local go_sem] Oper.semAt_some
/-- One row's bytes. -/
def packStep (k : Nat) (b : List Int) (d m : Int) : Option (List Int) :=
  (rows_short.f d m).bind fun t => if t = true then (if b.length < 140737488355328 then some (b ++ [32 + 16 * (d - 1) + m + 8]) else none)
    else (if b.length < 140737488355328 then (rows_varying.f k (b ++ [1]) d).bind fun b1 => (rows_fold.f m).bind fun z => rows_varying.f k b1 z else none)
def packL (k : Nat) (fa fb : Nat → Int) : Nat → Option (List Int)
  | 0 => some []
  | i + 1 => (packL k fa fb i).bind fun b => packStep k b (IntKind.u64.wrap (fa i - prev fa i)) (wrap64 (fb i - prev fb i))
def rows_Pack.f (k : Nat) (l0 : List S72) : Option (List Int × Int) := (rows_Check.f k l0).bind fun e =>
  if e = 0 then (packL k (fun i => (l0.getD i z72).f0) (fun i => (l0.getD i z72).f1) l0.length).bind fun b => (if b.length < 140737488355328 then some (b ++ [0], 0) else none) else some ([], e)
theorem packStep.mono (k : Nat) (b : List Int) (d m : Int) : LeO (packStep k b d m) (packStep (k + 1) b d m) := by
  unfold packStep
  exact LeO.bind (LeO.refl _) fun t => LeO.ite (LeO.refl _) (LeO.ite (LeO.bind (rows_varying.mono _ _ _) fun b1 => LeO.bind (LeO.refl _) fun z => rows_varying.mono _ _ _) (LeO.refl _))
theorem packL.mono (k : Nat) (fa fb : Nat → Int) : ∀ i, LeO (packL k fa fb i) (packL (k + 1) fa fb i)
  | 0 => LeO.refl _
  | i + 1 => LeO.bind (packL.mono k fa fb i) fun b => packStep.mono _ _ _ _
theorem rows_Pack.mono : ∀ a0 k, LeO (rows_Pack.f k a0) (rows_Pack.f (k + 1) a0) := by
  intro a0 k
  unfold rows_Pack.f
  exact LeO.bind (rows_Check.mono _ _) fun e => LeO.ite (LeO.bind (packL.mono _ _ _ _) fun b => LeO.refl _) (LeO.refl _)
theorem packL_lt {k : Nat} {fa fb : Nat → Int} {n : Nat} {r : List Int} (h : packL k fa fb n = some r) : ∀ i, i ≤ n → ∃ b, packL k fa fb i = some b := by
  induction n generalizing r with
  | zero => intro i hi; obtain rfl : i = 0 := by omega
            exact ⟨_, h⟩
  | succ n ih =>
    intro i hi
    by_cases e : i = n + 1
    · subst e; exact ⟨_, h⟩
    · obtain ⟨b, hb, _⟩ := Option.bind_eq_some_iff.mp h
      exact ih hb i (by omega)
/-- Blocks of rows, and what is no cells, lie as they lay. -/
structure Keeps72 (W W' : World) : Prop where
  size : W.heap.size ≤ W'.heap.size
  same : ∀ (k : Nat) (o : Obj), W.heap[k]? = some o → (o.isCells = false ∨ ∃ c, o = Obj.cells c 72 (0, 0)) → W'.heap[k]? = some o
theorem Keeps72.trans {A B C : World} (h : Keeps72 A B) (k : Keeps72 B C) : Keeps72 A C := ⟨Nat.le_trans h.size k.size, fun i o hi ho => k.same i o (h.same i o hi ho) ho⟩
theorem keeps_drewN (W : World) (n : Nat) : Keeps72 W (W.drewN n) := ⟨Nat.le_refl _, fun _ _ h _ => h⟩
theorem keeps_grown {W W' : World} {row : Option Nat} (hg : W.grownBy W' row) (hr : ∀ r, row = some r → ∃ c t, W.heap[r]? = some (Obj.cells c t (0, 0)) ∧ t ≠ 72) : Keeps72 W W' := by
  refine ⟨hg.size, fun k o hk ho => (hg.block k (Array.getElem?_eq_some_iff.1 hk).1 (fun e => ?_)).trans hk⟩
  obtain ⟨c, t, hc, ht⟩ := hr k e.symm
  rw [hk] at hc
  cases hc
  rcases ho with ho | ⟨c', ho⟩
  · simp [Obj.isCells] at ho
  · cases ho; exact ht rfl
theorem keeps_alloc (W : World) (o : Obj) : Keeps72 W (W.alloc o) := keeps_grown (World.grownBy_alloc W o none) (fun r e => by cases e)
theorem keeps_set {W : World} {g t : Nat} {c : Array Value} (h : W.heap[g]? = some (Obj.cells c t (0, 0))) (ht : t ≠ 72) (i : Nat) (u : Value) : Keeps72 W (W.setCell ⟨g, i, none⟩ u) :=
  keeps_grown (grown_cell W ⟨g, i, none⟩ u) (fun r e => by cases e; exact ⟨c, t, h, ht⟩)
theorem keeps_kept {W W' : World} {S : Nat → Prop} (h : Kept W W' S) (hS : ∀ k, S k → ∃ c t, W.heap[k]? = some (Obj.cells c t (0, 0)) ∧ t ≠ 72) : Keeps72 W W' := by
  refine ⟨h.1, fun k o hk ho => (h.2 k (Array.getElem?_eq_some_iff.1 hk).1 (fun e => ?_)).trans hk⟩
  obtain ⟨c, t, hc, ht⟩ := hS k e
  rw [hk] at hc
  cases hc
  rcases ho with ho | ⟨c', ho⟩
  · simp [Obj.isCells] at ho
  · cases ho; exact ht rfl
theorem below_two {B : Nat} {a W W' : World} (h1 : Below B a W) (h2 : Below B a W') (hs : W.heap.size ≤ W'.heap.size) : Below B W W' :=
  ⟨h2.os.trans h1.os.symm, h2.tape.trans h1.tape.symm, h2.output.trans h1.output.symm, hs, fun k hk => (h2.block k hk).trans (h1.block k hk).symm⟩
theorem round_of {B n₀ : Nat} {a W W' : World} (h1 : Below n₀ a W) (h2 : Below n₀ a W') (hk : Keeps72 W W') : Round72 B n₀ W W' :=
  ⟨⟨below_two h1 h2 hk.size, fun b c hb => hk.same b _ hb (.inr ⟨c, rfl⟩)⟩, hk.size, fun k o _ ho hc => hk.same k o ho (.inl hc)⟩
/-- What the loop's variable b holds after k rounds. -/
def PackI (kk : Nat) (fa fb : Nat → Int) (gb : Nat) (w : World) (k : Nat) (W : World) : Prop :=
  ∃ v cs, packL kk fa fb k = some cs ∧ Boxed W gb 79 v ∧ Kd.R (Kd.int .u8) 5 W w.heap.size (fun j => some j = v.ownBlock) v cs ∧ Below w.heap.size w W
theorem packI_owns {kk : Nat} {fa fb : Nat → Int} {gb : Nat} {w : World} {B : Nat} (hgb : gb < B) (hB : w.heap.size ≤ B) : Owns72 B (PackI kk fa fb gb w) := by
  rintro s W W' row ⟨v, cs, hp, hv, hR, hb⟩ hg hr
  refine ⟨v, cs, hp, hv.kept hg (fun e => ?_), Kd.R_step hR (fun j hj hlt => hg.block j hlt (fun e => ?_)), hb.grown hg hb.size (fun j e => Nat.le_trans hB (hr j e).1)⟩
  · have := (hr gb e.symm).1
    omega
  · obtain ⟨c5, hc5⟩ := Kd.R_typed hR j hj.symm
    rcases (hr j e.symm).2 with ⟨c, hc⟩ | ⟨o, ho, hoc⟩
    · rw [hc5] at hc; cases hc
    · rw [hc5] at ho; cases ho; simp [Obj.isCells] at hoc
set_option maxHeartbeats 1000000 in
theorem differences_in (F : Fence) (n : Nat) (h5 : F.fn 97) (hro : F.round = none) (a : Option Addr) (len cap : Nat) (w : World) :
    CallsIn F n Try.prog 97 #[.slice a len cap] w fun e w' => e = .returned (.func (.func 143) #[] #[.pointer (some ⟨w.heap.size, 0, none⟩)]) ∧ w' = w.alloc (.cells #[.slice a len cap] 22) := by
  refine callsIn_of_wp Try.func97 rfl h5 ?_ hro
  simp only [Try.ntmps97, List.size_toArray, List.length_cons, List.length_nil, Nat.reduceAdd, Nat.reduceSub, Array.replicate_succ, Array.replicate_zero, List.push_toArray, List.append_toArray, List.nil_append, List.cons_append]
  gi_wp2
  go_ret
  exact ⟨rfl, rfl⟩
theorem pack_app {w W w2 : World} {gb : Nat} {v v' : Value} {cs : List Int} {x : Int} (hB : Below w.heap.size w W) (hv : Boxed W gb 79 v) (hR : Kd.R (Kd.int .u8) 5 W w.heap.size (fun j => some j = v.ownBlock) v cs) (nd : Nat)
    (hown : w2.ownsRow w.heap.size 5 1 v' (cs.length + 1) (encs (Value.int .u8) cs ++ [.int .u8 x])) (hg : ((W.drewN nd).alloc (.cells #[.int .u8 x] 5)).grownBy w2 v.ownBlock) :
    Boxed w2 gb 79 v ∧ Kd.R (Kd.int .u8) 5 w2 w.heap.size (fun j => some j = v'.ownBlock) v' (cs ++ [x]) ∧ Below w.heap.size w w2 ∧ Keeps72 W w2 := by
  have hR2 := Kd.R_alloc (Kd.R_drewN hR nd) (.cells #[.int .u8 x] 5)
  have hv2 : Boxed ((W.drewN nd).alloc (.cells #[.int .u8 x] 5)) gb 79 v := Boxed.alloc (W := W.drewN nd) hv _
  have hB2 := (pw_below_drewN hB nd).alloc hB.size (.cells #[.int .u8 x] 5)
  refine ⟨hv2.kept hg (Kd.R_ne hR2 hv2 (by decide)), Kd.R_of_own (xs := cs ++ [x]) (by rw [encs_append, List.length_append]; exact hown) (fun k hk => hk.symm), hB2.grown hg hB2.size (fun k e => Kd.R_base hR2 k e), (keeps_drewN W nd).trans ((keeps_alloc _ _).trans (keeps_grown hg (fun r e => ?_)))⟩
  obtain ⟨c, hc⟩ := Kd.R_typed hR2 r e
  exact ⟨c, 5, hc, by decide⟩
theorem pack_set {w W : World} {gb : Nat} {v v' : Value} {cs : List Int} (hB : Below w.heap.size w W) (hgb : w.heap.size ≤ gb) (hv : Boxed W gb 79 v) (hR : Kd.R (Kd.int .u8) 5 W w.heap.size (fun j => some j = v'.ownBlock) v' cs) :
    Boxed (W.setCell ⟨gb, 0, none⟩ v') gb 79 v' ∧ Kd.R (Kd.int .u8) 5 (W.setCell ⟨gb, 0, none⟩ v') w.heap.size (fun j => some j = v'.ownBlock) v' cs ∧ Below w.heap.size w (W.setCell ⟨gb, 0, none⟩ v') ∧ Keeps72 W (W.setCell ⟨gb, 0, none⟩ v') := by
  have hne := Kd.R_ne hR hv (by decide)
  exact ⟨hv.set v', Kd.R_step hR (fun j hj hlt => Below.heap_setCell W _ v' j (fun e => hne (by have e' : j = gb := e; rw [← e']; exact hj))), hB.setCell (p := ⟨gb, 0, none⟩) hgb v', keeps_set hv (by decide) 0 v'⟩
theorem pack_var {w W W' : World} {gb : Nat} {v u u' : Value} {cs cs' : List Int} (hv : Boxed W gb 79 v) (hR : Kd.R (Kd.int .u8) 5 W w.heap.size (fun j => some j = u.ownBlock) u cs) (hR' : Kd.R (Kd.int .u8) 5 W' w.heap.size (fun k_ => some k_ = u.ownBlock ∨ W.heap.size ≤ k_) u' cs') (hk : Kept W W' (fun j => some j = u.ownBlock)) :
    Boxed W' gb 79 v ∧ Kd.R (Kd.int .u8) 5 W' w.heap.size (fun j => some j = u'.ownBlock) u' cs' ∧ Keeps72 W W' := by
  refine ⟨(hk.2 gb hv.lt (Kd.R_ne hR hv (by decide))).trans hv, Kd.R_tight rfl hR', keeps_kept hk (fun k e => ?_)⟩
  obtain ⟨c, hc⟩ := Kd.R_typed hR k e.symm
  exact ⟨c, 5, hc, by decide⟩
theorem short_true {d m : Int} (h : rows_short.f d m = some true) : 1 ≤ d ∧ d ≤ 14 ∧ -8 ≤ m ∧ m ≤ 7 := by
  unfold rows_short.f at h
  by_cases h1 : d ≥ 1
  · rw [if_pos h1] at h
    by_cases h2 : d ≤ 14
    · rw [if_pos h2] at h
      by_cases h3 : m ≥ -8
      · rw [if_pos h3] at h
        have := of_decide_eq_true (Option.some.inj h)
        omega
      · rw [if_neg h3] at h; cases h
    · rw [if_neg h2] at h; cases h
  · rw [if_neg h1] at h; cases h
theorem info5' : (Try.prog.info? 5).map (fun i => (i.zero, i.size, i.bytes)) = some (some (.int .u8 0), 1, 1) := info5
set_option maxRecDepth 100000 in
set_option maxHeartbeats 8000000 in
theorem pack_ok (kk : Nat) (A0 : Option Addr) (ad : Addr) (c0 : Nat) (l0 : List S72) (bs : List Int) (w : World) (hC : Kd.C k72 w A0 l0.length l0) (hlen : l0.length ≤ 1000) (hA : 0 < l0.length → A0 = some ad ∧ ad.block < w.heap.size) (hc0 : ∀ j, j < l0.length → w.cell? (ad.add (j * 2)) = some (.int .u64 (l0.getD j z72).f0)) (hc1 : ∀ j, j < l0.length → w.cell? ⟨(ad.add (j * 2)).block, (ad.add (j * 2)).off + 1, none⟩ = some (.int .i64 (l0.getD j z72).f1))
    (hcc : l0.length ≤ c0) (he : rows_Check.f kk l0 = some 0) (hp : packL kk (fun i => (l0.getD i z72).f0) (fun i => (l0.getD i z72).f1) l0.length = some bs) (hbs : bs.length < 140737488355328) :
    CallsIn Fence.wide 5 Try.prog 62 #[.slice A0 l0.length c0] w fun e w' => ∃ v0_ : Value, e = .returned (.tuple #[v0_, .int .i64 0]) ∧ Kd.R (Kd.int .u8) 5 w' w.heap.size (fun _ => True) v0_ (bs ++ [0]) ∧ Below w.heap.size w w' := by
  obtain ⟨i0, hi, hz0, hz1, hz2⟩ := info_parts info5
  have HC := Aside0.mk hC
  have HE := Aside0.mk he
  have H0 := Aside0.mk hc0
  have H1 := Aside0.mk hc1
  clear hC he hc0 hc1
  refine callsIn_of_wp_marks Try.func62 rfl trivial ?_ rfl
  simp only [Try.ntmps62, List.size_toArray, List.length_cons, List.length_nil, Nat.reduceAdd, Nat.reduceSub, Array.replicate_succ, Array.replicate_zero, List.push_toArray, List.append_toArray, List.nil_append, List.cons_append]
  gi_wp2_with (first | (refine ⟨trivial, ?_⟩; gi_at_call 23; (with_reducible refine (callsIn_wide.2 (rows_Check.calls kk _ _ l0 0 _ HC.out hcc HE.out)).mono ?_); rintro e w1 ⟨rfl, hB1⟩) | (refine ⟨trivial, ?_⟩; gi_at_call 97; refine (differences_in Fence.wide (5 - 1) trivial rfl _ _ _ _).mono ?_; rintro e w' ⟨rfl, rfl⟩))
  obtain ⟨fa, hfa⟩ : ∃ fa : Nat → Int, fa = fun i => (l0.getD i z72).f0 := ⟨_, rfl⟩
  obtain ⟨fb, hfb⟩ : ∃ fb : Nat → Int, fb = fun i => (l0.getD i z72).f1 := ⟨_, rfl⟩
  have bO := Boxed.new w1 79 (.slice none 0 0)
  have bN := Boxed.new (w1.alloc (.cells #[.slice none 0 0] 79)) 22 (.slice A0 l0.length c0)
  rw [World.size_alloc] at bN
  have hs1 := hB1.size
  have hB0 : Below w.heap.size w ((w1.alloc (.cells #[.slice none 0 0] 79)).alloc (.cells #[.slice A0 l0.length c0] 22)) := (hB1.alloc hs1 _).alloc (by simp; omega) _
  have hp' : packL kk fa fb l0.length = some bs := by rw [hfa, hfb]; exact hp
  have a0 : ∀ j, j < l0.length → ((w1.alloc (.cells #[.slice none 0 0] 79)).alloc (.cells #[.slice A0 l0.length c0] 22)).cell? (ad.add (j * 2)) = some (.int .u64 (fa j)) := fun j hj => by
    rw [hfa]; exact (hB0.cell (p := ad.add (j * 2)) (by rw [add_block]; exact (hA (by omega)).2)).trans (H0.out j hj)
  have a1 : ∀ j, j < l0.length → ((w1.alloc (.cells #[.slice none 0 0] 79)).alloc (.cells #[.slice A0 l0.length c0] 22)).cell? ⟨(ad.add (j * 2)).block, (ad.add (j * 2)).off + 1, none⟩ = some (.int .i64 (fb j)) := fun j hj => by
    rw [hfb]; exact (hB0.cell (p := ⟨(ad.add (j * 2)).block, (ad.add (j * 2)).off + 1, none⟩) (by show (ad.add (j * 2)).block < _; rw [add_block]; exact (hA (by omega)).2)).trans (H1.out j hj)
  have HP := Aside0.mk hp'
  clear hp hp' hfa hfb
  refine range72 (n := 5) (Bs := w1.heap.size + 1) (n₀ := w.heap.size) (ad := ad) (len := l0.length) (cap := c0) trivial rfl (by omega) rfl fa fb hlen hA (by simp; omega) bN.cell a0 a1
    (PackI kk fa fb w1.heap.size w) (packI_owns (by simp; omega) (by simp; omega)) ⟨_, [], rfl, bO.alloc _, Kd.R_nil _ _ _ _ _, hB0⟩
    (fun k => { tmps := #[.slice A0 l0.length c0, undef, .slice none 0 0, .int .i64 0, .int .i64 0, .pointer (some ⟨w1.heap.size, 0, none⟩), .int .u64 (IntKind.u64.wrap (fa k - prev fa k)), .int .i64 (wrap64 (fb k - prev fb k)), .slice A0 l0.length c0, .int .i64 0, .int .i64 0, .bool false, undef, .slice A0 l0.length c0, .func (.func 143) #[] #[.pointer (some ⟨w1.heap.size + 1, 0, none⟩)], .int .u64 (IntKind.u64.wrap (fa k - prev fa k)), .int .i64 (wrap64 (fb k - prev fb k)), undef, undef, undef, undef, undef, undef, undef, undef, undef, undef, undef, undef, undef, undef, undef, undef, undef, undef, undef, undef, undef, undef, undef, undef, undef, undef], defers := [] }) ?assign ?body ?done
  case assign =>
    intro l k W K hK
    gi_wp2
    exact hK
  case body =>
    rintro l k W ⟨v, cs, hcs, hv, hR, hB⟩ hlt hsz
    obtain ⟨cs', hcs'⟩ := packL_lt HP.out (k + 1) (by omega)
    have hstep := hcs'
    rw [packL, hcs, Option.bind_some] at hstep
    have HS1 := Aside0.mk hcs'
    have HB := Aside0.mk hB
    have HR := Aside0.mk hR
    have HV := Aside0.mk hv
    have hc := hv.cell
    have hf := hv.frozen
    clear hcs hcs' hB hR hv
    generalize IntKind.u64.wrap (fa k - prev fa k) = d at *
    generalize wrap64 (fb k - prev fb k) = m at *
    unfold packStep at hstep
    obtain ⟨t, ht, hstep⟩ := Option.bind_eq_some_iff.mp hstep
    have HT := Aside0.mk ht
    cases t with
    | true =>
      obtain ⟨d1, d2, d3, d4⟩ := short_true ht
      rw [if_pos rfl] at hstep
      by_cases hl : cs.length < 140737488355328
      · rw [if_pos hl] at hstep
        have HCS := Aside0.mk (Option.some.inj hstep)
        clear hstep ht
        gi_wp2_with (first | (refine ⟨trivial, ?_⟩; gi_at_call 98; (with_reducible refine (CallsIn.inRound l (callsIn_wide.2 (rows_short.calls d m true _ HT.out))).mono ?_); rintro e w' ⟨rfl, ⟨nd, rfl⟩⟩) | (gi_at_builtin; refine wpListIn_append_own _ rfl _ _ 79 rfl w.heap.size 5 i0 (.int .u8 0) 1 1 Try.underlying79 hi hz0 hz1 hz2 rfl (by decide) v cs.length (encs (Value.int .u8) cs) rfl (Kd.own_of_R (Kd.R_alloc (Kd.R_drewN HR.out nd) _)) ⟨W.heap.size, 0, none⟩ 1 1 [.int .u8 (32 + 16 * (d - 1) + m + 8)] rfl rfl (cell_one_new _ _ _) (by simp [Value.oneCell']) (by unfold maxLen; omega) (by omega) (by have := HB.out.size; simp; omega) ?_; intro v' w2 hown' hgrow _; obtain ⟨g', cap', rfl⟩ := ownsRow_succ hown'; obtain ⟨bx, rx, bl, kp⟩ := pack_app HB.out HV.out HR.out nd hown' hgrow; have hc2 := bx.cell; have hf2 := bx.frozen; have BX := Aside0.mk bx; have RX := Aside0.mk rx; have BL := Aside0.mk bl; have KP := Aside0.mk kp; clear bx rx bl kp hown' hgrow))
        obtain ⟨s1, s2, s3, s4⟩ := pack_set BL.out hs1 BX.out RX.out
        exact ⟨⟨_, _, HS1.out, s1, by rw [← HCS.out]; exact s2, s3⟩, round_of HB.out s3 (KP.out.trans s4)⟩
      · rw [if_neg hl] at hstep; cases hstep
    | false =>
      rw [if_neg (by decide)] at hstep
      by_cases hl : cs.length < 140737488355328
      · rw [if_pos hl] at hstep
        obtain ⟨b1, hb1, hstep⟩ := Option.bind_eq_some_iff.mp hstep
        obtain ⟨z, hz, hstep⟩ := Option.bind_eq_some_iff.mp hstep
        have HY1 := Aside0.mk hb1
        have HZ := Aside0.mk hz
        have HY2 := Aside0.mk hstep
        clear hb1 hz hstep ht
        gi_wp2_with (first | (refine ⟨trivial, ?_⟩; gi_at_call 98; (with_reducible refine (CallsIn.inRound l (callsIn_wide.2 (rows_short.calls d m false _ HT.out))).mono ?_); rintro e w' ⟨rfl, ⟨nd, rfl⟩⟩) | (gi_at_builtin; refine wpListIn_append_own _ rfl _ _ 79 rfl w.heap.size 5 i0 (.int .u8 0) 1 1 Try.underlying79 hi hz0 hz1 hz2 rfl (by decide) v cs.length (encs (Value.int .u8) cs) rfl (Kd.own_of_R (Kd.R_alloc (Kd.R_drewN HR.out nd) _)) ⟨W.heap.size, 0, none⟩ 1 1 [.int .u8 1] rfl rfl (cell_one_new _ _ _) (by simp [Value.oneCell']) (by unfold maxLen; omega) (by omega) (by have := HB.out.size; simp; omega) ?_; intro v' w2 hown' hgrow _; obtain ⟨bx, rx, bl, kp⟩ := pack_app HB.out HV.out HR.out nd hown' hgrow; have BX := Aside0.mk bx; have RX := Aside0.mk rx; have BL := Aside0.mk bl; have KP := Aside0.mk kp; clear bx rx bl kp hown' hgrow) | (refine ⟨trivial, ?_⟩; gi_at_call 99; (with_reducible refine (CallsIn.inRound l (callsIn_wide.2 (rows_varying.calls kk _ _ (cs ++ [1]) d b1 w _ BL.out RX.out HY1.out))).mono ?_); rintro e w3 ⟨v3, rfl, r3, b3, k3⟩; obtain ⟨x1, x2, x3⟩ := pack_var BX.out RX.out r3 k3; have BX3 := Aside0.mk x1; have RX3 := Aside0.mk x2; have BL3 := Aside0.mk b3; have KP3 := Aside0.mk (KP.out.trans x3); clear r3 b3 k3 x1 x2 x3) | (refine ⟨trivial, ?_⟩; gi_at_call 100; (with_reducible refine (CallsIn.inRound l (callsIn_wide.2 (rows_fold.calls m z _ HZ.out))).mono ?_); rintro e w' ⟨rfl, ⟨nd2, rfl⟩⟩) | (refine ⟨trivial, ?_⟩; gi_at_call 99; (with_reducible refine (CallsIn.inRound l (callsIn_wide.2 (rows_varying.calls kk _ _ b1 z cs' w _ (pw_below_drewN BL3.out nd2) (Kd.R_drewN RX3.out nd2) HY2.out))).mono ?_); rintro e w4 ⟨v4, rfl, r4, b4, k4⟩; obtain ⟨x1, x2, x3⟩ := pack_var (W := w3.drewN nd2) BX3.out (Kd.R_drewN RX3.out nd2) r4 k4; have hc4 := x1.cell; have hf4 := x1.frozen; obtain ⟨A4, C4, e4⟩ := Kd.R_slice x2; subst e4; have BX4 := Aside0.mk x1; have RX4 := Aside0.mk x2; have BL4 := Aside0.mk b4; have KP4 := Aside0.mk (KP3.out.trans ((keeps_drewN w3 nd2).trans x3)); clear r4 b4 k4 x1 x2 x3))
        obtain ⟨s1, s2, s3, s4⟩ := pack_set BL4.out hs1 BX4.out RX4.out
        exact ⟨⟨_, _, HS1.out, s1, s2, s3⟩, round_of HB.out s3 (KP4.out.trans s4)⟩
      · rw [if_neg hl] at hstep; cases hstep
  case done =>
    rintro D W hD ⟨v, cs, hcs, hv, hR, hB⟩ hK
    obtain rfl : bs = cs := Option.some.inj (HP.out.symm.trans hcs)
    have hc := hv.cell
    have HR := Aside0.mk hR
    have HB := Aside0.mk hB
    have HV := Aside0.mk hv
    have HK := Aside0.mk hK
    clear hR hB hv hK hcs
    gi_wp2_with (gi_at_builtin; refine wpListIn_append_own _ rfl _ _ 79 rfl w.heap.size 5 i0 (.int .u8 0) 1 1 Try.underlying79 hi hz0 hz1 hz2 rfl (by decide) v bs.length (encs (Value.int .u8) bs) rfl (Kd.own_of_R (Kd.R_alloc HR.out _)) ⟨W.heap.size, 0, none⟩ 1 1 [.int .u8 0] rfl rfl (cell_one_new _ _ _) (by simp [Value.oneCell']) (by unfold maxLen; omega) (by omega) (by have := HB.out.size; simp; omega) ?_; intro v' w2 hown' hgrow _; obtain ⟨bx, rx, bl, kp⟩ := pack_app HB.out HV.out HR.out 0 hown' hgrow; have RX := Aside0.mk rx; have BL := Aside0.mk bl; have KP := Aside0.mk kp; clear bx rx bl kp hown' hgrow)
    have hK2 := KP.out.same D _ HK.out (.inl rfl)
    refine ⟨by simp, .inl ⟨_, _, rfl, run_takeDeferred hK2, ?_⟩⟩
    refine ⟨_, results_tmp2 rfl _ _ _, v', rfl, Kd.R_mono (Kd.R_step RX.out (fun j hj hlt => World.putObj_heap_other (fun e => ?_))) (fun _ _ => trivial), BL.out.trans (belowK_b (w := w) (Nat.le_refl _) w2 D _ _ (by simp at hD; omega) hK2 rfl rfl)⟩
    obtain ⟨c5, hc5⟩ := Kd.R_typed RX.out j hj.symm
    subst e
    rw [hK2] at hc5
    cases hc5
set_option maxRecDepth 100000 in
set_option maxHeartbeats 4000000 in
theorem pack_err (kk : Nat) (A0 : Option Addr) (c0 : Nat) (l0 : List S72) (x : Int) (hx : x ≠ 0) (w : World) (hC : Kd.C k72 w A0 l0.length l0) (hcc : l0.length ≤ c0) (he : rows_Check.f kk l0 = some x) :
    Calls Try.prog 62 #[.slice A0 l0.length c0] w fun e w' => ∃ v0_ : Value, e = .returned (.tuple #[v0_, .int .i64 x]) ∧ Kd.R (Kd.int .u8) 5 w' w.heap.size (fun _ => True) v0_ [] ∧ Below w.heap.size w w' := by
  have HC := Aside0.mk hC
  have HE := Aside0.mk he
  have x0 : (x == 0) = false := beq_eq_false_iff_ne.mpr hx
  have x1 : (x != 0) = true := bne_iff_ne.mpr hx
  clear hC he hx
  go_enter Try.func62, Try.ntmps62
  go_wp2_with (go_at_call 23; (with_reducible refine (rows_Check.calls kk _ _ l0 x _ HC.out hcc HE.out).mono ?_); rintro e w1 ⟨rfl, hB1⟩)
  go_ret2
  exact ⟨_, rfl, Kd.R_nil _ _ _ _ _, hB1⟩
theorem check_len {k : Nat} {l : List S72} (h : rows_Check.f k l = some 0) : l.length ≤ 1000 := by
  unfold rows_Check.f at h
  by_cases c : (l.length : Int) > 1000
  · rw [if_pos c] at h; cases h
  · omega
theorem rows_Pack.calls (k : Nat) (A0 : Option Addr) (c0 : Nat) (l0 : List S72) (r1 : List Int) (r2 : Int) (w : World) (hr0 : Kd.C k72 w A0 l0.length l0) (hc0 : l0.length ≤ c0) (h : rows_Pack.f k l0 = some (r1, r2)) :
    Calls Try.prog 62 #[.slice A0 l0.length c0] w fun e w' => ∃ v0_ : Value, e = .returned (.tuple #[v0_, .int .i64 r2]) ∧ Kd.R (Kd.int .u8) 5 w' w.heap.size (fun _ => True) v0_ r1 ∧ Below w.heap.size w w' := by
  unfold rows_Pack.f at h
  obtain ⟨x, hx, h⟩ := Option.bind_eq_some_iff.mp h
  by_cases c : x = 0
  · subst c
    rw [if_pos rfl] at h
    obtain ⟨b, hb, h⟩ := Option.bind_eq_some_iff.mp h
    by_cases hl : b.length < 140737488355328
    · rw [if_pos hl] at h
      simp only [Option.some.injEq, Prod.mk.injEq] at h
      obtain ⟨rfl, rfl⟩ := h
      by_cases hp : 0 < l0.length
      · obtain ⟨ad, e, _⟩ := hr0.2.2 hp
        refine (callsIn_wide (n := 5)).1 (pack_ok k A0 ad c0 l0 b w hr0 (check_len hx) (fun _ => ⟨e, ?_⟩) (fun j hj => ?_) (fun j hj => ?_) hc0 hx hb hl)
        · obtain ⟨ad', e', g0, _⟩ := at_T72 hr0 (0 : Int) (by omega) (by omega)
          rw [e] at e'
          cases e'
          have := World.block_lt_of_cell? w _ g0
          rwa [add_block] at this
        · obtain ⟨ad', e', g0, _⟩ := at_T72 hr0 (j : Int) (by omega) (by omega)
          rw [e] at e'
          cases e'
          exact g0
        · obtain ⟨ad', e', _, g1⟩ := at_T72 hr0 (j : Int) (by omega) (by omega)
          rw [e] at e'
          cases e'
          exact g1
      · exact (callsIn_wide (n := 5)).1 (pack_ok k A0 ⟨0, 0, none⟩ c0 l0 b w hr0 (check_len hx) (fun h => absurd h hp) (fun j hj => absurd hj (by omega)) (fun j hj => absurd hj (by omega)) hc0 hx hb hl)
    · rw [if_neg hl] at h; cases h
  · rw [if_neg c] at h
    simp only [Option.some.injEq, Prod.mk.injEq] at h
    obtain ⟨rfl, rfl⟩ := h
    exact pack_err k A0 c0 l0 x c w hr0 hc0 hx
end Go.Proofs.Ytbckdelbkcfjkaa.Ro
