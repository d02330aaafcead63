/- The walk of slices.Concat at two tables, and of slices.Grow at a nil one. -/
import Derived.Test.YtbckdelbkcfjkaaRox0
import Derived.WalkSpells
import Derived.LoopN
import Derived.Laws.NewBlocks
import Derived.Laws.World
import Derived.Laws.Alloc2
namespace Go.Proofs.Ytbckdelbkcfjkaa.Ro
open Go.RowKit Go.Proofs.YtbckdelbkcfjkaaW.PrintWords Go.Proofs.YtbckdelbkcfjkaaW.PrintLast Go.Proofs.YtbckdelbkcfjkaaW.PrintMore
attribute [local go_sem] max2_int min2_int max_two min_two max_three min_three max_four min_four   -- for this text's walks alone
set_option linter.unusedVariables false
set_option linter.unusedSimpArgs false
theorem cat_lt (w : World) (o : Obj) (n : Nat) (h : n = w.heap.size) : n < (w.alloc o).heap.size := by
  subst h
  show w.heap.size < (w.heap.push o).size
  rw [Array.size_push]; exact Nat.lt_succ_self _
theorem cat_a (w : World) (u v : Value) (t n : Nat) (h : n = w.heap.size) : (w.alloc (.cells #[u, v] t)).cell? ⟨n, 0, none⟩ = some u := by
  subst h
  exact (World.cell?_alloc_at #[u, v] t _ 0 rfl).trans rfl
theorem cat_b (w : World) (u v : Value) (t n : Nat) (h : n = w.heap.size) : (w.alloc (.cells #[u, v] t)).cell? ⟨n, 1, none⟩ = some v := by
  subst h
  exact (World.cell?_alloc_at #[u, v] t _ 1 rfl).trans rfl
theorem grow_nil0 (n : Nat) (hn : n ≤ 8796093022207) (w : World) : Calls Try.prog 142 #[.slice none 0 0, .int .i64 (n : Int)] w fun e w' => ∃ v0_ : Value, e = .returned v0_ ∧ Kd.R k72 72 w' w.heap.size (fun _ => True) v0_ [] ∧ Below w.heap.size w w' := by
  have HB := Aside0.mk (Below.refl w.heap.size w)
  have a1 : (0 : Int) ≤ (n : Int) := by omega
  have a2 : (n : Int) ≤ 8796093022207 := by omega
  by_cases h0 : n = 0
  · subst h0
    go_enter Try.func142, Try.ntmps142
    go_wp2
    go_ret
    exact ⟨_, rfl, Kd.R_nil _ _ _ _ _, HB.out⟩
  · have HN := Aside0.mk hn
    have p1 : decide ((n : Int) < 0) = false := decide_eq_false (by omega)
    have p2 : decide ((0 : Int) < (n : Int)) = true := decide_eq_true (by omega)
    have p3 : 0 < n := by omega
    have p4 : decide (0 < n) = true := decide_eq_true p3
    have HP := Aside0.mk p3
    clear h0 hn
    go_enter Try.func142, Try.ntmps142
    go_wp2_with ((with_reducible refine gate_builtin (b := .append) (xs := #[.tmp 20, .tmp 21]) rfl ?_); at_builtin; refine Kd.R_append_zeros k72 (w0 := w) w.heap.size rfl (.tmp 20) (.tmp 21) 22 3 72 (.agg #[(.int .u64 0), (.int .i64 0)]) 16 rfl Try.underlying22 Try.underlying3 info72 rfl (by decide) (by omega) (.slice none 0 0) [] z72 (n : Int) (fun _ => True) rfl rfl (k72_mkM _ _ _ z72) (fun _ _ => trivial) (Kd.R_nil _ _ _ _ _) (by omega) HB.out (Nat.le_refl _) (by have := HN.out; simp; omega) ?_; intro v w1 ho hb hg hat; obtain ⟨A, c, rfl⟩ := Kd.R_slice ho; obtain ⟨q1, q2, q3⟩ := Kd.R_reads' ho; have HO := Aside0.mk ho; have HB1 := Aside0.mk hb; clear ho hb hg hat q1 q2 q3)
    go_ret
    exact ⟨_, rfl, by have h := Kd.R_take (m := 0) HO.out (Nat.zero_le _); rw [List.take_zero] at h; exact h, HB1.out⟩
theorem grow_nil (m : Int) (h0 : 0 ≤ m) (h1 : m ≤ 8796093022207) (w : World) : Calls Try.prog 142 #[.slice none 0 0, .int .i64 m] w fun e w' => ∃ v0_ : Value, e = .returned v0_ ∧ Kd.R k72 72 w' w.heap.size (fun _ => True) v0_ [] ∧ Below w.heap.size w w' := by
  obtain ⟨n, rfl⟩ := Int.eq_ofNat_of_zero_le h0
  exact grow_nil0 n (by omega) w
def slices_ConcatRow.f (l0 : List (S72)) (l1 : List (S72)) : Option ((List (S72))) := if ([] : List (S72)).length + l0.length < 8796093022208 then ((some (([] : List (S72)) ++ l0 : List (S72))).bind fun y251 => (if y251.length + l1.length < 8796093022208 then (some (y251 ++ l1)) else (none))) else (none)
set_option maxHeartbeats 4000000 in
set_option maxRecDepth 100000 in
theorem slices_ConcatRow.calls (A0 : Option Addr) (c0 : Nat) (l0 : List (S72)) (A1 : Option Addr) (c1 : Nat) (l1 : List (S72)) (r : List (S72)) (w : World) (hr0 : Kd.C k72 w A0 l0.length l0) (hr1 : Kd.C k72 w A1 l1.length l1) (h : slices_ConcatRow.f l0 l1 = some r)
    (g c : Nat) (hgl : g < w.heap.size) (hx0 : w.cell? ⟨g, 0, none⟩ = some (.slice A0 l0.length c0)) (hx1 : w.cell? ⟨g, 1, none⟩ = some (.slice A1 l1.length c1)) :
    Calls Try.prog 96 #[.slice (some ⟨g, 0, none⟩) 2 c] w fun e w' => ∃ v0_ : Value, e = .returned (v0_) ∧ Kd.R k72 72 w' w.heap.size (fun _ => True) v0_ r ∧ Below w.heap.size w w' := by
  have HR0 := Aside0.mk hr0
  have HR1 := Aside0.mk hr1
  clear hr0 hr1
  have HB := Aside0.mk (Below.refl w.heap.size w)
  unfold slices_ConcatRow.f at h
  by_cases k1 : ([] : List S72).length + l0.length < 8796093022208
  · rw [if_pos k1, Option.bind_some, List.nil_append] at h
    by_cases k2 : l0.length + l1.length < 8796093022208
    · rw [if_pos k2] at h
      obtain rfl := Option.some.inj h
      have LM1 := Aside0.mk k1
      have LM2 := Aside0.mk k2
      have b0 : (l0.length : Int) ≤ 8796093022208 := by omega
      have b1 : (l1.length : Int) ≤ 8796093022208 := by omega
      have b2 : (0 : Int) ≤ (l0.length : Int) := by omega
      have b3 : (0 : Int) ≤ (l1.length : Int) := by omega
      have b4 : (l0.length : Int) + (l1.length : Int) ≤ 8796093022207 := by omega
      have e1 : decide ((l0.length : Int) < 0) = false := decide_eq_false (by omega)
      have e2 : decide ((l0.length : Int) + (l1.length : Int) < 0) = false := decide_eq_false (by omega)
      clear k1 k2 h
      go_enter Try.func96, Try.ntmps96
      go_wp2
      refine wp_loop_rounds 3 ?_
      rw [rounds_succ]
      go_wp2
      rw [rounds_succ]
      go_wp2
      rw [rounds_succ]
      go_wp2_with (go_at_call 142; (with_reducible refine (grow_nil _ (by omega) (by omega) _).mono ?_); rintro e w1 ⟨v1, rfl, ho, hb⟩; have HO1 := Aside0.mk ho; have HB1 := Aside0.mk hb; have hd0 := (hb.cell (p := ⟨g, 0, none⟩) hgl).trans hx0; have hd1 := (hb.cell (p := ⟨g, 1, none⟩) hgl).trans hx1; clear ho hb)
      refine wp_loop_rounds 3 ?_
      rw [rounds_succ]
      go_wp2_with ((with_reducible refine gate_builtin (b := .append) (xs := #[.tmp 31, .tmp 32]) rfl ?_); at_builtin; refine Kd.R_append_rows k72 (w0 := w) w.heap.size rfl (.tmp 31) (.tmp 32) 22 72 (.agg #[(.int .u64 0), (.int .i64 0)]) 16 rfl Try.underlying22 info72 rfl (by decide) (by omega) v1 [] l0 _ _ _ (fun _ => True) (fun _ => False) rfl rfl ?aO ?aR (fun _ _ h => h) (fun _ h => h.elim) ?aF ?aB ?aS ?aL ?_; (case aR => exact (Kd.C_below HR0.out HB1.out)); (case aB => exact HB1.out); (case aF => exact (fun _ _ => trivial)); (case aO => exact HO1.out); (case aS => exact below_size HB1.out); (case aL => have := LM1.out; simp only [List.length_nil, List.length_append]; omega); intro v2 w2 ho hb hg hat; have HO2 := Aside0.mk ho; have HB2 := Aside0.mk hb; have hd0 := (hb.cell (p := ⟨g, 0, none⟩) hgl).trans hx0; have hd1 := (hb.cell (p := ⟨g, 1, none⟩) hgl).trans hx1; clear ho hb hg hat)
      rw [rounds_succ]
      go_wp2_with ((with_reducible refine gate_builtin (b := .append) (xs := #[.tmp 31, .tmp 32]) rfl ?_); at_builtin; refine Kd.R_append_rows k72 (w0 := w) w.heap.size rfl (.tmp 31) (.tmp 32) 22 72 (.agg #[(.int .u64 0), (.int .i64 0)]) 16 rfl Try.underlying22 info72 rfl (by decide) (by omega) v2 ([] ++ l0) l1 _ _ _ (fun _ => True) (fun _ => False) rfl rfl ?aO ?aR (fun _ _ h => h) (fun _ h => h.elim) ?aF ?aB ?aS ?aL ?_; (case aR => exact (Kd.C_below HR1.out HB2.out)); (case aB => exact HB2.out); (case aF => exact (fun _ _ => trivial)); (case aO => exact HO2.out); (case aS => exact below_size HB2.out); (case aL => have := LM2.out; simp only [List.length_nil, List.length_append]; omega); intro v3 w3 ho hb hg hat; have HO3 := Aside0.mk ho; have HB3 := Aside0.mk hb; have hd0 := (hb.cell (p := ⟨g, 0, none⟩) hgl).trans hx0; have hd1 := (hb.cell (p := ⟨g, 1, none⟩) hgl).trans hx1; clear ho hb hg hat)
      rw [rounds_succ]
      go_wp2
      go_ret
      exact ⟨_, rfl, HO3.out, HB3.out⟩
    · rw [if_neg k2] at h
      exact absurd h (by simp)
  · rw [if_neg k1] at h
    exact absurd h (by simp)
end Go.Proofs.Ytbckdelbkcfjkaa.Ro
