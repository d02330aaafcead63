/- How an argument that is a table of rows is read: a list of rows, each of two numbers, in the words of the walks. -/
import Derived.Test.YtbckdelbkcfjkaaRows
import Derived.Test.YtbckdelbkcfjkaaRox0
import Derived.Deep.Slices
import Derived.Deep.Fields
import Derived.ChangeSame
import Derived.ProofKit
import Derived.OpenShut
import Derived.SizedLaws
namespace Go.Proofs.Ytbckdelbkcfjkaa.RoOpen
open Go.RowKit Go.ChangeShapes Go.WideShapes Go.Deep Go.Proofs.Ytbckdelbkcfjkaa.Ro Go.Proofs.YtbckdelbkcfjkaaW.PrintWords
section
variable {H : Type} {enc : TypeId × Value → H} {P : Program} {w : World} {base : Nat} {spare : Nat → Bool} {held : Bool}
theorem open_slice_fields {t e : TypeId} {fs : Array Field} {fuel : Nat} {cs : List Value} {x : DataW H × List MemPlace} (ht : P.underlying t = some (.slice e)) (he : P.underlying e = some (.struct fs))
    (hone : oneCellFields P fs = true) (hC : P.cellsOf e = fs.size) (h : DataW.trod enc P w base spare held fuel t cs = some x) :
    (cs = [.slice none 0 0] ∧ x = (.nil, [])) ∨
    ∃ (a : Addr) (len cap m : Nat) (D : Nat → DataW H) (Pl : Nat → List MemPlace), cs = [.slice (some a) len cap] ∧ base ≤ a.block ∧ len ≤ cap ∧ cap ≤ maxLen ∧ m = (if spare a.block then cap else len) ∧
      x = (.slice ((List.range len).map D) ((List.range (m - len)).map fun j => D (len + j)), MemPlace.row a (m * fs.size) ++ (List.range m).flatMap Pl) ∧
      ∀ i, i < m → ∃ (ys : List (DataW H × List MemPlace)) (n : Nat), D i = .agg (ys.map (·.1)) ∧ Pl i = ys.flatMap (·.2) ∧ ys.length = fs.size ∧
        ∀ (j : Nat) (f : Field), fs[j]? = some f → ∃ (v : Value) (y : DataW H × List MemPlace), w.cell? (a.add (i * fs.size + j)) = some v ∧ ys[j]? = some y ∧ DataW.trod enc P w base spare held n f.type [v] = some y := by
  rcases open_slice ht h with h0 | ⟨a, len, cap, m, n, D, Pl, hcs, hb, hl, hm, hmm, hx, hi⟩
  · exact .inl h0
  · refine .inr ⟨a, len, cap, m, D, Pl, hcs, hb, hl, hm, hmm, by rw [hC] at hx; exact hx, fun i him => ?_⟩
    obtain ⟨cs', hc, ht'⟩ := hi i him
    rw [hC] at hc
    obtain ⟨ys, n', hn', hy, hlen, hyl, hf⟩ := DataW.trod_struct he ht'
    obtain ⟨_, hcl, hat⟩ := World.cells?_some hc
    simp only [Prod.mk.injEq] at hy
    refine ⟨ys, n', hy.1, hy.2, hyl, fun j f hj => ?_⟩
    obtain ⟨ho, hk⟩ := hone_of hone j f hj
    have hjl : j < fs.size := (Array.getElem?_eq_some_iff.1 hj).1
    have hcell := hat j hjl
    have hv : cs'[j]? = some (cs'[j]'(by omega)) := List.getElem?_eq_getElem (by omega)
    have h1 := hf j f hj
    rw [ho, hk] at h1
    have hone' : (cs'.drop j).take 1 = [cs'[j]'(by omega)] := by
      rw [List.drop_eq_getElem_cons (by omega)]
      rfl
    rw [hone'] at h1
    have hys : ys[j]? = some (ys[j]'(by omega)) := List.getElem?_eq_getElem (by omega)
    refine ⟨_, _, ?_, hys, h1.trans hys⟩
    rw [← Go.Deep.add_add, hcell, hv]
end

theorem cells72 : Try.prog.cellsOf 72 = 2 := by kernel_rfl
theorem fields72 : ∃ f0 f1 : Field, Try.prog.underlying 72 = some (.struct #[f0, f1]) ∧ f0.type = 23 ∧ f1.type = 3 ∧ oneCellFields Try.prog #[f0, f1] = true := by
  refine ⟨_, _, Try.underlying72, rfl, rfl, by kernel_rfl⟩
theorem laidOut : laidOutB Try.prog = true := by kernel_rfl

set_option maxRecDepth 100000 in
/-- A table that came in: a slice whose rows read as a list. -/
theorem open_rows {H : Type} {enc : TypeId × Value → H} {W : World} {b0 : Nat} {v : Value} {d : DataW H} {p : List MemPlace} (hv : Value.okWide Try.prog W .any b0 22 v)
    (h : DataW.Trod enc Try.prog W 0 (fun _ => true) true 22 v d p) :
    ∃ (A : Option Addr) (c : Nat) (l : List S72), v = .slice A l.length c ∧ l.length ≤ c ∧ Kd.C k72 W A l.length l ∧
      (∀ x ∈ l, (Lit.int .u64 x.f0).wf = true ∧ (Lit.int .i64 x.f1).wf = true) := by
  obtain ⟨A, len, cap, rfl⟩ := okWide_slice Try.underlying22 hv
  obtain ⟨f0, f1, hu, t0, t1, hone⟩ := fields72
  obtain ⟨fuel, hf⟩ := h
  have hf' : DataW.trod enc Try.prog W 0 (fun _ => true) true fuel 22 [.slice A len cap] = some (d, p) := hf
  clear hf
  rcases open_slice_fields Try.underlying22 hu hone (cells72.trans rfl) hf' with ⟨hcs, _⟩ | ⟨a, len', cap', m, D, Pl, hcs, hb, hl, hm, hmm, hx, hi⟩
  · simp only [List.cons.injEq, Value.slice.injEq, and_true] at hcs
    obtain ⟨rfl, rfl, rfl⟩ := hcs
    exact ⟨none, 0, [], rfl, Nat.le_refl _, Kd.C_nil _ _, by simp⟩
  · simp only [List.cons.injEq, Value.slice.injEq, and_true] at hcs
    obtain ⟨rfl, rfl, rfl⟩ := hcs
    simp only [if_true] at hmm
    subst hmm
    have key : ∀ i, ∃ x : S72, i < len → (W.cell? (a.add (i * 2)) = some (.int .u64 x.f0) ∧ W.cell? (a.add (i * 2 + 1)) = some (.int .i64 x.f1) ∧ (Lit.int .u64 x.f0).wf = true ∧ (Lit.int .i64 x.f1).wf = true) := by
      intro i
      by_cases hlt : i < len
      · obtain ⟨ys, n, _, _, _, hj⟩ := hi i (by omega)
        obtain ⟨v0, y0, hc0, _, ht0⟩ := hj 0 f0 rfl
        obtain ⟨v1, y1, hc1, _, ht1⟩ := hj 1 f1 rfl
        rw [t0] at ht0
        rw [t1] at ht1
        obtain ⟨x0, e0, rfl, w0⟩ := DataW.trod_int Try.underlying23 ht0
        obtain ⟨x1, e1, rfl, w1⟩ := DataW.trod_int Try.underlying3 ht1
        simp only [List.cons.injEq, and_true] at e0 e1
        subst e0 e1
        exact ⟨⟨x0, x1⟩, fun _ => ⟨hc0, hc1, w0, w1⟩⟩
      · exact ⟨z72, fun h => absurd h hlt⟩
    obtain ⟨X, hX⟩ := Classical.axiomOfChoice key
    have hlen : ((List.range len).map X).length = len := by simp
    refine ⟨some a, _, (List.range len).map X, by rw [hlen], by rw [hlen]; exact hl, ?_, ?_⟩
    · refine ⟨rfl, by rw [hlen]; unfold maxLen at hm; omega, fun hn => ⟨a, rfl, fun j q hq => ?_⟩⟩
      have hj : j < len := by have := (List.getElem?_eq_some_iff.1 hq).1; simpa using this
      obtain rfl : X j = q := by simpa [hj] using hq
      obtain ⟨h0, h1, _, _⟩ := hX j hj
      refine ⟨_, rfl, k72_mk W (X j), fun i u hu => ?_⟩
      match i, hu with
      | 0, hu =>
        obtain rfl : Value.int .u64 (X j).f0 = u := by simpa using hu
        exact h0
      | 1, hu =>
        obtain rfl : Value.int .i64 (X j).f1 = u := by simpa using hu
        exact h1
    · intro x hx
      obtain ⟨i, hi', rfl⟩ := List.mem_map.1 hx
      exact ⟨(hX i (by simpa using hi')).2.2.1, (hX i (by simpa using hi')).2.2.2⟩
end Go.Proofs.Ytbckdelbkcfjkaa.RoOpen
