/- Plain lemmas: shifting and joining of tables, by the program and by the reference. -/
import Derived.Test.YtbckdelbkcfjkaaRoPSame
import Derived.Test.YtbckdelbkcfjkaaRoFrowsShift
import Derived.Test.YtbckdelbkcfjkaaRoHJoin
import Derived.Test.YtbckdelbkcfjkaaRoFretargetref42Shift
import Derived.Test.YtbckdelbkcfjkaaRoFretargetref42Join
namespace Go.Proofs.Ytbckdelbkcfjkaa.RoP
set_option linter.unusedVariables false
set_option linter.unusedSimpArgs false
open Go.RowKit Go.Proofs.Ytbckdelbkcfjkaa.Ro Go.Proofs.YtbckdelbkcfjkaaW.PrintWords Go.Proofs.YtbckdelbkcfjkaaW.PrintLast Go.Proofs.YtbckdelbkcfjkaaW.PrintMore
/-! ### shifts -/
def shr (a : Int) (r : S72) : S72 := ⟨r.f0 + a, r.f1⟩
/-- What Shift answers. -/
def shiftL (l : List S72) (a : Int) : List S72 × Int :=
  if checkL l = 0 then (if 0 < l.length ∧ (4294967296 ≤ a ∨ 4294967296 ≤ (rw_ l (l.length - 1)).f0 + a) then ([], 2) else (l.map (shr a), 0)) else ([], checkL l)
theorem shift_set (a : Int) (l : List S72) (hl : l.length ≤ 1000) (hw : ∀ i, i < l.length → IntKind.u64.wrap ((rw_ l i).f0 + a) = (rw_ l i).f0 + a) : ∀ d k i, i + d = l.length → d < k →
    rows_Shift.l0 k a ((l.take i).map (shr a) ++ l.drop i) (l.length : Int) (i : Int) = some (l.map (shr a), 0) := by
  intro d
  induction d with
  | zero =>
    intro k i h1 h2
    obtain ⟨m, rfl⟩ : ∃ m, k = m + 1 := ⟨k - 1, by omega⟩
    obtain rfl : i = l.length := by omega
    simp only [rows_Shift.l0]
    rw [if_neg (by omega), List.take_length, List.drop_length, List.append_nil]
  | succ d ih =>
    intro k i h1 h2
    obtain ⟨m, rfl⟩ : ∃ m, k = m + 1 := ⟨k - 1, by omega⟩
    have hi : i < l.length := by omega
    have ht : ((l.take i).map (shr a)).length = i := by rw [List.length_map, List.length_take]; omega
    have hlen : ((l.take i).map (shr a) ++ l.drop i).length = l.length := by rw [List.length_append, ht, List.length_drop]; omega
    have hrd : rd_T72 ((l.take i).map (shr a) ++ l.drop i) (i : Int) = rw_ l i := by
      rw [rd_nat, rw_get (by omega), rw_get hi]
      rw [List.getElem_append_right (by omega)]
      simp only [ht, Nat.sub_self, List.getElem_drop, Nat.add_zero]
    have hset : ((l.take i).map (shr a) ++ l.drop i).set i (shr a (rw_ l i)) = (l.take (i + 1)).map (shr a) ++ l.drop (i + 1) := by
      rw [List.set_append_right _ _ (by omega), ht, Nat.sub_self, List.drop_eq_getElem_cons hi, List.set_cons_zero, List.take_succ_eq_append_getElem hi, List.map_append, List.append_assoc, rw_get hi]
      rfl
    have ih := ih m (i + 1) (by omega) (by omega)
    rw [← hset] at ih
    simp only [rows_Shift.l0]
    rw [if_pos (by omega), if_pos (by omega), if_pos (by rw [hlen]; omega), hrd, hw i hi, w_add1 i (by omega), Int.toNat_natCast]
    exact ih
theorem clone_eq {l : List S72} (h : l.length ≤ 1000) : slices_CloneRow.f l = some l := by
  unfold slices_CloneRow.f
  rw [Option.bind_some, if_pos (by rw [List.length_nil]; omega), List.nil_append]
theorem shift_eq (l : List S72) (a : Int) (h0 : Nat0 l) (ha : 0 ≤ a) (ha2 : a < 18446744073709551616) (k : Nat) (hk : 2010 < k) : rows_Shift.f k l a = some (shiftL l a) := by
  obtain ⟨m, rfl⟩ : ∃ m, k = m + 1 := ⟨k - 1, by omega⟩
  unfold rows_Shift.f shiftL
  rw [check_eq l (m + 1) (.inr (by omega)), Option.bind_some]
  by_cases hc : checkL l = 0
  · have g := good_of hc
    have hl := g.1
    rw [if_pos hc, if_pos hc]
    by_cases hp : 0 < l.length
    · have hlast := g.at (i := l.length - 1) (by omega)
      have h1 := hlast.lo
      have h2 := h0 (l.length - 1) (by omega)
      rw [if_pos (by omega)]
      by_cases hb : a ≥ 4294967296
      · rw [if_pos hb, if_pos ⟨hp, .inl hb⟩, rows_Shift.j0, if_pos rfl]
      · rw [if_neg hb, w_sub1 l.length hp (by omega), if_pos (by omega), if_pos (by omega), rd_nat, u64_in (by omega) (by omega)]
        by_cases hq : (rw_ l (l.length - 1)).f0 + a ≥ 4294967296
        · rw [decide_eq_true hq, rows_Shift.j0, if_pos rfl, if_pos ⟨hp, .inr hq⟩]
        · rw [decide_eq_false hq, rows_Shift.j0, if_neg (by decide), if_neg (fun h => h.2.elim (fun h => hb h) (fun h => hq h)), clone_eq hl, Option.bind_some]
          have hs := shift_set a l hl (fun i hi => u64_in (by have := h0 i hi; omega) (by have := good_top g hp hi; omega)) l.length m 0 (by omega) (by omega)
          exact hs
    · rw [if_neg (by omega), if_neg (fun h => hp h.1), rows_Shift.j0, if_neg (by decide), clone_eq hl, Option.bind_some]
      have hs := shift_set a l hl (fun i hi => absurd hi (by omega)) l.length m 0 (by omega) (by omega)
      exact hs
  · rw [if_neg hc, if_neg hc]
theorem rshift_go (a : Int) (l : List S72) (hl : l.length ≤ 1000) (hb : ¬ a ≥ 4294967296) (hw : ∀ i, i < l.length → IntKind.u64.wrap ((rw_ l i).f0 + a) = (rw_ l i).f0 + a ∧ (rw_ l i).f0 + a < 4294967296) : ∀ d k i, i + d = l.length → d < k →
    retargetref42_Shift.l0 k l a ((l.take i).map (shr a)) (i : Int) = some (l.map (shr a), 0) := by
  intro d
  induction d with
  | zero =>
    intro k i h1 h2
    obtain ⟨m, rfl⟩ : ∃ m, k = m + 1 := ⟨k - 1, by omega⟩
    obtain rfl : i = l.length := by omega
    simp only [retargetref42_Shift.l0]
    rw [if_neg (by omega), List.take_length]
  | succ d ih =>
    intro k i h1 h2
    obtain ⟨m, rfl⟩ : ∃ m, k = m + 1 := ⟨k - 1, by omega⟩
    have hi : i < l.length := by omega
    have ht : ((l.take i).map (shr a)).length = i := by rw [List.length_map, List.length_take]; omega
    have ih := ih m (i + 1) (by omega) (by omega)
    rw [List.take_succ_eq_append_getElem hi, List.map_append, ← rw_get hi] at ih
    simp only [retargetref42_Shift.l0]
    rw [if_pos (by omega), if_neg hb, if_pos (by omega), rd_nat, (hw i hi).1, if_neg (by have := (hw i hi).2; omega), if_pos (by rw [ht]; omega), w_add1 i (by omega)]
    exact ih
theorem rshift_stop (a : Int) (l : List S72) (hl : l.length ≤ 1000) (hb : ¬ a ≥ 4294967296) (h0 : ∀ i, i < l.length → 0 ≤ (rw_ l i).f0 + a ∧ (rw_ l i).f0 + a < 18446744073709551616) (hp : 0 < l.length) (hbad : (rw_ l (l.length - 1)).f0 + a ≥ 4294967296) : ∀ d k i, i + d = l.length → d < k → 0 < d → ∀ out : List S72, out.length ≤ i →
    retargetref42_Shift.l0 k l a out (i : Int) = some ([], 2) := by
  intro d
  induction d with
  | zero => intro k i h1 h2 h3; omega
  | succ d ih =>
    intro k i h1 h2 h3 out ho
    obtain ⟨m, rfl⟩ : ∃ m, k = m + 1 := ⟨k - 1, by omega⟩
    have hi : i < l.length := by omega
    have hw := u64_in (h0 i hi).1 (h0 i hi).2
    simp only [retargetref42_Shift.l0]
    rw [if_pos (by omega), if_neg hb, if_pos (by omega), rd_nat, hw]
    by_cases hq : (rw_ l i).f0 + a ≥ 4294967296
    · rw [if_pos hq]
    · rw [if_neg hq, if_pos (by omega), w_add1 i (by omega)]
      have hd : 0 < d := by
        by_cases e : d = 0
        · exfalso
          have : i = l.length - 1 := by omega
          subst this
          exact hq hbad
        · omega
      exact ih m (i + 1) (by omega) (by omega) hd _ (by rw [List.length_append, List.length_singleton]; omega)
theorem rshift_eq (l : List S72) (a : Int) (h0 : Nat0 l) (ha : 0 ≤ a) (ha2 : a < 18446744073709551616) (k : Nat) (hk : 2010 < k) : retargetref42_Shift.f k l a = some (shiftL l a) := by
  unfold retargetref42_Shift.f shiftL
  rw [rcheck_eq l k (.inr (by omega)), Option.bind_some]
  by_cases hc : checkL l = 0
  · have g := good_of hc
    have hl := g.1
    rw [if_pos hc, if_pos hc]
    by_cases hb : a ≥ 4294967296
    · by_cases hp : 0 < l.length
      · rw [if_pos ⟨hp, .inl hb⟩]
        obtain ⟨m, rfl⟩ : ∃ m, k = m + 1 := ⟨k - 1, by omega⟩
        simp only [retargetref42_Shift.l0]
        rw [if_pos (by omega), if_pos hb]
      · rw [if_neg (fun h => hp h.1)]
        obtain ⟨m, rfl⟩ : ∃ m, k = m + 1 := ⟨k - 1, by omega⟩
        simp only [retargetref42_Shift.l0]
        rw [if_neg (by omega)]
        have : l = [] := List.eq_nil_of_length_eq_zero (by omega)
        subst this
        rfl
    · by_cases hq : 0 < l.length ∧ (4294967296 ≤ a ∨ 4294967296 ≤ (rw_ l (l.length - 1)).f0 + a)
      · rw [if_pos hq]
        obtain ⟨hp, hq⟩ := hq
        have hbad : (rw_ l (l.length - 1)).f0 + a ≥ 4294967296 := hq.elim (fun h => absurd h hb) id
        exact rshift_stop a l hl hb (fun i hi => ⟨by have := h0 i hi; omega, by have := (g.at hi).lo; omega⟩) hp hbad l.length k 0 (by omega) (by omega) hp [] (Nat.zero_le _)
      · rw [if_neg hq]
        refine rshift_go a l hl hb (fun i hi => ?_) l.length k 0 (by omega) (by omega)
        have hp : 0 < l.length := by omega
        have h1 := good_top g hp hi
        have h2 := h0 i hi
        have h3 : ¬ 4294967296 ≤ (rw_ l (l.length - 1)).f0 + a := fun h => hq ⟨hp, .inr h⟩
        exact ⟨u64_in (by omega) (by omega), by omega⟩
  · rw [if_neg hc, if_neg hc]
/-! ### joins -/
/-- The second table without its first row, where that has the first table's last line. -/
def restL (a b : List S72) : List S72 := if 0 < a.length ∧ 0 < b.length ∧ (rw_ b 0).f1 = (rw_ a (a.length - 1)).f1 then b.drop 1 else b
/-- What Join answers. -/
def joinL (a b : List S72) : List S72 × Int :=
  if checkL a = 0 then (if checkL b = 0 then (if 0 < a.length ∧ 0 < b.length ∧ (rw_ b 0).f0 ≤ (rw_ a (a.length - 1)).f0 then ([], 2)
    else if 1000 < a.length + (restL a b).length then ([], 4) else (a ++ restL a b, 0)) else ([], checkL b)) else ([], checkL a)
theorem concat_eq {a b : List S72} (ha : a.length ≤ 1000) (hb : b.length ≤ 1000) : slices_ConcatRow.f a b = some (a ++ b) := by
  unfold slices_ConcatRow.f
  rw [if_pos (by rw [List.length_nil]; omega), Option.bind_some, List.nil_append, if_pos (by omega)]
theorem w_len (a b : List S72) (ha : a.length ≤ 1000) (hb : b.length ≤ 1000) : wrap64 ((a.length : Int) + (b.length : Int)) = ((a.length + b.length : Nat) : Int) := w_add _ _ (by omega)
theorem join_end {a b : List S72} (ha : a.length ≤ 1000) (hb : b.length ≤ 1000) : (if (wrap64 ((a.length : Int) + (b.length : Int))) > 1000 then (some (([] : List (S72)), (4 : Int))) else ((slices_ConcatRow.f a b).bind fun t140 => (some (t140, 0)))) = some (if 1000 < a.length + b.length then ([], 4) else (a ++ b, 0)) := by
  rw [w_len a b ha hb, concat_eq ha hb, Option.bind_some]
  by_cases h : 1000 < a.length + b.length
  · rw [if_pos (by omega), if_pos h]
  · rw [if_neg (by omega), if_neg h]
theorem join_eq (a b : List S72) (k : Nat) (hk : 2010 < k) : rows_Join.f k a b = some (joinL a b) := by
  obtain ⟨m, rfl⟩ : ∃ m, k = m + 2 := ⟨k - 2, by omega⟩
  unfold rows_Join.f joinL
  rw [check_eq a (m + 2) (.inr (by omega)), check_eq b (m + 2) (.inr (by omega)), Option.bind_some]
  by_cases hc : checkL a = 0
  · rw [if_pos hc, if_pos hc, Option.bind_some, show m + 2 = (m + 1) + 1 from rfl, rows_Join.j0]
    by_cases hd : checkL b = 0
    · have ga := (good_of hc).1
      have gb := (good_of hd).1
      rw [if_pos hd, if_pos hd]
      by_cases pa : 0 < a.length
      · rw [if_pos (by omega)]
        by_cases pb : 0 < b.length
        · rw [decide_eq_true (by omega), rows_Join.j1, if_pos rfl, w_sub1 a.length pa (by omega), if_pos (by omega), if_pos (by omega), if_pos (by omega), rd_nat a, show rd_T72 b 0 = rw_ b 0 from rd_nat b 0]
          by_cases q1 : (rw_ b 0).f0 ≤ (rw_ a (a.length - 1)).f0
          · rw [if_pos q1, if_pos ⟨pa, pb, q1⟩]
          · rw [if_neg q1, if_neg (show ¬ (0 < a.length ∧ 0 < b.length ∧ (rw_ b 0).f0 ≤ (rw_ a (a.length - 1)).f0) from fun h => q1 h.2.2)]
            by_cases q2 : (rw_ b 0).f1 = (rw_ a (a.length - 1)).f1
            · rw [if_pos q2, if_pos (by omega), Option.bind_some, show restL a b = b.drop 1 from if_pos ⟨pa, pb, q2⟩]
              exact join_end ga (by rw [List.length_drop]; omega)
            · rw [if_neg q2, show restL a b = b from if_neg (fun h => q2 h.2.2)]
              exact join_end ga gb
        · rw [decide_eq_false (by omega), rows_Join.j1, if_neg (by decide), if_neg (show ¬ (0 < a.length ∧ 0 < b.length ∧ (rw_ b 0).f0 ≤ (rw_ a (a.length - 1)).f0) from fun h => pb h.2.1), show restL a b = b from if_neg (fun h => pb h.2.1)]
          exact join_end ga gb
      · rw [if_neg (by omega), rows_Join.j1, if_neg (by decide), if_neg (show ¬ (0 < a.length ∧ 0 < b.length ∧ (rw_ b 0).f0 ≤ (rw_ a (a.length - 1)).f0) from fun h => pa h.1), show restL a b = b from if_neg (fun h => pa h.1)]
        exact join_end ga gb
    · rw [if_neg hd, if_neg hd]
  · rw [if_neg hc, if_neg hc, show m + 2 = (m + 1) + 1 from rfl, rows_Join.j0, if_neg hc]
theorem rjoin_tail (a b : List S72) (hb : b.length ≤ 1000) (base : List S72) (hbase : base.length ≤ 1000) (s : Nat) (hs : s ≤ 1) : ∀ d k i, i + d = b.length → d < k → 1 ≤ i →
    retargetref42_Join.l0 k a b (base ++ (b.take i).drop s) (i : Int) = some (if 1000 < base.length + (b.drop s).length then ([], 4) else (base ++ b.drop s, 0)) := by
  intro d
  induction d with
  | zero =>
    intro k i h1 h2 h3
    obtain ⟨m, rfl⟩ : ∃ m, k = m + 1 := ⟨k - 1, by omega⟩
    obtain rfl : i = b.length := by omega
    simp only [retargetref42_Join.l0]
    rw [if_neg (by omega), List.take_length, List.length_append]
    by_cases h : 1000 < base.length + (b.drop s).length
    · rw [if_pos (by omega), if_pos h]
    · rw [if_neg (by omega), if_neg h]
  | succ d ih =>
    intro k i h1 h2 h3
    obtain ⟨m, rfl⟩ : ∃ m, k = m + 1 := ⟨k - 1, by omega⟩
    have hi : i < b.length := by omega
    have ih := ih m (i + 1) (by omega) (by omega) (by omega)
    have e : (b.take (i + 1)).drop s = (b.take i).drop s ++ [rw_ b i] := by
      rw [List.take_succ_eq_append_getElem hi, List.drop_append_of_le_length (by rw [List.length_take]; omega), rw_get hi]
    rw [e, ← List.append_assoc] at ih
    have hlen : (base ++ (b.take i).drop s).length ≤ 3000 := by rw [List.length_append, List.length_drop, List.length_take]; omega
    simp only [retargetref42_Join.l0]
    rw [if_pos (by omega), if_pos (by omega), if_pos (by omega), if_pos (by omega), rd_nat, w_add1 i (by omega)]
    exact ih
theorem rjoin_l0 (a b : List S72) (ha : a.length ≤ 1000) (hb : b.length ≤ 1000) (k : Nat) (hk : 1010 < k) :
    retargetref42_Join.l0 k a b a 0 = some (if 1000 < a.length + (restL a b).length then ([], 4) else (a ++ restL a b, 0)) := by
  obtain ⟨m, rfl⟩ : ∃ m, k = m + 1 := ⟨k - 1, by omega⟩
  by_cases pb : 0 < b.length
  · have e0 : (b.take 1).drop 0 = [rw_ b 0] := by
      rw [List.drop_zero, List.take_succ_eq_append_getElem pb, List.take_zero, List.nil_append, rw_get pb]
    have e1 : (b.take 1).drop 1 = [] := List.drop_eq_nil_of_le (by rw [List.length_take]; omega)
    have hw0 : wrap64 (0 + 1) = 1 := w_add1 0 (by omega)
    have t0 := rjoin_tail a b hb a ha 0 (by omega) (b.length - 1) m 1 (by omega) (by omega) (by omega)
    have t1 := rjoin_tail a b hb a ha 1 (by omega) (b.length - 1) m 1 (by omega) (by omega) (by omega)
    rw [e0, List.drop_zero] at t0
    rw [e1, List.append_nil] at t1
    simp only [retargetref42_Join.l0]
    rw [if_pos (by omega), if_neg (by decide), hw0]
    by_cases pa : 0 < a.length
    · rw [if_neg (by omega), if_pos (by omega), w_sub1 a.length pa (by omega), if_pos (by omega), if_pos (by omega), rd_nat a, show rd_T72 b 0 = rw_ b 0 from rd_nat b 0]
      by_cases q2 : (rw_ b 0).f1 = (rw_ a (a.length - 1)).f1
      · rw [if_pos q2, show restL a b = b.drop 1 from if_pos ⟨pa, pb, q2⟩]
        exact t1
      · rw [if_neg q2, if_pos (by decide), if_pos (by omega), show restL a b = b from if_neg (fun h => q2 h.2.2)]
        exact t0
    · rw [if_pos (by omega), if_pos (by decide), if_pos (by omega), show restL a b = b from if_neg (fun h => pa h.1), show rd_T72 b 0 = rw_ b 0 from rd_nat b 0]
      exact t0
  · simp only [retargetref42_Join.l0]
    have e : b = [] := List.eq_nil_of_length_eq_zero (by omega)
    subst e
    have er : restL a [] = [] := by unfold restL; rw [if_neg (by simp)]
    rw [if_neg (by simp), er, List.length_nil, Nat.add_zero, List.append_nil, if_neg (by omega), if_neg (by omega)]
theorem rjoin_eq (a b : List S72) (k : Nat) (hk : 2010 < k) : retargetref42_Join.f k a b = some (joinL a b) := by
  obtain ⟨m, rfl⟩ : ∃ m, k = m + 2 := ⟨k - 2, by omega⟩
  unfold retargetref42_Join.f joinL
  rw [rcheck_eq a (m + 2) (.inr (by omega)), rcheck_eq b (m + 2) (.inr (by omega)), Option.bind_some]
  by_cases hc : checkL a = 0
  · rw [if_pos hc, if_pos hc, Option.bind_some, show m + 2 = (m + 1) + 1 from rfl, retargetref42_Join.j0]
    by_cases hd : checkL b = 0
    · have ga := (good_of hc).1
      have gb := (good_of hd).1
      rw [if_pos hd, if_pos hd, if_pos (by rw [List.length_nil]; omega), Option.bind_some, List.nil_append]
      by_cases pa : 0 < a.length
      · rw [if_pos (by omega)]
        by_cases pb : 0 < b.length
        · rw [if_pos (by omega), if_pos (by omega), w_sub1 a.length pa (by omega), if_pos (by omega), if_pos (by omega), rd_nat a, show rd_T72 b 0 = rw_ b 0 from rd_nat b 0]
          by_cases q1 : (rw_ b 0).f0 ≤ (rw_ a (a.length - 1)).f0
          · rw [decide_eq_true q1, retargetref42_Join.j1, if_pos rfl, if_pos ⟨pa, pb, q1⟩]
          · rw [decide_eq_false q1, retargetref42_Join.j1, if_neg (by decide), if_neg (show ¬ (0 < a.length ∧ 0 < b.length ∧ (rw_ b 0).f0 ≤ (rw_ a (a.length - 1)).f0) from fun h => q1 h.2.2)]
            exact rjoin_l0 a b ga gb m (by omega)
        · rw [if_neg (by omega), retargetref42_Join.j1, if_neg (by decide), if_neg (show ¬ (0 < a.length ∧ 0 < b.length ∧ (rw_ b 0).f0 ≤ (rw_ a (a.length - 1)).f0) from fun h => pb h.2.1)]
          exact rjoin_l0 a b ga gb m (by omega)
      · rw [if_neg (by omega), retargetref42_Join.j1, if_neg (by decide), if_neg (show ¬ (0 < a.length ∧ 0 < b.length ∧ (rw_ b 0).f0 ≤ (rw_ a (a.length - 1)).f0) from fun h => pa h.1)]
        exact rjoin_l0 a b ga gb m (by omega)
    · rw [if_neg hd, if_neg hd]
  · rw [if_neg hc, if_neg hc, show m + 2 = (m + 1) + 1 from rfl, retargetref42_Join.j0, if_neg hc]
theorem shiftL_len (l : List S72) (a : Int) : (shiftL l a).1.length ≤ 1000 := by
  unfold shiftL
  by_cases hc : checkL l = 0
  · have := (good_of hc).1
    rw [if_pos hc]
    split
    · exact Nat.zero_le _
    · simpa using this
  · rw [if_neg hc]; exact Nat.zero_le _
theorem joinL_len (a b : List S72) : (joinL a b).1.length ≤ 1000 := by
  unfold joinL
  by_cases hc : checkL a = 0
  · rw [if_pos hc]
    by_cases hd : checkL b = 0
    · rw [if_pos hd]
      split
      · exact Nat.zero_le _
      · split
        · exact Nat.zero_le _
        · rw [List.length_append]; omega
    · rw [if_neg hd]; exact Nat.zero_le _
  · rw [if_neg hc]; exact Nat.zero_le _
end Go.Proofs.Ytbckdelbkcfjkaa.RoP
