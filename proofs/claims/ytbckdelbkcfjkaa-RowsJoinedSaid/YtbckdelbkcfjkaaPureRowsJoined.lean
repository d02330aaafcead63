/- The plain law of RowsJoined: an address' line in a joined table is that in the part it falls into, the joined table is valid, and shifting moves all addresses; for every two tables of at most 2,000 rows, number and address. -/
import Derived.Test.YtbckdelbkcfjkaaRoPBuild
import Derived.Test.YtbckdelbkcfjkaaRoPAlive
import Derived.Test.YtbckdelbkcfjkaaRoFretargetlaw42RowsJoined
namespace Go.Proofs.Ytbckdelbkcfjkaa.RoP
set_option linter.unusedVariables false
set_option linter.unusedSimpArgs false
open Go.RowKit Go.Proofs.Ytbckdelbkcfjkaa.Ro Go.Proofs.YtbckdelbkcfjkaaW.PrintWords Go.Proofs.YtbckdelbkcfjkaaW.PrintLast Go.Proofs.YtbckdelbkcfjkaaW.PrintMore
/-- What the first n rows answer for an address. -/
def fl (l : List S72) (x : Int) (n : Nat) : Int × Int := ansOf l (lastAt l x n)
theorem fl_yes {l : List S72} {x : Int} {n : Nat} (h : (rw_ l n).f0 ≤ x) : fl l x (n + 1) = ((rw_ l n).f1, 0) := by
  unfold fl; rw [lastAt_succ, if_pos h]; rfl
theorem fl_no {l : List S72} {x : Int} {n : Nat} (h : ¬ (rw_ l n).f0 ≤ x) : fl l x (n + 1) = fl l x n := by
  unfold fl; rw [lastAt_succ, if_neg h]
theorem findL_fl {l : List S72} (g : Good l) {x : Int} (hx : ¬ x ≥ 4294967296) : findL l x = fl l x l.length := by
  unfold findL; rw [if_neg (by rw [g.check]; simp), if_neg hx]; rfl
theorem rwa_lt {l t : List S72} {i : Nat} (h : i < l.length) : rw_ (l ++ t) i = rw_ l i := by
  rw [rw_get h, rw_get (by rw [List.length_append]; omega), List.getElem_append_left h]
theorem rwa_ge (l t : List S72) (n : Nat) : rw_ (l ++ t) (l.length + n) = rw_ t n := by
  unfold rw_; rw [List.getD_eq_getElem?_getD, List.getElem?_append_right (Nat.le_add_right _ _), Nat.add_sub_cancel_left, List.getD_eq_getElem?_getD]
theorem rw_drop1 (b : List S72) (n : Nat) : rw_ (b.drop 1) n = rw_ b (n + 1) := by
  unfold rw_; rw [List.getD_eq_getElem?_getD, List.getElem?_drop, Nat.add_comm, List.getD_eq_getElem?_getD]
theorem rw_map {l : List S72} (a : Int) {i : Nat} (h : i < l.length) : rw_ (l.map (shr a)) i = shr a (rw_ l i) := by
  rw [rw_get (by rw [List.length_map]; exact h), List.getElem_map, rw_get h]
theorem rest_cases (a b : List S72) : (restL a b = b ∧ (0 < a.length → 0 < b.length → (rw_ b 0).f1 ≠ (rw_ a (a.length - 1)).f1)) ∨ (restL a b = b.drop 1 ∧ 0 < a.length ∧ 0 < b.length ∧ (rw_ b 0).f1 = (rw_ a (a.length - 1)).f1) := by
  by_cases h : 0 < a.length ∧ 0 < b.length ∧ (rw_ b 0).f1 = (rw_ a (a.length - 1)).f1
  · right; exact ⟨by unfold restL; rw [if_pos h], h⟩
  · left; exact ⟨by unfold restL; rw [if_neg h], fun h1 h2 h3 => h ⟨h1, h2, h3⟩⟩
theorem good_append {a c : List S72} (ga : Good a) (hlen : (a ++ c).length ≤ 1000) (hc : ∀ n, n < c.length → okAt c n) (h0 : 0 < a.length → 0 < c.length → (rw_ a (a.length - 1)).f0 < (rw_ c 0).f0 ∧ (rw_ c 0).f1 ≠ (rw_ a (a.length - 1)).f1) : Good (a ++ c) := by
  refine ⟨hlen, fun j hj => ?_⟩
  by_cases h : j < a.length
  · have o := ga.ok j h
    refine okAt_mk (by rw [rwa_lt h]; exact o.lo) (by rw [rwa_lt h]; exact o.l1) (by rw [rwa_lt h]; exact o.l2) (fun p => ?_)
    rw [rwa_lt h, rwa_lt (show j - 1 < a.length by omega)]
    exact ⟨o.lt p, o.ne p⟩
  · obtain ⟨n, rfl⟩ : ∃ n, j = a.length + n := ⟨j - a.length, by omega⟩
    have hn : n < c.length := by rw [List.length_append] at hj; omega
    have o := hc n hn
    refine okAt_mk (by rw [rwa_ge]; exact o.lo) (by rw [rwa_ge]; exact o.l1) (by rw [rwa_ge]; exact o.l2) (fun p => ?_)
    rw [rwa_ge]
    by_cases z : n = 0
    · subst z
      rw [Nat.add_zero] at p ⊢
      rw [rwa_lt (show a.length - 1 < a.length by omega)]
      exact h0 p hn
    · rw [show a.length + n - 1 = a.length + (n - 1) by omega, rwa_ge]
      exact ⟨o.lt (by omega), o.ne (by omega)⟩
theorem good_drop1 {b : List S72} (gb : Good b) (n : Nat) (hn : n < (b.drop 1).length) : okAt (b.drop 1) n := by
  rw [List.length_drop] at hn
  have o := gb.ok (n + 1) (by omega)
  refine okAt_mk (by rw [rw_drop1]; exact o.lo) (by rw [rw_drop1]; exact o.l1) (by rw [rw_drop1]; exact o.l2) (fun p => ?_)
  rw [rw_drop1, rw_drop1, show n - 1 + 1 = n by omega]
  exact ⟨o.lt (Nat.succ_pos n), o.ne (Nat.succ_pos n)⟩
theorem good_join {a b : List S72} (ga : Good a) (gb : Good b) (hlt : 0 < a.length → 0 < b.length → (rw_ a (a.length - 1)).f0 < (rw_ b 0).f0) (hlen : (a ++ restL a b).length ≤ 1000) : Good (a ++ restL a b) := by
  rcases rest_cases a b with ⟨e, h⟩ | ⟨e, h1, h2, h3⟩
  · rw [e] at hlen ⊢
    exact good_append ga hlen gb.ok (fun p q => ⟨hlt p q, h p q⟩)
  · rw [e] at hlen ⊢
    refine good_append ga hlen (good_drop1 gb) (fun p q => ?_)
    rw [List.length_drop] at q
    have o := gb.ok 1 (by omega)
    have l1 := hlt h1 h2
    have l2 : (rw_ b 0).f0 < (rw_ b 1).f0 := o.lt (by omega)
    have l3 : (rw_ b 1).f1 ≠ (rw_ b 0).f1 := o.ne (by omega)
    rw [rw_drop1]
    exact ⟨by show _ < (rw_ b 1).f0; omega, by rw [← h3]; exact l3⟩
theorem join_find_b {a b : List S72} (hlt : 0 < a.length → 0 < b.length → (rw_ a (a.length - 1)).f0 < (rw_ b 0).f0) (hb : 0 < b.length) {x : Int} (hx : (rw_ b 0).f0 ≤ x) : fl (a ++ restL a b) x (a ++ restL a b).length = fl b x b.length := by
  rcases rest_cases a b with ⟨e, h⟩ | ⟨e, h1, h2, h3⟩
  · rw [e, List.length_append]
    have go : ∀ n, fl (a ++ b) x (a.length + n + 1) = fl b x (n + 1) := by
      intro n
      induction n with
      | zero =>
        have e0 : rw_ (a ++ b) a.length = rw_ b 0 := rwa_ge a b 0
        rw [fl_yes (by rw [e0]; exact hx), fl_yes hx, e0]
      | succ n ih =>
        have e0 : rw_ (a ++ b) (a.length + (n + 1)) = rw_ b (n + 1) := rwa_ge a b (n + 1)
        by_cases c : (rw_ b (n + 1)).f0 ≤ x
        · rw [fl_yes (by rw [e0]; exact c), fl_yes c, e0]
        · rw [fl_no (by rw [e0]; exact c), fl_no c]
          exact ih
    have := go (b.length - 1)
    rw [show a.length + (b.length - 1) + 1 = a.length + b.length by omega, show b.length - 1 + 1 = b.length by omega] at this
    exact this
  · rw [e, List.length_append, List.length_drop]
    have hl := hlt h1 h2
    have go : ∀ n, fl (a ++ b.drop 1) x (a.length + n) = fl b x (n + 1) := by
      intro n
      induction n with
      | zero =>
        have e0 : rw_ (a ++ b.drop 1) (a.length - 1) = rw_ a (a.length - 1) := rwa_lt (by omega)
        have := fl_yes (l := a ++ b.drop 1) (x := x) (n := a.length - 1) (by rw [e0]; omega)
        rw [show a.length - 1 + 1 = a.length + 0 by omega, e0] at this
        rw [this, fl_yes hx, h3]
      | succ n ih =>
        have e0 : rw_ (a ++ b.drop 1) (a.length + n) = rw_ b (n + 1) := (rwa_ge a (b.drop 1) n).trans (rw_drop1 b n)
        by_cases c : (rw_ b (n + 1)).f0 ≤ x
        · rw [← Nat.add_assoc, fl_yes (by rw [e0]; exact c), fl_yes c, e0]
        · rw [← Nat.add_assoc, fl_no (by rw [e0]; exact c), fl_no c]
          exact ih
    have := go (b.length - 1)
    rw [show b.length - 1 + 1 = b.length by omega] at this
    exact this
theorem join_find_a {a b : List S72} {x : Int} (h : ∀ n, n < b.length → x < (rw_ b n).f0) : fl (a ++ restL a b) x (a ++ restL a b).length = fl a x a.length := by
  have base : ∀ c : List S72, ∀ n, n ≤ a.length → fl (a ++ c) x n = fl a x n := by
    intro c n
    induction n with
    | zero => intro _; rfl
    | succ n ih =>
      intro hn
      have e0 : rw_ (a ++ c) n = rw_ a n := rwa_lt (by omega)
      by_cases p : (rw_ a n).f0 ≤ x
      · rw [fl_yes (by rw [e0]; exact p), fl_yes p, e0]
      · rw [fl_no (by rw [e0]; exact p), fl_no p]; exact ih (by omega)
  have go : ∀ c : List S72, (∀ n, n < c.length → x < (rw_ c n).f0) → ∀ n, n ≤ c.length → fl (a ++ c) x (a.length + n) = fl a x a.length := by
    intro c hc n
    induction n with
    | zero => intro _; exact base c a.length (Nat.le_refl _)
    | succ n ih =>
      intro hn
      have h1 := hc n (by omega)
      rw [← Nat.add_assoc, fl_no (by rw [rwa_ge]; omega)]
      exact ih (by omega)
  rw [List.length_append]
  rcases rest_cases a b with ⟨e, _⟩ | ⟨e, _⟩
  · rw [e]; exact go b h b.length (Nat.le_refl _)
  · rw [e]
    refine go (b.drop 1) (fun n hn => ?_) _ (Nat.le_refl _)
    rw [List.length_drop] at hn
    rw [rw_drop1]; exact h (n + 1) (by omega)
theorem good_shift {l : List S72} (g : Good l) {d : Int} (hd : (rw_ l (l.length - 1)).f0 + d < 4294967296) : Good (l.map (shr d)) := by
  refine ⟨by rw [List.length_map]; exact g.len, fun j hj => ?_⟩
  rw [List.length_map] at hj
  have o := g.ok j hj
  have t := good_top g (by omega) hj
  refine okAt_mk ?_ ?_ ?_ (fun p => ?_)
  · rw [rw_map d hj]; show (rw_ l j).f0 + d < _; omega
  · rw [rw_map d hj]; exact o.l1
  · rw [rw_map d hj]; exact o.l2
  · rw [rw_map d hj, rw_map d (show j - 1 < l.length by omega)]
    have := o.lt p
    exact ⟨by show (rw_ l (j - 1)).f0 + d < (rw_ l j).f0 + d; omega, o.ne p⟩
theorem shift_find {l : List S72} (d x : Int) : ∀ n, n ≤ l.length → fl (l.map (shr d)) (x + d) n = fl l x n := by
  intro n
  induction n with
  | zero => intro _; rfl
  | succ n ih =>
    intro hn
    have e0 := rw_map d (show n < l.length by omega)
    by_cases p : (rw_ l n).f0 ≤ x
    · rw [fl_yes (by rw [e0]; show (rw_ l n).f0 + d ≤ x + d; omega), fl_yes p, e0]; rfl
    · rw [fl_no (by rw [e0]; show ¬ (rw_ l n).f0 + d ≤ x + d; omega), fl_no p]; exact ih (by omega)
theorem joinL_ok {a b : List S72} (h : (joinL a b).2 = 0) : Good a ∧ Good b ∧ (0 < a.length → 0 < b.length → (rw_ a (a.length - 1)).f0 < (rw_ b 0).f0) ∧ Good (joinL a b).1 ∧ (joinL a b).1 = a ++ restL a b := by
  unfold joinL at h ⊢
  by_cases hc : checkL a = 0
  · rw [if_pos hc] at h ⊢
    by_cases hd : checkL b = 0
    · rw [if_pos hd] at h ⊢
      by_cases q : 0 < a.length ∧ 0 < b.length ∧ (rw_ b 0).f0 ≤ (rw_ a (a.length - 1)).f0
      · rw [if_pos q] at h; exact absurd h (by decide)
      · rw [if_neg q] at h ⊢
        by_cases r : 1000 < a.length + (restL a b).length
        · rw [if_pos r] at h; exact absurd h (by decide)
        · rw [if_neg r]
          have hlt : 0 < a.length → 0 < b.length → (rw_ a (a.length - 1)).f0 < (rw_ b 0).f0 := by
            intro h1 h2
            have : ¬ (rw_ b 0).f0 ≤ (rw_ a (a.length - 1)).f0 := fun h => q ⟨h1, h2, h⟩
            omega
          exact ⟨good_of hc, good_of hd, hlt, good_join (good_of hc) (good_of hd) hlt (by rw [List.length_append]; omega), rfl⟩
    · rw [if_neg hd] at h; exact absurd h hd
  · rw [if_neg hc] at h; exact absurd h hc
theorem shiftL_ok {l : List S72} {d : Int} (h : (shiftL l d).2 = 0) (hp : 0 < l.length) : Good l ∧ d < 4294967296 ∧ (rw_ l (l.length - 1)).f0 + d < 4294967296 ∧ (shiftL l d).1 = l.map (shr d) := by
  unfold shiftL at h ⊢
  by_cases hc : checkL l = 0
  · rw [if_pos hc] at h ⊢
    by_cases q : 0 < l.length ∧ (4294967296 ≤ d ∨ 4294967296 ≤ (rw_ l (l.length - 1)).f0 + d)
    · rw [if_pos q] at h; exact absurd h (by decide)
    · rw [if_neg q]
      have q1 : ¬ 4294967296 ≤ d := fun h => q ⟨hp, .inl h⟩
      have q2 : ¬ 4294967296 ≤ (rw_ l (l.length - 1)).f0 + d := fun h => q ⟨hp, .inr h⟩
      exact ⟨good_of hc, by omega, by omega, rfl⟩
  · rw [if_neg hc] at h; exact absurd h hc
theorem joined_j2 {a : List S72} (h0 : Nat0 a) {d x : Int} (d0 : 0 ≤ d) (d1 : d < 18446744073709551616) (x0 : 0 ≤ x) (x1 : x < 4294967296) (k : Nat) (hk : 2010 < k) : retargetlaw42_RowsJoined.j2 (k + 1) a d x true = some true := by
  rw [retargetlaw42_RowsJoined.j2, shift_eq a d h0 d0 d1 k hk, Option.bind_some]
  by_cases h : (shiftL a d).2 = 0
  · rw [if_pos h]
    by_cases hp : 0 < a.length
    · obtain ⟨g, s1, s2, s3⟩ := shiftL_ok h hp
      have e : IntKind.u64.wrap (x + d) = x + d := u64_in (by omega) (by omega)
      rw [if_neg (by omega), e]
      by_cases c : x + d ≥ 4294967296
      · rw [if_pos c]
      · have g2 := good_shift g s2
        have f1 := findL_fl g (x := x) (by omega)
        have f2 := findL_fl g2 (x := x + d) c
        rw [List.length_map, shift_find d x a.length (Nat.le_refl _), ← f1] at f2
        rw [if_neg c, find_eq a x k (by omega), Option.bind_some, s3, find_eq _ (x + d) k (by omega), Option.bind_some, if_pos rfl, f2, if_pos rfl, beq_self_eq_true]
    · rw [if_pos (by omega)]
  · rw [if_neg h]
theorem joined_j1 {a b : List S72} (h0 : Nat0 a) {d x : Int} (d0 : 0 ≤ d) (d1 : d < 18446744073709551616) (x0 : 0 ≤ x) (x1 : x < 4294967296) (k : Nat) (hk : 2011 < k) (h : (joinL a b).2 = 0) (t : Bool) (ht : t = decide (0 < b.length ∧ (rw_ b 0).f0 ≤ x)) : retargetlaw42_RowsJoined.j1 (k + 1) a b d x true (joinL a b).1 (findL (joinL a b).1 x).1 (findL (joinL a b).1 x).2 a t = some true := by
  obtain ⟨m, rfl⟩ : ∃ m, k = m + 1 := ⟨k - 1, by omega⟩
  obtain ⟨ga, gb, hlt, g, e⟩ := joinL_ok h
  have hl := g.len
  have j2 := joined_j2 h0 d0 d1 x0 x1 m (by omega)
  have f := findL_fl g (x := x) (by omega)
  rw [retargetlaw42_RowsJoined.j1]
  cases t with
  | true =>
    obtain ⟨p1, p2⟩ := of_decide_eq_true ht.symm
    have f1 : findL (joinL a b).1 x = findL b x := by
      rw [f, findL_fl gb (x := x) (by omega), e]
      exact join_find_b hlt p1 p2
    rw [if_pos rfl, find_eq b x (m + 1) (by omega), Option.bind_some, f1, if_pos rfl, if_pos rfl, check_eq _ (m + 1) (.inr (by omega)), g.check, Option.bind_some, if_pos rfl]
    exact j2
  | false =>
    have p := of_decide_eq_false ht.symm
    have f1 : findL (joinL a b).1 x = findL a x := by
      rw [f, findL_fl ga (x := x) (by omega), e]
      refine join_find_a (fun n hn => ?_)
      have p2 : ¬ (rw_ b 0).f0 ≤ x := fun h => p ⟨by omega, h⟩
      by_cases z : n = 0
      · subst z; omega
      · have := gb.mono n 0 (by omega) hn
        omega
    rw [if_neg (by decide), find_eq a x (m + 1) (by omega), Option.bind_some, f1, if_pos rfl, if_pos rfl, check_eq _ (m + 1) (.inr (by omega)), g.check, Option.bind_some, if_pos rfl]
    exact j2
end Go.Proofs.Ytbckdelbkcfjkaa.RoP
namespace Go.Proofs.Ytbckdelbkcfjkaa.Pure
set_option linter.unusedVariables false
open Go.RowKit Go.Proofs.Ytbckdelbkcfjkaa.Ro Go.Proofs.Ytbckdelbkcfjkaa.RoP
theorem RowsJoined (a b : List S72) (d x : Int) (ha : ∀ x ∈ a, (Lit.int .u64 x.f0).wf = true ∧ (Lit.int .i64 x.f1).wf = true) (hb : ∀ x ∈ b, (Lit.int .u64 x.f0).wf = true ∧ (Lit.int .i64 x.f1).wf = true) (hd : (Lit.int .u64 d).wf = true) (hx : (Lit.int .u64 x).wf = true) :
    ∃ k, retargetlaw42_RowsJoined.f k a b d x = some true := by
  refine ⟨9003, ?_⟩
  have h0 := nat0_of ha
  have hd' : 0 ≤ d ∧ d < 18446744073709551616 := by
    simp only [Lit.wf, IntKind.min, IntKind.max, IntKind.bits, IntKind.signed, Bool.false_eq_true, if_false, Bool.and_eq_true, decide_eq_true_eq] at hd
    omega
  have hx' : 0 ≤ x ∧ x < 18446744073709551616 := by
    simp only [Lit.wf, IntKind.min, IntKind.max, IntKind.bits, IntKind.signed, Bool.false_eq_true, if_false, Bool.and_eq_true, decide_eq_true_eq] at hx
    omega
  unfold retargetlaw42_RowsJoined.f
  rw [ralive 9003 (by omega), Option.bind_some]
  by_cases h1 : (a.length : Int) > 2000
  · rw [if_pos h1, retargetlaw42_RowsJoined.j0, if_pos rfl]
  · rw [if_neg h1]
    by_cases h2 : (b.length : Int) > 2000
    · rw [if_pos h2, retargetlaw42_RowsJoined.j0, if_pos rfl]
    · rw [if_neg h2]
      by_cases h3 : x ≥ 4294967296
      · rw [if_pos h3, retargetlaw42_RowsJoined.j0, if_pos rfl]
      · rw [if_neg h3, retargetlaw42_RowsJoined.j0, if_neg (by decide), join_eq a b 9002 (by omega), Option.bind_some]
        by_cases h4 : (joinL a b).2 = 0
        · rw [if_pos h4, find_eq _ x 9002 (by omega), Option.bind_some]
          have j1 := fun t ht => joined_j1 (b := b) h0 hd'.1 hd'.2 hx'.1 (by omega) 9001 (by omega) h4 t ht
          by_cases h5 : 0 < b.length
          · rw [if_pos (by omega), if_pos (by omega), show rd_T72 b 0 = rw_ b 0 from rd_nat b 0]
            refine j1 _ ?_
            by_cases c : (rw_ b 0).f0 ≤ x
            · rw [decide_eq_true (show x ≥ (rw_ b 0).f0 from c), decide_eq_true (And.intro h5 c)]
            · rw [decide_eq_false (show ¬ x ≥ (rw_ b 0).f0 from c), decide_eq_false (fun h : 0 < b.length ∧ (rw_ b 0).f0 ≤ x => c h.2)]
          · rw [if_neg (by omega)]
            exact j1 _ (decide_eq_false (fun h : 0 < b.length ∧ (rw_ b 0).f0 ≤ x => h5 h.1)).symm
        · rw [if_neg h4]
          exact joined_j2 h0 hd'.1 hd'.2 hx'.1 (by omega) 9001 (by omega)
end Go.Proofs.Ytbckdelbkcfjkaa.Pure
