/- Plain lemmas: what the checks and searches of a table of rows answer, in plain words. -/
import Derived.Test.YtbckdelbkcfjkaaRoFrowsCheck
import Derived.Test.YtbckdelbkcfjkaaRoFretargetref42Check
import Derived.Test.YtbckdelbkcfjkaaRoFrowsFind
import Derived.Test.YtbckdelbkcfjkaaRoFretargetref42Find
namespace Go.Proofs.Ytbckdelbkcfjkaa.RoP
open Go.RowKit Go.Proofs.Ytbckdelbkcfjkaa.Ro Go.Proofs.YtbckdelbkcfjkaaW.PrintWords Go.Proofs.YtbckdelbkcfjkaaW.PrintLast

/-- Row i. -/
def rw_ (l : List S72) (i : Nat) : S72 := l.getD i z72
theorem rd_nat (l : List S72) (i : Nat) : rd_T72 l (i : Int) = rw_ l i := by simp [rd_T72, rw_]
/-- Row i is as the table's rules ask. -/
def okAt (l : List S72) (i : Nat) : Prop :=
  (rw_ l i).f0 < 4294967296 ∧ 1 ≤ (rw_ l i).f1 ∧ (rw_ l i).f1 ≤ 1048576 ∧ (0 < i → (rw_ l (i - 1)).f0 < (rw_ l i).f0 ∧ (rw_ l i).f1 ≠ (rw_ l (i - 1)).f1)
instance (l : List S72) (i : Nat) : Decidable (okAt l i) := by unfold okAt; infer_instance
theorem okAt_mk {l : List S72} {i : Nat} (h1 : (rw_ l i).f0 < 4294967296) (h2 : 1 ≤ (rw_ l i).f1) (h3 : (rw_ l i).f1 ≤ 1048576) (h4 : 0 < i → (rw_ l (i - 1)).f0 < (rw_ l i).f0 ∧ (rw_ l i).f1 ≠ (rw_ l (i - 1)).f1) : okAt l i := by
  unfold okAt; exact ⟨h1, h2, h3, h4⟩
theorem okAt.lo {l : List S72} {i : Nat} (h : okAt l i) : (rw_ l i).f0 < 4294967296 := h.1
theorem okAt.l1 {l : List S72} {i : Nat} (h : okAt l i) : 1 ≤ (rw_ l i).f1 := h.2.1
theorem okAt.l2 {l : List S72} {i : Nat} (h : okAt l i) : (rw_ l i).f1 ≤ 1048576 := h.2.2.1
theorem okAt.lt {l : List S72} {i : Nat} (h : okAt l i) (hi : 0 < i) : (rw_ l (i - 1)).f0 < (rw_ l i).f0 := (h.2.2.2 hi).1
theorem okAt.ne {l : List S72} {i : Nat} (h : okAt l i) (hi : 0 < i) : (rw_ l i).f1 ≠ (rw_ l (i - 1)).f1 := (h.2.2.2 hi).2
def chk (l : List S72) : Nat → Nat → Int
  | 0, _ => 0
  | d + 1, i => if okAt l i then chk l d (i + 1) else 8
theorem chk_succ (l : List S72) (d i : Nat) : chk l (d + 1) i = if okAt l i then chk l d (i + 1) else 8 := rfl
def checkL (l : List S72) : Int := if 1000 < l.length then 4 else chk l l.length 0

theorem wrap_small {x : Int} (h0 : -9223372036854775808 ≤ x) (h1 : x < 9223372036854775808) : wrap64 x = x := by
  unfold wrap64; omega

theorem w_add1 (i : Nat) (h : i < 4611686018427387904) : wrap64 ((i : Int) + 1) = ((i + 1 : Nat) : Int) := by unfold wrap64; omega
theorem w_sub1 (i : Nat) (h0 : 0 < i) (h : i < 4611686018427387904) : wrap64 ((i : Int) - 1) = ((i - 1 : Nat) : Int) := by unfold wrap64; omega
theorem w_add (i j : Nat) (h : i + j < 4611686018427387904) : wrap64 ((i : Int) + (j : Int)) = ((i + j : Nat) : Int) := by unfold wrap64; omega
theorem w_half (i : Nat) (h : i < 4611686018427387904) : wrap64 (Int.tdiv (i : Int) 2) = ((i / 2 : Nat) : Int) := by
  rw [Int.tdiv_eq_ediv_of_nonneg (Int.natCast_nonneg _)]; unfold wrap64; omega
theorem w_mid (i j m : Nat) (hm : m = (i + j) / 2) (h : i + j < 4611686018427387904) : wrap64 (Int.tdiv (wrap64 ((i : Int) + (j : Int))) 2) = (m : Int) := by
  rw [w_add i j h, w_half _ h, hm]

theorem check_l0 (l : List S72) (hl : l.length ≤ 1000) : ∀ d k i, i + d = l.length → 2 * d < k →
    rows_Check.l0 k l l (l.length : Int) (i : Int) = some (chk l d i) := by
  intro d
  induction d with
  | zero =>
    intro k i hi hk
    obtain ⟨m, rfl⟩ : ∃ m, k = m + 1 := ⟨k - 1, by omega⟩
    simp only [rows_Check.l0]
    rw [if_neg (by omega)]
    rfl
  | succ d ih =>
    intro k i hi hk
    obtain ⟨m, rfl⟩ : ∃ m, k = m + 1 + 1 := ⟨k - 2, by omega⟩
    have ih' := ih m (i + 1) (by omega) (by omega)
    simp only [rows_Check.l0, rows_Check.j1]
    rw [if_pos (by omega), if_pos (by omega), if_pos (by omega), rd_nat, w_add1 i (by omega), ih']
    rw [chk_succ]
    by_cases hp : 0 < i
    · rw [w_sub1 i hp (by omega), rd_nat]
      rw [if_pos (show (i : Int) > 0 by omega), if_pos (show (0 : Int) ≤ ((i - 1 : Nat) : Int) by omega), if_pos (show ((i - 1 : Nat) : Int) < (l.length : Int) by omega)]
      by_cases h0 : (rw_ l i).f0 ≥ 4294967296
      · rw [if_pos h0, if_pos trivial, if_neg (fun h => by have := okAt.lo h; omega)]
      rw [if_neg h0]
      by_cases h1 : (rw_ l i).f1 < 1
      · rw [if_pos h1, if_pos trivial, if_neg (fun h => by have := okAt.l1 h; omega)]
      rw [if_neg h1]
      by_cases h2 : (rw_ l i).f1 > 1048576
      · rw [decide_eq_true h2, if_pos rfl, if_neg (fun h => by have := okAt.l2 h; omega)]
      rw [decide_eq_false h2, if_neg (by simp)]
      by_cases h3 : (rw_ l i).f0 ≤ (rw_ l (i - 1)).f0
      · rw [if_pos h3, if_neg (fun h => by have := okAt.lt h hp; omega)]
      rw [if_neg h3]
      by_cases h4 : (rw_ l i).f1 = (rw_ l (i - 1)).f1
      · rw [if_pos h4, if_neg (fun h => okAt.ne h hp h4)]
      rw [if_neg h4, if_pos (okAt_mk (by omega) (by omega) (by omega) fun _ => ⟨by omega, h4⟩)]
    · rw [if_neg (show ¬ (i : Int) > 0 by omega)]
      by_cases h0 : (rw_ l i).f0 ≥ 4294967296
      · rw [if_pos h0, if_pos trivial, if_neg (fun h => by have := okAt.lo h; omega)]
      rw [if_neg h0]
      by_cases h1 : (rw_ l i).f1 < 1
      · rw [if_pos h1, if_pos trivial, if_neg (fun h => by have := okAt.l1 h; omega)]
      rw [if_neg h1]
      by_cases h2 : (rw_ l i).f1 > 1048576
      · rw [decide_eq_true h2, if_pos rfl, if_neg (fun h => by have := okAt.l2 h; omega)]
      rw [decide_eq_false h2, if_neg (by simp), if_pos (okAt_mk (by omega) (by omega) (by omega) fun h => absurd h hp)]

theorem check_eq (l : List S72) (k : Nat) (hk : 2 * l.length < k ∨ 2000 < k) : rows_Check.f k l = some (checkL l) := by
  unfold rows_Check.f checkL
  by_cases h : 1000 < l.length
  · rw [if_pos (by omega), if_pos h]
  · rw [if_neg (by omega), if_neg h]; exact check_l0 l (by omega) l.length k 0 (by omega) (by omega)

theorem rcheck_l0 (l : List S72) (hl : l.length ≤ 1000) : ∀ d k i, i + d = l.length → d < k →
    retargetref42_Check.l0 k l (i : Int) = some (chk l d i) := by
  intro d
  induction d with
  | zero =>
    intro k i hi hk
    obtain ⟨m, rfl⟩ : ∃ m, k = m + 1 := ⟨k - 1, by omega⟩
    simp only [retargetref42_Check.l0]
    rw [if_neg (by omega)]
    rfl
  | succ d ih =>
    intro k i hi hk
    obtain ⟨m, rfl⟩ : ∃ m, k = m + 1 := ⟨k - 1, by omega⟩
    have ih' := ih m (i + 1) (by omega) (by omega)
    simp only [retargetref42_Check.l0]
    rw [if_pos (by omega), if_pos (by omega), rd_nat, w_add1 i (by omega), ih']
    rw [chk_succ]
    by_cases h0 : (rw_ l i).f0 ≥ 4294967296
    · rw [if_pos h0, if_neg (fun h => by have := okAt.lo h; omega)]
    rw [if_neg h0]
    by_cases h1 : (rw_ l i).f1 < 1
    · rw [if_pos h1, if_neg (fun h => by have := okAt.l1 h; omega)]
    rw [if_neg h1]
    by_cases h2 : (rw_ l i).f1 > 1048576
    · rw [if_pos h2, if_neg (fun h => by have := okAt.l2 h; omega)]
    rw [if_neg h2]
    by_cases hp : 0 < i
    · rw [w_sub1 i hp (by omega), rd_nat, if_pos (show (i : Int) > 0 by omega), if_pos (show (0 : Int) ≤ ((i - 1 : Nat) : Int) by omega), if_pos (show ((i - 1 : Nat) : Int) < (l.length : Int) by omega)]
      by_cases h3 : (rw_ l i).f0 ≤ (rw_ l (i - 1)).f0
      · rw [if_pos h3, if_neg (fun h => by have := okAt.lt h hp; omega)]
      rw [if_neg h3]
      by_cases h4 : (rw_ l i).f1 = (rw_ l (i - 1)).f1
      · rw [if_pos h4, if_neg (fun h => okAt.ne h hp h4)]
      rw [if_neg h4, if_pos (okAt_mk (by omega) (by omega) (by omega) fun _ => ⟨by omega, h4⟩)]
    · rw [if_neg (show ¬ (i : Int) > 0 by omega), if_pos (okAt_mk (by omega) (by omega) (by omega) fun h => absurd h hp)]

theorem rcheck_eq (l : List S72) (k : Nat) (hk : l.length < k ∨ 1000 < k) : retargetref42_Check.f k l = some (checkL l) := by
  unfold retargetref42_Check.f checkL
  by_cases h : 1000 < l.length
  · rw [if_pos (by omega), if_pos h]
  · rw [if_neg (by omega), if_neg h]; exact rcheck_l0 l (by omega) l.length k 0 (by omega) (by omega)

/-- A check that answers 0: every row is as the rules ask. -/
theorem chk_zero (l : List S72) : ∀ d i, chk l d i = 0 → ∀ j, i ≤ j → j < i + d → okAt l j := by
  intro d
  induction d with
  | zero => intro i _ j h1 h2; omega
  | succ d ih =>
    intro i h j h1 h2
    rw [chk_succ] at h
    by_cases ho : okAt l i
    · rw [if_pos ho] at h
      by_cases e : j = i
      · subst e; exact ho
      · exact ih (i + 1) h j (by omega) (by omega)
    · rw [if_neg ho] at h; omega
theorem chk_of (l : List S72) : ∀ d i, (∀ j, i ≤ j → j < i + d → okAt l j) → chk l d i = 0 := by
  intro d
  induction d with
  | zero => intro i _; rfl
  | succ d ih =>
    intro i h
    rw [chk_succ]
    rw [if_pos (h i (by omega) (by omega))]
    exact ih (i + 1) fun j h1 h2 => h j (by omega) (by omega)
theorem chk_two (l : List S72) : ∀ d i, chk l d i = 0 ∨ chk l d i = 8 := by
  intro d
  induction d with
  | zero => intro i; exact .inl rfl
  | succ d ih => intro i; rw [chk_succ]; split; exact ih _; exact .inr rfl

structure Good (l : List S72) : Prop where
  len : l.length ≤ 1000
  ok : ∀ j, j < l.length → okAt l j
theorem good_of {l : List S72} (h : checkL l = 0) : Good l := by
  unfold checkL at h
  by_cases hl : 1000 < l.length
  · rw [if_pos hl] at h; omega
  · rw [if_neg hl] at h; exact ⟨by omega, fun j hj => chk_zero l _ _ h j (by omega) (by omega)⟩
theorem Good.check {l : List S72} (h : Good l) : checkL l = 0 := by
  have := h.len
  unfold checkL; rw [if_neg (by omega)]; exact chk_of l _ _ fun j _ hj => h.ok j (by omega)
theorem checkL_cases (l : List S72) : checkL l = 0 ∨ checkL l = 8 ∨ checkL l = 4 := by
  unfold checkL; split
  · exact .inr (.inr rfl)
  · rcases chk_two l l.length 0 with h | h
    · exact .inl h
    · exact .inr (.inl h)

theorem Good.mono {l : List S72} (g : Good l) : ∀ j i, i < j → j < l.length → (rw_ l i).f0 < (rw_ l j).f0 := by
  intro j
  induction j with
  | zero => intro i h; omega
  | succ j ih =>
    intro i h hj
    have h1 := okAt.lt (g.ok (j + 1) hj) (by omega)
    simp only [Nat.add_sub_cancel] at h1
    by_cases e : i = j
    · subst e; exact h1
    · have := ih i (by omega) (by omega); omega

/-- How many rows are not after an address. -/
def upto (l : List S72) (a : Int) : Nat := (l.filter fun r => decide (r.f0 ≤ a)).length

/-- The last one of the first n rows that is not after an address. -/
def lastAt (l : List S72) (a : Int) : Nat → Option Nat
  | 0 => none
  | n + 1 => if (rw_ l n).f0 ≤ a then some n else lastAt l a n
theorem lastAt_succ (l : List S72) (a : Int) (n : Nat) : lastAt l a (n + 1) = if (rw_ l n).f0 ≤ a then some n else lastAt l a n := rfl
/-- What a search that has come to row i answers. -/
def ansOf (l : List S72) : Option Nat → Int × Int
  | none => (0, 6)
  | some i => ((rw_ l i).f1, 0)
def findL (l : List S72) (a : Int) : Int × Int :=
  if checkL l ≠ 0 then (0, checkL l) else if a ≥ 4294967296 then (0, 2) else ansOf l (lastAt l a l.length)

theorem lastAt_some (l : List S72) (a : Int) : ∀ n i, i < n → (rw_ l i).f0 ≤ a → (∀ j, i < j → j < n → a < (rw_ l j).f0) → lastAt l a n = some i := by
  intro n
  induction n with
  | zero => intro i h; omega
  | succ n ih =>
    intro i h h1 h2
    rw [lastAt_succ]
    by_cases e : i = n
    · subst e; rw [if_pos h1]
    · rw [if_neg (by have := h2 n (by omega) (by omega); omega)]
      exact ih i (by omega) h1 fun j a b => h2 j a (by omega)
theorem lastAt_none (l : List S72) (a : Int) : ∀ n, (∀ j, j < n → a < (rw_ l j).f0) → lastAt l a n = none := by
  intro n
  induction n with
  | zero => intro _; rfl
  | succ n ih =>
    intro h
    rw [lastAt_succ]
    rw [if_neg (by have := h n (by omega); omega)]
    exact ih fun j a => h j (by omega)

theorem find_l0 (l : List S72) (g : Good l) (a : Int) : ∀ d k lo hi, lo ≤ hi → hi ≤ l.length → hi - lo ≤ d → d < k →
    (∀ j, j < lo → (rw_ l j).f0 ≤ a) → (∀ j, hi ≤ j → j < l.length → a < (rw_ l j).f0) →
    rows_Find.l0 k l a (lo : Int) (hi : Int) = some (ansOf l (lastAt l a l.length)) := by
  have hlen := g.len
  have fin : ∀ k lo, 0 < k → lo ≤ l.length → (∀ j, j < lo → (rw_ l j).f0 ≤ a) → (∀ j, lo ≤ j → j < l.length → a < (rw_ l j).f0) →
      rows_Find.l0 k l a (lo : Int) (lo : Int) = some (ansOf l (lastAt l a l.length)) := by
    intro k lo hk h2 ha hb
    obtain ⟨m, rfl⟩ : ∃ m, k = m + 1 := ⟨k - 1, by omega⟩
    simp only [rows_Find.l0]
    rw [if_neg (by omega)]
    by_cases e : lo = 0
    · subst e
      rw [if_pos (by rfl), lastAt_none l a _ fun j hj => hb j (by omega) hj]; rfl
    · rw [if_neg (by omega), w_sub1 lo (by omega) (by omega), if_pos (by omega), if_pos (by omega), rd_nat,
        lastAt_some l a _ (lo - 1) (by omega) (ha _ (by omega)) fun j h1 h2 => hb j (by omega) h2]; rfl
  intro d
  induction d with
  | zero =>
    intro k lo hi h1 h2 hd hk ha hb
    obtain rfl : lo = hi := by omega
    exact fin k lo (by omega) h2 ha hb
  | succ d ih =>
    intro k lo hi h1 h2 hd hk ha hb
    by_cases e : lo = hi
    · subst e; exact fin k lo (by omega) h2 ha hb
    obtain ⟨m, rfl⟩ : ∃ m, k = m + 1 := ⟨k - 1, by omega⟩
    simp only [rows_Find.l0]
    obtain ⟨md, hmd⟩ : ∃ md, md = (lo + hi) / 2 := ⟨_, rfl⟩
    have h3 : lo ≤ md := by omega
    have h4 : md < hi := by omega
    rw [if_pos (by omega), w_mid lo hi md hmd (by omega), if_pos (by omega), if_pos (by omega), rd_nat, w_add1 md (by omega)]
    clear hmd
    by_cases hc : (rw_ l md).f0 ≤ a
    · rw [if_pos hc]
      have ha' : ∀ j, j < md + 1 → (rw_ l j).f0 ≤ a := by
        intro j hj
        by_cases ej : j = md
        · subst ej; exact hc
        · have := g.mono md j (show j < md by omega) (by omega); omega
      exact ih m (md + 1) hi (by omega) h2 (by omega) (by omega) ha' hb
    · rw [if_neg hc]
      have hb' : ∀ j, md ≤ j → j < l.length → a < (rw_ l j).f0 := by
        intro j h5 h6
        by_cases ej : j = md
        · subst ej; omega
        · have := g.mono j md (show md < j by omega) h6; omega
      exact ih m lo md (by omega) (by omega) (by omega) (by omega) ha hb'

theorem find_eq (l : List S72) (a : Int) (k : Nat) (hk : 2000 < k) : rows_Find.f k l a = some (findL l a) := by
  unfold rows_Find.f findL
  rw [check_eq l k (.inr hk)]
  simp only [Option.bind_some]
  by_cases h : checkL l = 0
  · have g := good_of h
    have hl := g.len
    rw [if_pos h, if_neg (not_not_intro h)]
    by_cases h2 : a ≥ 4294967296
    · rw [if_pos h2, if_pos h2]
    · rw [if_neg h2, if_neg h2]
      exact find_l0 l g a l.length k 0 l.length (by omega) (by omega) (by omega) (by omega) (fun j h => by omega) (fun j h1 h2 => by omega)
  · rw [if_neg h, if_pos h]

theorem rfind_l0 (l : List S72) (hl : l.length ≤ 1000) (a : Int) : ∀ n k, n ≤ l.length → n < k →
    retargetref42_Find.l0 k l a ((n : Int) - 1) = some (ansOf l (lastAt l a n)) := by
  intro n
  induction n with
  | zero =>
    intro k _ hk
    obtain ⟨m, rfl⟩ : ∃ m, k = m + 1 := ⟨k - 1, by omega⟩
    simp only [retargetref42_Find.l0]
    rw [if_neg (by omega)]
    rfl
  | succ n ih =>
    intro k hn hk
    obtain ⟨m, rfl⟩ : ∃ m, k = m + 1 := ⟨k - 1, by omega⟩
    have e : ((n + 1 : Nat) : Int) - 1 = (n : Int) := by omega
    rw [e]
    simp only [retargetref42_Find.l0]
    rw [if_pos (by omega), if_pos (by omega), if_pos (by omega), rd_nat, wrap_small (by omega) (by omega), ih m (by omega) (by omega)]
    rw [lastAt_succ]
    split <;> rfl

theorem rfind_eq (l : List S72) (a : Int) (k : Nat) (hk : 2000 < k) : retargetref42_Find.f k l a = some (findL l a) := by
  obtain ⟨m, rfl⟩ : ∃ m, k = m + 1 + 1 := ⟨k - 2, by omega⟩
  unfold retargetref42_Find.f findL
  rw [rcheck_eq l _ (.inr (by omega))]
  simp only [Option.bind_some]
  by_cases h : checkL l = 0
  · have g := good_of h
    have hl := g.len
    rw [if_pos h, if_neg (not_not_intro h)]
    by_cases h2 : a ≥ 4294967296
    · rw [decide_eq_true h2, if_pos h2]
      simp only [retargetref42_Find.j0, retargetref42_Find.j1]
      rw [if_pos trivial, if_neg (by omega)]
    · rw [decide_eq_false h2, if_neg h2]
      simp only [retargetref42_Find.j0, retargetref42_Find.j1]
      rw [if_neg (by simp), if_pos h, wrap_small (by omega) (by omega)]
      exact rfind_l0 l hl a l.length m (by omega) (by omega)
  · rw [if_neg h, if_pos h]
    simp only [retargetref42_Find.j0, retargetref42_Find.j1]
    rw [if_neg (by simp), if_neg h]
end Go.Proofs.Ytbckdelbkcfjkaa.RoP
