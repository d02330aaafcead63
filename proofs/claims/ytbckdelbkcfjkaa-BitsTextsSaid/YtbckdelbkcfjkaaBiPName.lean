/- Plain lemmas: the two tests of names answer alike. -/
import Derived.Test.YtbckdelbkcfjkaaBiPBase
import Derived.Test.YtbckdelbkcfjkaaBiFbitsName
import Derived.Test.YtbckdelbkcfjkaaBiFretargetref01Name
namespace Go.Proofs.Ytbckdelbkcfjkaa.BiP
set_option linter.unusedVariables false
set_option linter.unusedSimpArgs false
open Go.RowKit Go.Proofs.Ytbckdelbkcfjkaa.Bi Go.Proofs.YtbckdelbkcfjkaaW.PrintWords Go.Proofs.YtbckdelbkcfjkaaW.PrintLast Go.Proofs.YtbckdelbkcfjkaaW.PrintMore

/-- A sign of a name at a place. -/
def okc (c : Int) (i : Nat) : Prop := (97 ≤ c ∧ c ≤ 122) ∨ (65 ≤ c ∧ c ≤ 90) ∨ (0 < i ∧ ((48 ≤ c ∧ c ≤ 57) ∨ c = 95))
instance (c : Int) (i : Nat) : Decidable (okc c i) := by unfold okc; infer_instance
def nameL (s : ByteArray) : Nat → Nat → Bool
  | 0, _ => true
  | d + 1, i => if okc (bt s i) i then nameL s d (i + 1) else false
def nameS (s : ByteArray) : Bool := if 1 ≤ s.size ∧ s.size ≤ 24 then nameL s s.size 0 else false
theorem name_step (s : ByteArray) (k i : Nat) (h : i < s.size) (hs : s.size ≤ 24) :
    bits_Name.l0 (k + 1) s (s.size : Int) (i : Int) = if okc (bt s i) i then bits_Name.l0 k s (s.size : Int) ((i + 1 : Nat) : Int) else some false := by
  simp only [bits_Name.l0]
  rw [if_pos (by omega), if_pos (by omega), if_pos (by omega), w_add1 i (by omega)]
  generalize bt s (i : Int) = c
  by_cases ho : okc c i
  · rw [if_pos ho]
    unfold okc at ho
    repeat' split
    all_goals first | rfl | (exfalso; omega)
  · rw [if_neg ho]
    unfold okc at ho
    repeat' split
    all_goals first | rfl | (exfalso; omega)
theorem rname_step (s : ByteArray) (k i : Nat) (h : i < s.size) (hs : s.size ≤ 24) :
    retargetref01_Name.l0 (k + 1) s (i : Int) = if okc (bt s i) i then retargetref01_Name.l0 k s ((i + 1 : Nat) : Int) else some false := by
  simp only [retargetref01_Name.l0]
  rw [if_pos (by omega), if_pos (by omega), w_add1 i (by omega)]
  generalize bt s (i : Int) = c
  by_cases ho : okc c i
  · rw [if_pos ho]
    unfold okc at ho
    repeat' split
    all_goals first | rfl | (exfalso; omega)
  · rw [if_neg ho]
    unfold okc at ho
    repeat' split
    all_goals first | rfl | (exfalso; omega)
theorem name_l0 (s : ByteArray) (hs : s.size ≤ 24) : ∀ d k i, i + d = s.size → d < k → bits_Name.l0 k s (s.size : Int) (i : Int) = some (nameL s d i) ∧ retargetref01_Name.l0 k s (i : Int) = some (nameL s d i) := by
  intro d
  induction d with
  | zero =>
    intro k i h1 h2
    obtain ⟨m, rfl⟩ : ∃ m, k = m + 1 := ⟨k - 1, by omega⟩
    simp only [bits_Name.l0, retargetref01_Name.l0]
    rw [if_neg (by omega), if_neg (by omega)]
    exact ⟨rfl, rfl⟩
  | succ d ih =>
    intro k i h1 h2
    obtain ⟨m, rfl⟩ : ∃ m, k = m + 1 := ⟨k - 1, by omega⟩
    obtain ⟨a, b⟩ := ih m (i + 1) (by omega) (by omega)
    rw [name_step s m i (by omega) hs, rname_step s m i (by omega) hs, a, b]
    have e : nameL s (d + 1) i = if okc (bt s i) i then nameL s d (i + 1) else false := rfl
    rw [e]
    split <;> exact ⟨rfl, rfl⟩
theorem name_eq1 (s : ByteArray) (k : Nat) (hk : 30 ≤ k) : bits_Name.f k s = some (nameS s) := by
  obtain ⟨m, rfl⟩ : ∃ m, k = m + 1 := ⟨k - 1, by omega⟩
  unfold bits_Name.f nameS
  by_cases h0 : s.size < 1
  · rw [if_pos (by omega), if_neg (by omega)]
    simp only [bits_Name.j0]
    rw [if_pos trivial]
  · rw [if_neg (by omega)]
    by_cases h1 : s.size > 24
    · rw [decide_eq_true (show (s.size : Int) > 24 by omega), if_neg (by omega)]
      simp only [bits_Name.j0]
      rw [if_pos trivial]
    · rw [decide_eq_false (show ¬ (s.size : Int) > 24 by omega), if_pos (by omega)]
      simp only [bits_Name.j0]
      rw [if_neg (by decide)]
      exact (name_l0 s (by omega) s.size m 0 (by omega) (by omega)).1
theorem name_eq2 (s : ByteArray) (k : Nat) (hk : 30 ≤ k) : retargetref01_Name.f k s = some (nameS s) := by
  obtain ⟨m, rfl⟩ : ∃ m, k = m + 1 := ⟨k - 1, by omega⟩
  unfold retargetref01_Name.f nameS
  by_cases h0 : s.size < 1
  · rw [if_pos (by omega), if_neg (by omega)]
    simp only [retargetref01_Name.j0]
    rw [if_pos trivial]
  · rw [if_neg (by omega)]
    by_cases h1 : s.size > 24
    · rw [decide_eq_true (show (s.size : Int) > 24 by omega), if_neg (by omega)]
      simp only [retargetref01_Name.j0]
      rw [if_pos trivial]
    · rw [decide_eq_false (show ¬ (s.size : Int) > 24 by omega), if_pos (by omega)]
      simp only [retargetref01_Name.j0]
      rw [if_neg (by decide)]
      exact (name_l0 s (by omega) s.size m 0 (by omega) (by omega)).2
end Go.Proofs.Ytbckdelbkcfjkaa.BiP
