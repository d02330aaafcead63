/- Plain lemmas: varying bytes are read back, and what is read is their only form. -/
import Derived.Test.YtbckdelbkcfjkaaRoPPack
import Derived.Test.YtbckdelbkcfjkaaRoHNumber
namespace Go.Proofs.Ytbckdelbkcfjkaa.RoP
set_option linter.unusedVariables false
set_option linter.unusedSimpArgs false
open Go.RowKit Go.Proofs.Ytbckdelbkcfjkaa.Ro Go.Proofs.YtbckdelbkcfjkaaW.PrintWords Go.Proofs.YtbckdelbkcfjkaaW.PrintLast Go.Proofs.YtbckdelbkcfjkaaW.PrintMore
theorem and127_tab : ∀ x : Fin 256, Go.bits .and .u8 ((x.val : Nat) : Int) 127 = ((x.val % 128 : Nat) : Int) := by decide +kernel
theorem or_nat (x y : Nat) (hx : x < 2 ^ 64) (hy : y < 2 ^ 64) : Go.bits .or .u64 (x : Int) (y : Int) = ((x ||| y : Nat) : Int) :=
  (bits_nat .u64 64 (by decide) (fun n a b => u64_in a (by simpa using b)) x y hx hy).2
theorem numN_eq (n x r : Nat) (hx : x < 256) (hr : r ≤ 4) (hn : n < 2 ^ (7 * r)) : numN (n : Int) (x : Int) r = ((n + x % 128 * 2 ^ (7 * r) : Nat) : Int) := by
  have h1 := and127_tab ⟨x, hx⟩
  have h2 : Go.bits .and .u8 (x : Int) 127 = ((x % 128 : Nat) : Int) := h1
  have hp : 2 ^ (7 * r) ≤ 2 ^ 28 := Nat.pow_le_pow_right (by decide) (by omega)
  have h3 : x % 128 < 128 := Nat.mod_lt _ (by decide)
  have h4 : x % 128 * 2 ^ (7 * r) ≤ 127 * 2 ^ 28 := Nat.mul_le_mul (by omega) hp
  unfold numN
  rw [h2, u64_in (x := ((x % 128 : Nat) : Int)) (by omega) (by omega)]
  have e : ((x % 128 : Nat) : Int) * 2 ^ (7 * r) = ((x % 128 * 2 ^ (7 * r) : Nat) : Int) := by rw [Int.natCast_mul]; congr 1
  rw [e, u64_in (by omega) (by omega), or_nat n _ (by omega) (by omega)]
  congr 1
  rw [Nat.or_comm, Nat.mul_comm (x % 128), ← Nat.two_pow_add_eq_or_of_lt hn, Nat.add_comm]
theorem rd_drop {b : List Int} {i : Nat} {x : Int} {t : List Int} (h : b.drop i = x :: t) : i < b.length ∧ rd b (i : Int) = x ∧ b.drop (i + 1) = t := by
  have hi : i < b.length := by
    by_cases h2 : i < b.length
    · exact h2
    · rw [List.drop_eq_nil_of_le (by omega)] at h; cases h
  rw [List.drop_eq_getElem_cons hi] at h
  injection h with h1 h2
  exact ⟨hi, by simp [rd, hi, h1], h2⟩
theorem drop_rd {b : List Int} {i : Nat} (h : i < b.length) : b.drop i = rd b (i : Int) :: b.drop (i + 1) := by
  rw [List.drop_eq_getElem_cons h]
  simp [rd, h]
theorem pow7 (d : Nat) : 2 ^ (7 * (d + 1)) = 128 * 2 ^ (7 * d) := by
  rw [Nat.mul_add, Nat.pow_add]; omega
theorem varF_fuel : ∀ (d v e : Nat), v < 2 ^ (7 * (d + 1)) → varF (d + 1 + e) v = varF (d + 1) v := by
  intro d
  induction d with
  | zero =>
    intro v e h
    have hv : v < 128 := by simpa using h
    rw [show 0 + 1 + e = e + 1 by omega, varF, varF, if_pos hv, if_pos hv]
  | succ d ih =>
    intro v e h
    rw [show d + 1 + 1 + e = (d + 1 + e) + 1 by omega, varF, varF]
    by_cases hv : v < 128
    · rw [if_pos hv, if_pos hv]
    · have hq : v / 128 < 2 ^ (7 * (d + 1)) := by
        rw [Nat.div_lt_iff_lt_mul (by decide), Nat.mul_comm]
        rw [pow7] at h
        exact h
      rw [if_neg hv, if_neg hv, ih (v / 128) e hq]
/-- What has been written is read. -/
theorem numG_of (b rest : List Int) : ∀ d r n i v : Nat, d + r = 5 → v < 2 ^ (7 * d) → 0 < d → (0 < r → 0 < v) → n < 2 ^ (7 * r) → b.drop i = varF d v ++ rest →
    numG b d r (n : Int) i = ((((n + v * 2 ^ (7 * r) : Nat) : Int), true), i + (varF d v).length) := by
  intro d
  induction d with
  | zero => intro r n i v h1 h2 h3; omega
  | succ d ih =>
    intro r n i v h1 h2 h3 h4 h5 h6
    rw [varF] at h6 ⊢
    by_cases hv : v < 128
    · rw [if_pos hv] at h6 ⊢
      obtain ⟨g1, g2, g3⟩ := rd_drop h6
      rw [numG, if_pos g1, g2, if_neg (fun h => by have := h4 h.1; have := h.2; omega), if_pos (by omega), numN_eq n v r (by omega) (by omega) h5, Nat.mod_eq_of_lt hv]
      rfl
    · rw [if_neg hv] at h6 ⊢
      obtain ⟨g1, g2, g3⟩ := rd_drop h6
      have hd : 0 < d := by
        by_cases e : d = 0
        · subst e; exact absurd (by simpa using h2) hv
        · omega
      rw [pow7] at h2
      have hq : v / 128 < 2 ^ (7 * d) := by
        rw [Nat.div_lt_iff_lt_mul (by decide), Nat.mul_comm]; exact h2
      have hm : v % 128 < 128 := Nat.mod_lt _ (by decide)
      have hb : n + v % 128 * 2 ^ (7 * r) < 2 ^ (7 * (r + 1)) := by
        rw [pow7]
        have : v % 128 * 2 ^ (7 * r) ≤ 127 * 2 ^ (7 * r) := Nat.mul_le_mul_right _ (by omega)
        omega
      have e128 : (v % 128 + 128) % 128 = v % 128 := by omega
      have ih := ih (r + 1) (n + v % 128 * 2 ^ (7 * r)) (i + 1) (v / 128) (by omega) hq hd (fun _ => Nat.div_pos (by omega) (by decide)) hb g3
      rw [numG, if_pos g1, g2, if_neg (fun h => by have := h.2; omega), if_neg (by omega), numN_eq n (v % 128 + 128) r (by omega) (by omega) h5, e128, ih]
      refine Prod.ext (Prod.ext ?_ rfl) ?_
      · show ((_ : Nat) : Int) = _
        congr 1
        rw [pow7, ← Nat.mul_assoc, Nat.mul_comm (v / 128) 128, Nat.add_assoc, ← Nat.add_mul, show v % 128 + 128 * (v / 128) = v by omega]
      · show i + 1 + _ = i + _
        rw [List.length_cons]; omega
theorem number_of (b rest : List Int) (i v : Nat) (hv : v < 2 ^ 35) (h : b.drop i = varF 10 v ++ rest) : numG b 5 0 0 i = (((v : Int), true), i + (varF 10 v).length) := by
  have e : varF 10 v = varF 5 v := varF_fuel 4 v 5 hv
  rw [e] at h ⊢
  have := numG_of b rest 5 0 0 i v rfl hv (by decide) (fun h => absurd h (by decide)) (by decide) h
  simpa using this
/-- A list of bytes. -/
def Bytes (b : List Int) : Prop := ∀ x ∈ b, 0 ≤ x ∧ x < 256
theorem Bytes.at {b : List Int} (h : Bytes b) {i : Nat} (hi : i < b.length) : ∃ x : Nat, rd b (i : Int) = (x : Int) ∧ x < 256 := by
  have h1 := h _ (List.getElem_mem hi)
  obtain ⟨x, hx⟩ := Int.eq_ofNat_of_zero_le h1.1
  refine ⟨x, ?_, by omega⟩
  simp [rd, hi, hx]
/-- What is read is the only form of the number. -/
theorem numG_only (b : List Int) (hb : Bytes b) : ∀ d r n i j : Nat, ∀ w : Int, d + r = 5 → n < 2 ^ (7 * r) → numG b d r (n : Int) i = ((w, true), j) →
    ∃ v : Nat, w = ((n + v * 2 ^ (7 * r) : Nat) : Int) ∧ v < 2 ^ (7 * d) ∧ (0 < r → 0 < v) ∧ b.drop i = varF d v ++ b.drop j ∧ i < j ∧ j ≤ b.length := by
  intro d
  induction d with
  | zero => intro r n i j w h1 h2 h3; rw [numG] at h3; cases h3
  | succ d ih =>
    intro r n i j w h1 h2 h3
    rw [numG] at h3
    by_cases hi : i < b.length
    · rw [if_pos hi] at h3
      obtain ⟨x, hx, hx2⟩ := hb.at hi
      have hdr := drop_rd hi
      rw [hx] at h3 hdr
      by_cases hz : 0 < r ∧ (x : Int) = 0
      · rw [if_pos hz] at h3; cases h3
      · rw [if_neg hz] at h3
        by_cases hx3 : (x : Int) < 128
        · rw [if_pos hx3, numN_eq n x r hx2 (by omega) h2, Nat.mod_eq_of_lt (by omega)] at h3
          simp only [Prod.mk.injEq, and_true] at h3
          obtain ⟨rfl, rfl⟩ := h3
          refine ⟨x, rfl, ?_, fun hr => ?_, ?_, by omega, by omega⟩
          · rw [pow7]; have := Nat.one_le_two_pow (n := 7 * d); omega
          · have : ¬ (x : Int) = 0 := fun e => hz ⟨hr, e⟩
            omega
          · rw [varF, if_pos (by omega), hdr]; rfl
        · rw [if_neg hx3, numN_eq n x r hx2 (by omega) h2] at h3
          have hbd : n + x % 128 * 2 ^ (7 * r) < 2 ^ (7 * (r + 1)) := by
            rw [pow7]
            have : x % 128 * 2 ^ (7 * r) ≤ 127 * 2 ^ (7 * r) := Nat.mul_le_mul_right _ (by omega)
            omega
          obtain ⟨v, g1, g2, g3, g4, g5, g6⟩ := ih (r + 1) _ (i + 1) j w (by omega) hbd h3
          have hv := g3 (by omega)
          refine ⟨x % 128 + 128 * v, ?_, ?_, fun _ => by omega, ?_, by omega, g6⟩
          · rw [g1]
            congr 1
            rw [pow7, Nat.add_mul, Nat.mul_comm 128 v, Nat.mul_assoc]
            omega
          · rw [pow7]; omega
          · rw [varF, if_neg (by omega), hdr, g4, show (x % 128 + 128 * v) % 128 + 128 = x by omega, show (x % 128 + 128 * v) / 128 = v by omega]
            rfl
    · rw [if_neg hi] at h3; cases h3
theorem number_only (b : List Int) (hb : Bytes b) (i j : Nat) (w : Int) (h : numG b 5 0 0 i = ((w, true), j)) : ∃ v : Nat, w = (v : Int) ∧ v < 2 ^ 35 ∧ b.drop i = varF 10 v ++ b.drop j ∧ i < j ∧ j ≤ b.length := by
  obtain ⟨v, g1, g2, _, g4, g5, g6⟩ := numG_only b hb 5 0 0 i j w rfl (by decide) h
  refine ⟨v, by simpa using g1, g2, ?_, g5, g6⟩
  rw [show varF 10 v = varF 5 v from varF_fuel 4 v 5 g2]
  exact g4
end Go.Proofs.Ytbckdelbkcfjkaa.RoP
