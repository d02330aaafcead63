/- Plain lemmas: the reference's Unpack: it reads packed bytes back, and always answers. -/
import Derived.Test.YtbckdelbkcfjkaaRoPAlive
import Derived.Test.YtbckdelbkcfjkaaRoPPackR
import Derived.Test.YtbckdelbkcfjkaaRoFretargetref42Unpack
namespace Go.Proofs.Ytbckdelbkcfjkaa.RoP
set_option linter.unusedVariables false
set_option linter.unusedSimpArgs false
open Go.RowKit Go.Proofs.Ytbckdelbkcfjkaa.Ro Go.Proofs.YtbckdelbkcfjkaaW.PrintWords Go.Proofs.YtbckdelbkcfjkaaW.PrintLast Go.Proofs.YtbckdelbkcfjkaaW.PrintMore
/-! ### SameBytes -/
theorem sameB_any (a b : List Int) (he : a.length = b.length) (hl : a.length ≤ 4611686018427387000) : ∀ d k i, i + d = a.length → d < k → ∃ t, retargetref42_SameBytes.l0 k a b (i : Int) = some t ∧ (t = true → a.drop i = b.drop i) := by
  intro d
  induction d with
  | zero =>
    intro k i h1 h2
    obtain ⟨m, rfl⟩ : ∃ m, k = m + 1 := ⟨k - 1, by omega⟩
    rw [retargetref42_SameBytes.l0, if_neg (by omega)]
    exact ⟨true, rfl, fun _ => by rw [List.drop_eq_nil_of_le (by omega), List.drop_eq_nil_of_le (by omega)]⟩
  | succ d ih =>
    intro k i h1 h2
    obtain ⟨m, rfl⟩ : ∃ m, k = m + 1 := ⟨k - 1, by omega⟩
    rw [retargetref42_SameBytes.l0, if_pos (by omega), if_pos (by omega), if_pos (by omega), w_add1 i (by omega)]
    by_cases h : rd a (i : Int) = rd b (i : Int)
    · rw [if_pos h]
      obtain ⟨t, h3, h4⟩ := ih m (i + 1) (by omega) (by omega)
      exact ⟨t, h3, fun ht => by rw [drop_rd (show i < a.length by omega), drop_rd (show i < b.length by omega), h, h4 ht]⟩
    · rw [if_neg h]; exact ⟨false, rfl, fun h => by cases h⟩
theorem sameB_some (a b : List Int) (hl : a.length ≤ 4611686018427387000) (k : Nat) (hk : a.length < k) : ∃ t, retargetref42_SameBytes.f k a b = some t ∧ (t = true → a = b) := by
  unfold retargetref42_SameBytes.f
  by_cases h : (a.length : Int) = (b.length : Int)
  · rw [if_pos h]
    obtain ⟨t, h1, h2⟩ := sameB_any a b (by omega) hl a.length k 0 (by omega) hk
    exact ⟨t, h1, fun ht => by simpa using h2 ht⟩
  · rw [if_neg h]; exact ⟨false, rfl, fun h => by cases h⟩
/-! ### numbers -/
theorem read_n (n x r : Nat) (hr : r ≤ 5) (hx : x < 256) (hn : n < 2 ^ (7 * r)) : IntKind.u64.wrap ((n : Int) + (shl .u64 (IntKind.u64.wrap (Int.tmod (x : Int) 128)) (IntKind.u64.wrap (wrap64 (7 * (r : Int)))))) = ((n + x % 128 * 2 ^ (7 * r) : Nat) : Int) := by
  have e1 : Int.tmod (x : Int) 128 = ((x % 128 : Nat) : Int) := by rw [Int.tmod_eq_emod_of_nonneg (Int.natCast_nonneg _)]; omega
  have e2 : wrap64 (7 * (r : Int)) = ((7 * r : Nat) : Int) := (Go.Proofs.Ytbckdelbkcfjkaa.RoP.wrap_small (by omega) (by omega)).trans (by omega)
  have hp : 2 ^ (7 * r) ≤ 2 ^ 35 := Nat.pow_le_pow_right (by decide) (by omega)
  have h3 : x % 128 < 128 := Nat.mod_lt _ (by decide)
  have h4 : x % 128 * 2 ^ (7 * r) ≤ 127 * 2 ^ 35 := Nat.mul_le_mul (by omega) hp
  have e3 : shl .u64 ((x % 128 : Nat) : Int) ((7 * r : Nat) : Int) = ((x % 128 * 2 ^ (7 * r) : Nat) : Int) := by
    unfold shl
    rw [show min ((7 * r : Nat) : Int).toNat IntKind.u64.bits = 7 * r from Nat.min_eq_left (show 7 * r ≤ 64 by omega)]
    have e : ((x % 128 : Nat) : Int) * 2 ^ (7 * r) = ((x % 128 * 2 ^ (7 * r) : Nat) : Int) := by rw [Int.natCast_mul]; congr 1
    rw [e, u64_in (by omega) (by omega)]
  rw [e1, e2, u64_in (x := ((x % 128 : Nat) : Int)) (by omega) (by omega), u64_in (x := ((7 * r : Nat) : Int)) (by omega) (by omega), e3, u64_in (by omega) (by omega)]
  omega
theorem read_of (b rest : List Int) (hb : b.length ≤ 1000000) : ∀ d r n at0 v k : Nat, d + r = 6 → v < 2 ^ (7 * d) → 0 < d → n < 2 ^ (7 * r) → b.drop (at0 + r) = varF d v ++ rest → 2 * d + 5 < k →
    retargetref42_read.l0 k b (at0 : Int) (n : Int) (r : Int) = some (((n + v * 2 ^ (7 * r) : Nat) : Int), ((at0 + r + (varF d v).length : Nat) : Int), true) := by
  intro d
  induction d with
  | zero => intro r n at0 v k h1 h2 h3; omega
  | succ d ih =>
    intro r n at0 v k h1 h2 h3 h5 h6 hk
    obtain ⟨m, rfl⟩ : ∃ m, k = m + 2 := ⟨k - 2, by omega⟩
    rw [varF] at h6 ⊢
    have hw : wrap64 ((at0 : Int) + (r : Int)) = ((at0 + r : Nat) : Int) := by
      have : (at0 + r) < b.length := by
        by_cases hv : v < 128
        · rw [if_pos hv] at h6; exact (rd_drop h6).1
        · rw [if_neg hv] at h6; exact (rd_drop h6).1
      exact w_add at0 r (by omega)
    rw [show m + 2 = (m + 1) + 1 from rfl, retargetref42_read.l0, if_pos (by omega), hw]
    by_cases hv : v < 128
    · rw [if_pos hv] at h6 ⊢
      obtain ⟨g1, g2, g3⟩ := rd_drop h6
      have hn := read_n n v r (by omega) (by omega) h5
      rw [decide_eq_true (by omega), retargetref42_read.j1, if_pos rfl, hw, if_pos (by omega), if_pos (by omega), if_pos (by exact (u64_range _).1), g2, if_pos (by omega), hn, Nat.mod_eq_of_lt hv, w_add1 (at0 + r) (by omega)]
      rfl
    · rw [if_neg hv] at h6 ⊢
      obtain ⟨g1, g2, g3⟩ := rd_drop h6
      have hd : 0 < d := by
        by_cases e : d = 0
        · subst e; exact absurd (by simpa using h2) hv
        · omega
      rw [pow7] at h2
      have hq : v / 128 < 2 ^ (7 * d) := by
        rw [Nat.div_lt_iff_lt_mul (by decide), Nat.mul_comm]; exact h2
      have hm : v % 128 < 128 := Nat.mod_lt _ (by decide)
      have hn := read_n n (v % 128 + 128) r (by omega) (by omega) h5
      have e128 : (v % 128 + 128) % 128 = v % 128 := by omega
      rw [e128] at hn
      have hbd : n + v % 128 * 2 ^ (7 * r) < 2 ^ (7 * (r + 1)) := by
        rw [pow7]
        have : v % 128 * 2 ^ (7 * r) ≤ 127 * 2 ^ (7 * r) := Nat.mul_le_mul_right _ (by omega)
        omega
      have ih := ih (r + 1) (n + v % 128 * 2 ^ (7 * r)) at0 (v / 128) m (by omega) hq hd hbd g3 (by omega)
      rw [decide_eq_true (by omega), retargetref42_read.j1, if_pos rfl, hw, if_pos (by omega), if_pos (by omega), if_pos (by exact (u64_range _).1), g2, if_neg (by omega), hn, w_add1 r (by omega), ih]
      congr 2
      · show ((_ : Nat) : Int) = _
        congr 1
        rw [pow7, ← Nat.mul_assoc, Nat.mul_comm (v / 128) 128, Nat.add_assoc, ← Nat.add_mul, show v % 128 + 128 * (v / 128) = v by omega]
      · congr 1
        show ((_ : Nat) : Int) = _
        congr 1
        rw [List.length_cons]; omega
theorem rread_of (b rest : List Int) (hb : b.length ≤ 1000000) (i v k : Nat) (hv : v < 2 ^ 35) (h : b.drop i = varF 10 v ++ rest) (hk : 20 < k) : retargetref42_read.f k b (i : Int) = some ((v : Int), ((i + (varF 10 v).length : Nat) : Int), true) := by
  have e : varF 10 v = varF 6 v := varF_fuel 5 v 4 (Nat.lt_of_lt_of_le hv (by decide))
  rw [e] at h ⊢
  have := read_of b rest hb 6 0 0 i v k rfl (Nat.lt_of_lt_of_le hv (by decide)) (by decide) (by decide) h (by omega)
  unfold retargetref42_read.f
  simpa using this
theorem read_some (b : List Int) (hb : b.length ≤ 1000000) : ∀ d r at0 k : Nat, ∀ n : Int, d + r = 6 → at0 ≤ 1000000 → 2 * d + 5 < k →
    ∃ w j ok, retargetref42_read.l0 k b (at0 : Int) n (r : Int) = some (w, (j : Int), ok) ∧ (ok = true → ∃ q : Nat, j = (q : Int) ∧ at0 < q ∧ q ≤ b.length) := by
  intro d
  induction d with
  | zero =>
    intro r at0 k n h1 h2 h3
    obtain ⟨m, rfl⟩ : ∃ m, k = m + 2 := ⟨k - 2, by omega⟩
    rw [show m + 2 = (m + 1) + 1 from rfl, retargetref42_read.l0, if_neg (by omega), retargetref42_read.j1, if_neg (by decide)]
    exact ⟨_, _, _, rfl, fun h => by cases h⟩
  | succ d ih =>
    intro r at0 k n h1 h2 h3
    obtain ⟨m, rfl⟩ : ∃ m, k = m + 2 := ⟨k - 2, by omega⟩
    have hw : wrap64 ((at0 : Int) + (r : Int)) = ((at0 + r : Nat) : Int) := w_add at0 r (by omega)
    rw [show m + 2 = (m + 1) + 1 from rfl, retargetref42_read.l0, if_pos (by omega), hw, retargetref42_read.j1]
    by_cases hl : ((at0 + r : Nat) : Int) < (b.length : Int)
    · rw [decide_eq_true hl, if_pos rfl, hw, if_pos (by omega), if_pos hl, if_pos (by exact (u64_range _).1)]
      by_cases hx : rd b ((at0 + r : Nat) : Int) < 128
      · rw [if_pos hx, w_add1 (at0 + r) (by omega)]
        exact ⟨_, _, _, rfl, fun _ => ⟨at0 + r + 1, rfl, by omega, by omega⟩⟩
      · rw [if_neg hx, w_add1 r (by omega)]
        exact ih (r + 1) at0 m _ (by omega) h2 (by omega)
    · rw [decide_eq_false hl, if_neg (by decide)]
      exact ⟨_, _, _, rfl, fun h => by cases h⟩
/-! ### the loop -/
/-- What the loop's end answers: the rows, if they pack to the same bytes. -/
theorem runpack_end (b : List Int) (hb : b.length ≤ 1000000) (l : List S72) (a f p : Int) (k : Nat) (hk : 1000010 < k) :
    ∃ r, retargetref42_Unpack.j1 (k + 1) b l a f p false = some r ∧ (r = ([], 12) ∨ (r = (l, 0) ∧ packV l = (b, 0))) := by
  rw [retargetref42_Unpack.j1, if_neg (by decide), rpack_eq l k (by omega), Option.bind_some]
  by_cases h : (packV l).2 = 0
  · have hc : checkL l = 0 := by
      unfold packV at h
      by_cases c : checkL l = 0
      · exact c
      · rw [if_neg c] at h; exact h
    have hl := (good_of hc).len
    have hlen : (packV l).1.length ≤ 21001 := by
      unfold packV
      rw [if_pos hc, List.length_append, List.length_singleton]
      have := bytesL_len l l.length
      omega
    obtain ⟨t, h1, h2⟩ := sameB_some (packV l).1 b (by omega) k (by omega)
    rw [if_pos h, h1, Option.bind_some]
    cases t with
    | true => exact ⟨_, by rw [if_pos rfl], .inr ⟨rfl, Prod.ext (h2 rfl) h⟩⟩
    | false => exact ⟨_, by rw [if_neg (by decide)], .inl rfl⟩
  · rw [if_neg h]; exact ⟨_, rfl, .inl rfl⟩
theorem runpack_end_of (b : List Int) (hb : b.length ≤ 1000000) (l : List S72) (hp : packV l = (b, 0)) (a f p : Int) (k : Nat) (hk : 1000010 < k) : retargetref42_Unpack.j1 (k + 1) b l a f p false = some (l, 0) := by
  rw [retargetref42_Unpack.j1, if_neg (by decide), rpack_eq l k (by omega), Option.bind_some, hp, if_pos rfl, sameB_refl b k (by omega) (by omega), Option.bind_some, if_pos rfl]
theorem u64_nonneg (z : Int) : 0 ≤ IntKind.u64.wrap z := by
  simp only [IntKind.wrap, IntKind.bits, IntKind.signed, Bool.false_eq_true, if_false]
  exact Int.emod_nonneg _ (by decide)
theorem nat0_push {l : List S72} {a : S72} (h : Nat0 l) (ha : 0 ≤ a.f0) : Nat0 (l ++ [a]) := by
  intro i hi
  rw [List.length_append, List.length_singleton] at hi
  by_cases c : i < l.length
  · rw [rw_append_lt c]; exact h i c
  · obtain rfl : i = l.length := by omega
    rw [rw_append_at]; exact ha
theorem nat0_nil : Nat0 [] := fun i hi => absurd hi (Nat.not_lt_zero i)
theorem unpack_nat0 (b : List Int) : ∀ k i l was r, Nat0 l → rows_Unpack.l0 k b i l was = some r → Nat0 r.1 := by
  intro k
  induction k with
  | zero => intro i l was r _ h; rw [rows_Unpack.l0] at h; cases h
  | succ k ih =>
    intro i l was r h0 h
    have nil : ∀ {r : List S72 × Int}, some (([] : List S72), (12 : Int)) = some r → Nat0 r.1 := fun h => by rw [← Option.some.inj h]; exact nat0_nil
    rw [rows_Unpack.l0] at h
    split at h
    · split at h
      · exact nil h
      · split at h
        · split at h
          · obtain ⟨e, he, h⟩ := Option.bind_eq_some_iff.mp h
            split at h
            · rw [← Option.some.inj h]; exact h0
            · exact nil h
          · exact nil h
        · split at h
          · exact ih _ _ _ _ (nat0_push h0 (u64_nonneg _)) h
          · split at h
            · exact nil h
            · obtain ⟨n, hn, h⟩ := Option.bind_eq_some_iff.mp h
              split at h
              · obtain ⟨s, hs, h⟩ := Option.bind_eq_some_iff.mp h
                split at h
                · exact nil h
                · exact ih _ _ _ _ (nat0_push h0 (u64_nonneg _)) h
              · exact nil h
    · exact nil h
theorem runpack_total (b : List Int) (hb : b.length ≤ 1000000) : ∀ n k p : Nat, ∀ (l : List S72) (a f : Int), b.length - p ≤ n → p ≤ b.length → 4 * n + 1000020 < k → l.length ≤ 1001 → Nat0 l →
    ∃ r, retargetref42_Unpack.l0 k b l a f (p : Int) = some r ∧ (r = ([], 12) ∨ (r.2 = 0 ∧ packV r.1 = (b, 0) ∧ Nat0 r.1)) := by
  have fin : ∀ (l : List S72) (a f p : Int) (k : Nat), Nat0 l → 1000010 < k → ∃ r, retargetref42_Unpack.j1 (k + 1) b l a f p false = some r ∧ (r = ([], 12) ∨ (r.2 = 0 ∧ packV r.1 = (b, 0) ∧ Nat0 r.1)) := by
    intro l a f p k h0 hk
    obtain ⟨r, h1, h2⟩ := runpack_end b hb l a f p k hk
    refine ⟨r, h1, ?_⟩
    rcases h2 with h2 | ⟨h2, h3⟩
    · exact .inl h2
    · subst h2; exact .inr ⟨rfl, h3, h0⟩
  intro n
  induction n with
  | zero =>
    intro k p l a f h1 h2 h3 h4 h5
    obtain ⟨m, rfl⟩ : ∃ m, k = m + 2 := ⟨k - 2, by omega⟩
    rw [show m + 2 = (m + 1) + 1 from rfl, retargetref42_Unpack.l0, if_neg (by omega)]
    exact fin _ _ _ _ m h5 (by omega)
  | succ n ih =>
    intro k p l a f h1 h2 h3 h4 h5
    obtain ⟨m, rfl⟩ : ∃ m, k = m + 4 := ⟨k - 4, by omega⟩
    rw [show m + 4 = (m + 3) + 1 from rfl, retargetref42_Unpack.l0]
    by_cases hp : (p : Int) < (b.length : Int)
    · rw [if_pos hp, if_pos (by omega)]
      by_cases hz : rd b (p : Int) = 0
      · rw [if_pos hz]; exact fin _ _ _ _ (m + 2) h5 (by omega)
      · rw [if_neg hz]
        by_cases hl : (l.length : Int) ≤ 1000
        · rw [decide_eq_true hl, show m + 3 = (m + 2) + 1 from rfl, retargetref42_Unpack.j1, if_pos rfl, if_pos (by omega), if_pos hp]
          by_cases h32 : rd b (p : Int) ≥ 32
          · rw [if_pos h32, if_pos (by omega), w_add1 p (by omega)]
            exact ih (m + 2) (p + 1) _ _ _ (by omega) (by omega) (by omega) (by rw [List.length_append, List.length_singleton]; omega) (nat0_push h5 (u64_nonneg _))
          · have j3 : ∀ (k : Nat) (d z : Int) (q : Nat) (x : Bool), 4 * n + 1000020 < k → (x = false → b.length - q ≤ n ∧ q ≤ b.length) → ∃ r, retargetref42_Unpack.j3 (k + 1) b l a f d z (q : Int) x = some r ∧ (r = ([], 12) ∨ (r.2 = 0 ∧ packV r.1 = (b, 0) ∧ Nat0 r.1)) := by
              intro k d z q x hk hq
              rw [retargetref42_Unpack.j3]
              cases x with
              | true => exact ⟨_, by rw [if_pos rfl], .inl rfl⟩
              | false =>
                obtain ⟨q1, q2⟩ := hq rfl
                rw [if_neg (by decide)]
                by_cases c : Int.tmod z 2 = 0
                · rw [if_pos c, if_pos (by omega)]
                  exact ih k q _ _ _ q1 q2 hk (by rw [List.length_append, List.length_singleton]; omega) (nat0_push h5 (u64_nonneg _))
                · rw [if_neg c, if_pos (by omega)]
                  exact ih k q _ _ _ q1 q2 hk (by rw [List.length_append, List.length_singleton]; omega) (nat0_push h5 (u64_nonneg _))
            have j3t : ∀ (k : Nat) (d z q : Int), retargetref42_Unpack.j3 (k + 1) b l a f d z q true = some ([], 12) := by
              intro k d z q
              rw [retargetref42_Unpack.j3, if_pos rfl]
            have j2 : ∀ (d z : Int) (j : Int) (x : Bool), (x = true → ∃ q : Nat, j = (q : Int) ∧ b.length - q ≤ n ∧ q ≤ b.length) → ∃ r, retargetref42_Unpack.j2 (m + 2) b l a f (p : Int) d z j x = some r ∧ (r = ([], 12) ∨ (r.2 = 0 ∧ packV r.1 = (b, 0) ∧ Nat0 r.1)) := by
              intro d z j x hx
              rw [show m + 2 = (m + 1) + 1 from rfl, retargetref42_Unpack.j2, if_pos (by omega), if_pos hp]
              by_cases c : rd b (p : Int) = 1
              · rw [if_pos c]
                cases x with
                | true =>
                  obtain ⟨q, rfl, q1, q2⟩ := hx rfl
                  exact j3 m d z q _ (by omega) (fun _ => ⟨q1, q2⟩)
                | false => exact ⟨_, j3t m d z j, .inl rfl⟩
              · rw [if_neg c]; exact ⟨_, j3t m d z j, .inl rfl⟩
            rw [if_neg h32, w_add1 p (by omega)]
            obtain ⟨w1, q1, ok1, e1, f1⟩ := read_some b hb 6 0 (p + 1) (m + 2) 0 rfl (by omega) (by omega)
            have e1' : retargetref42_read.f (m + 2) b ((p + 1 : Nat) : Int) = some (w1, q1, ok1) := e1
            rw [e1', Option.bind_some]
            cases ok1 with
            | true =>
              obtain ⟨u1, rfl, u2, u3⟩ := f1 rfl
              rw [if_pos rfl]
              obtain ⟨w2, q2, ok2, e2, f2⟩ := read_some b hb 6 0 u1 (m + 2) 0 rfl (by omega) (by omega)
              have e2' : retargetref42_read.f (m + 2) b (u1 : Int) = some (w2, q2, ok2) := e2
              show ∃ r, Option.bind (retargetref42_read.f (m + 2) b (u1 : Int)) _ = some r ∧ _
              rw [e2', Option.bind_some]
              refine j2 w1 w2 q2 ok2 (fun h => ?_)
              obtain ⟨u4, rfl, u5, u6⟩ := f2 h
              exact ⟨u4, rfl, by omega, u6⟩
            | false =>
              rw [if_neg (show ¬ ((w1, q1, false) : Int × Int × Bool).2.2 = true from fun h => Bool.noConfusion h)]
              exact j2 w1 0 0 false (fun h => by cases h)
        · rw [decide_eq_false hl]; exact fin _ _ _ _ (m + 2) h5 (by omega)
    · rw [if_neg hp]; exact fin _ _ _ _ (m + 2) h5 (by omega)
theorem half_fold {z : Nat} (h : z < 9223372036854775808) : wrap64 (IntKind.u64.wrap (Int.tdiv (z : Int) 2)) = ((z / 2 : Nat) : Int) := by
  rw [Int.tdiv_eq_ediv_of_nonneg (Int.natCast_nonneg _), u64_in (by omega) (by omega)]
  exact (Go.Proofs.Ytbckdelbkcfjkaa.RoP.wrap_small (by omega) (by omega)).trans (by omega)
theorem half_one {z : Nat} (h : z < 9223372036854775808) : wrap64 (((z / 2 : Nat) : Int) + 1) = ((z / 2 : Nat) : Int) + 1 := Go.Proofs.Ytbckdelbkcfjkaa.RoP.wrap_small (by omega) (by omega)
theorem half_mod (z : Nat) : Int.tmod (z : Int) 2 = ((z % 2 : Nat) : Int) := by
  rw [Int.tmod_eq_emod_of_nonneg (Int.natCast_nonneg _)]; omega
theorem sub_half {a q m : Int} (h : -q - 1 = m) : a - (q + 1) = a + m := by omega
theorem add_half {a q m : Int} (h : q = m) : a + q = a + m := by rw [h]
theorem nmod_ne {z : Nat} (c : z % 2 = 1) : ¬ ((z % 2 : Nat) : Int) = 0 := by omega
theorem nmod_eq {z : Nat} (c : ¬ z % 2 = 1) : ((z % 2 : Nat) : Int) = 0 := by omega
theorem runpack_go {l : List S72} (g : Good l) (h0 : Nat0 l) (hbl : (bytesL l l.length ++ [0]).length ≤ 1000000) (hpk : packV l = (bytesL l l.length ++ [0], 0)) : ∀ d i k, i + d = l.length → 4 * d + 1000020 < k →
    retargetref42_Unpack.l0 k (bytesL l l.length ++ [0]) (l.take i) (lastR l i).f0 (lastR l i).f1 ((bytesL l i).length : Int) = some (l, 0) := by
  have hl := g.len
  intro d
  induction d with
  | zero =>
    intro i k h1 h2
    obtain ⟨m, rfl⟩ : ∃ m, k = m + 2 := ⟨k - 2, by omega⟩
    obtain rfl : i = l.length := by omega
    obtain ⟨r1, r2, r3⟩ := rd_drop (b := bytesL l l.length ++ [0]) (i := (bytesL l l.length).length) (x := 0) (t := []) List.drop_left
    rw [show m + 2 = (m + 1) + 1 from rfl, retargetref42_Unpack.l0, if_pos (by omega), if_pos (by omega), r2, if_pos rfl, List.take_length]
    exact runpack_end_of _ hbl l hpk _ _ _ m (by omega)
  | succ d ih =>
    intro i k h1 h2
    obtain ⟨m, rfl⟩ : ∃ m, k = m + 4 := ⟨k - 4, by omega⟩
    have hi : i < l.length := by omega
    obtain ⟨t, t1, t2⟩ := packed_drop l hi
    obtain ⟨s1, s2, s3, s4⟩ := good_step g h0 hi
    have hlen : (l.take i).length ≤ 1000 := by rw [List.length_take]; omega
    have nine : (l.take i).length < 8796093022208 := Nat.lt_of_le_of_lt hlen (by decide)
    have hb1 : (bytesL l (i + 1)).length = (bytesL l i).length + (stepV (dD l i) (dM l i)).length := by rw [bytesL, List.length_append]
    have w0 : IntKind.u64.wrap ((lastR l i).f0 + (dD l i : Int)) = (rw_ l i).f0 := congrArg S72.f0 s2
    have w1 : wrap64 ((lastR l i).f1 + dM l i) = (rw_ l i).f1 := congrArg S72.f1 s2
    by_cases hs : shortP (dD l i) (dM l i)
    · have e : stepV (dD l i) (dM l i) = [32 + 16 * ((dD l i : Int) - 1) + dM l i + 8] := by unfold stepV; rw [if_pos hs]
      have ih := ih (i + 1) (m + 2) (by omega) (by omega)
      rw [take_snoc l hi, show lastR l (i + 1) = rw_ l i from rfl] at ih
      rw [e] at t1 hb1
      obtain ⟨r1, r2, r3⟩ := rd_drop t1
      obtain ⟨p1, p2, p3, p4⟩ := hs
      have e1 : (32 + 16 * ((dD l i : Int) - 1) + dM l i + 8 - 32) % 256 / 16 + 1 = (dD l i : Int) := by omega
      have e2 : (32 + 16 * ((dD l i : Int) - 1) + dM l i + 8 - 32) % 16 - 8 = dM l i := by omega
      rw [show m + 4 = (m + 3) + 1 from rfl, retargetref42_Unpack.l0, if_pos (by omega), if_pos (by omega), r2, if_neg (by omega), decide_eq_true (by omega), show m + 3 = (m + 2) + 1 from rfl, retargetref42_Unpack.j1, if_pos rfl, if_pos (by omega), if_pos (by omega), r2, if_pos (by omega), if_pos (by omega), e1, e2, w0, w1, w_add1 _ (by omega)]
      rw [hb1] at ih
      exact ih
    · have e : stepV (dD l i) (dM l i) = 1 :: (varF 10 (dD l i) ++ varF 10 (foldN (dM l i))) := by unfold stepV; rw [if_neg hs]
      have ih := ih (i + 1) m (by omega) (by omega)
      rw [take_snoc l hi, show lastR l (i + 1) = rw_ l i from rfl] at ih
      have hf : foldN (dM l i) < 2 ^ 35 := by unfold foldN; split <;> omega
      have hf2 : foldN (dM l i) < 9223372036854775808 := Nat.lt_of_lt_of_le hf (by decide)
      rw [e] at t1 hb1
      rw [List.cons_append] at t1
      obtain ⟨r1, r2, r3⟩ := rd_drop t1
      have q1 := rread_of (bytesL l l.length ++ [0]) (varF 10 (foldN (dM l i)) ++ t) hbl ((bytesL l i).length + 1) (dD l i) (m + 2) (Nat.lt_of_lt_of_le s1 (by decide)) (by rw [r3, List.append_assoc]) (by omega)
      have r4 : (bytesL l l.length ++ [0]).drop ((bytesL l i).length + 1 + (varF 10 (dD l i)).length) = varF 10 (foldN (dM l i)) ++ t := by
        rw [← List.drop_drop, r3, List.append_assoc, List.drop_left]
      have q2 := rread_of (bytesL l l.length ++ [0]) t hbl _ (foldN (dM l i)) (m + 2) hf r4 (by omega)
      have u1 := half_mod (foldN (dM l i))
      have u2 := half_fold hf2
      have u4 := half_one hf2
      have u3 := unfold_fold (dM l i)
      have hgo : retargetref42_Unpack.j3 (m + 1) (bytesL l l.length ++ [0]) (l.take i) (lastR l i).f0 (lastR l i).f1 (dD l i : Int) (foldN (dM l i) : Int) (((bytesL l i).length + 1 + (varF 10 (dD l i)).length + (varF 10 (foldN (dM l i))).length : Nat) : Int) false = some (l, 0) := by
        rw [hb1, show (bytesL l i).length + (1 :: (varF 10 (dD l i) ++ varF 10 (foldN (dM l i)))).length = (bytesL l i).length + 1 + (varF 10 (dD l i)).length + (varF 10 (foldN (dM l i))).length by rw [List.length_cons, List.length_append]; omega] at ih
        rw [retargetref42_Unpack.j3, if_neg (by decide), u1, u2]
        unfold unfoldI at u3
        by_cases c : foldN (dM l i) % 2 = 1
        · rw [if_pos c] at u3
          rw [if_neg (nmod_ne c), if_pos nine, u4, w0, sub_half u3, w1]
          exact ih
        · rw [if_neg c] at u3
          rw [if_pos (nmod_eq c), if_pos nine, w0, add_half u3, w1]
          exact ih
      rw [show m + 4 = (m + 3) + 1 from rfl, retargetref42_Unpack.l0, if_pos (by omega), if_pos (by omega), r2, if_neg (by decide), decide_eq_true (by omega), show m + 3 = (m + 2) + 1 from rfl, retargetref42_Unpack.j1, if_pos rfl, if_pos (by omega), if_pos (by omega), r2, if_neg (by decide), w_add1 _ (by omega), q1, Option.bind_some, if_pos rfl]
      show Option.bind (retargetref42_read.f (m + 2) (bytesL l l.length ++ [0]) (((bytesL l i).length + 1 + (varF 10 (dD l i)).length : Nat) : Int)) _ = _
      rw [q2, Option.bind_some, show m + 2 = (m + 1) + 1 from rfl, retargetref42_Unpack.j2, if_pos (by omega), if_pos (by omega), r2, if_pos rfl]
      exact hgo
theorem runpack_of {l : List S72} (hc : checkL l = 0) (h0 : Nat0 l) {k : Nat} (hk : 4 * l.length + 1000020 < k) : retargetref42_Unpack.f k (bytesL l l.length ++ [0]) = some (l, 0) := by
  have g := good_of hc
  have hl := g.len
  have hb := bytesL_len l l.length
  exact runpack_go g h0 (by rw [List.length_append, List.length_singleton]; omega) (by unfold packV; rw [if_pos hc]) l.length 0 k (by omega) hk
end Go.Proofs.Ytbckdelbkcfjkaa.RoP
