/- Plain lemmas: unpacking packed bytes gives the table, and what is unpacked packs to the same bytes. -/
import Derived.Test.YtbckdelbkcfjkaaRoPNum
import Derived.Test.YtbckdelbkcfjkaaRoHUnpack
namespace Go.Proofs.Ytbckdelbkcfjkaa.RoP
set_option linter.unusedVariables false
set_option linter.unusedSimpArgs false
open Go.RowKit Go.Proofs.Ytbckdelbkcfjkaa.Ro Go.Proofs.YtbckdelbkcfjkaaW.PrintWords Go.Proofs.YtbckdelbkcfjkaaW.PrintLast Go.Proofs.YtbckdelbkcfjkaaW.PrintMore
/-- A number with a sign for one without. -/
def unfoldI (z : Nat) : Int := if z % 2 = 1 then -((z / 2 : Nat) : Int) - 1 else ((z / 2 : Nat) : Int)
theorem unfold_eq {z : Nat} (h : z < 9223372036854775808) : rows_unfold.f (z : Int) = some (unfoldI z) := by
  have e1 : Int.tmod (z : Int) 2 = ((z % 2 : Nat) : Int) := by rw [Int.tmod_eq_emod_of_nonneg (Int.natCast_nonneg _)]; omega
  have e2 : IntKind.u64.wrap (Int.tdiv (z : Int) 2) = ((z / 2 : Nat) : Int) := by
    rw [Int.tdiv_eq_ediv_of_nonneg (Int.natCast_nonneg _)]
    exact (u64_in (by omega) (by omega)).trans (by omega)
  unfold rows_unfold.f unfoldI
  rw [e1, e2, wrap_small (x := ((z / 2 : Nat) : Int)) (by omega) (by omega)]
  clear e1 e2
  by_cases h2 : z % 2 = 1
  · rw [if_pos (by omega), if_pos h2, wrap_small (x := -((z / 2 : Nat) : Int)) (by omega) (by omega), wrap_small (by omega) (by omega)]
  · rw [if_neg (by omega), if_neg h2]
theorem fold_unfold (z : Nat) : foldN (unfoldI z) = z := by
  unfold unfoldI foldN
  by_cases h : z % 2 = 1
  · rw [if_pos h, if_pos (by omega)]; omega
  · rw [if_neg h, if_neg (by omega)]; omega
theorem unfold_fold (m : Int) : unfoldI (foldN m) = m := by
  unfold foldN
  by_cases h : m < 0
  · rw [if_pos h]
    unfold unfoldI
    rw [if_pos (by omega)]; omega
  · rw [if_neg h]
    unfold unfoldI
    rw [if_neg (by omega)]; omega
theorem unfold_some (z : Int) : ∃ n, rows_unfold.f z = some n := by
  unfold rows_unfold.f
  split <;> exact ⟨_, rfl⟩
theorem short_some (d m : Int) : ∃ s, rows_short.f d m = some s := by
  unfold rows_short.f
  split
  · split
    · split <;> exact ⟨_, rfl⟩
    · exact ⟨_, rfl⟩
  · exact ⟨_, rfl⟩
/-- The row before row i. -/
def lastR (l : List S72) : Nat → S72
  | 0 => z72
  | i + 1 => rw_ l i
theorem prev_f0 (l : List S72) (i : Nat) : prev (fun j => (rw_ l j).f0) i = (lastR l i).f0 := by cases i <;> rfl
theorem prev_f1 (l : List S72) (i : Nat) : prev (fun j => (rw_ l j).f1) i = (lastR l i).f1 := by cases i <;> rfl
theorem rw_append_lt {l t : List S72} {i : Nat} (h : i < l.length) : rw_ (l ++ t) i = rw_ l i := by
  rw [rw_get h, rw_get (by rw [List.length_append]; omega), List.getElem_append_left h]
theorem rw_append_at (l : List S72) (a : S72) : rw_ (l ++ [a]) l.length = a := by
  rw [rw_get (by rw [List.length_append, List.length_singleton]; omega), List.getElem_append_right (Nat.le_refl _)]
  simp
theorem lastR_append {l t : List S72} {i : Nat} (h : i ≤ l.length) : lastR (l ++ t) i = lastR l i := by
  cases i with
  | zero => rfl
  | succ i => exact rw_append_lt (by omega)
theorem dD_append {l t : List S72} {i : Nat} (h : i < l.length) : dD (l ++ t) i = dD l i ∧ dM (l ++ t) i = dM l i := by
  unfold dD dM
  rw [prev_f0, prev_f0, prev_f1, prev_f1, rw_append_lt h, lastR_append (by omega)]
  exact ⟨rfl, rfl⟩
theorem bytesL_append (l t : List S72) : ∀ i, i ≤ l.length → bytesL (l ++ t) i = bytesL l i := by
  intro i
  induction i with
  | zero => intro _; rfl
  | succ i ih =>
    intro h
    rw [bytesL, bytesL, ih (by omega), (dD_append (t := t) (by omega)).1, (dD_append (t := t) (by omega)).2]
theorem u64_back (a d : Int) (h0 : 0 ≤ d) (h1 : d < 18446744073709551616) : IntKind.u64.wrap (IntKind.u64.wrap (a + d) - a) = d := by
  simp only [IntKind.wrap, IntKind.bits, IntKind.signed, Bool.false_and, Bool.false_eq_true, if_false]
  show ((a + d) % 18446744073709551616 - a) % 18446744073709551616 = d
  omega
theorem w64_back (a n : Int) (h0 : -9223372036854775808 ≤ n) (h1 : n < 9223372036854775808) : wrap64 (wrap64 (a + n) - a) = n := by
  unfold wrap64; omega
theorem bytesL_push (l : List S72) (d : Nat) (n : Int) (hd : d < 18446744073709551616) (h0 : -9223372036854775808 ≤ n) (h1 : n < 9223372036854775808) :
    bytesL (l ++ [adv (lastR l l.length) (d : Int) n]) (l ++ [adv (lastR l l.length) (d : Int) n]).length = bytesL l l.length ++ stepV d n := by
  rw [List.length_append, List.length_singleton, bytesL, bytesL_append l _ l.length (Nat.le_refl _)]
  congr 2
  · unfold dD
    rw [prev_f0, rw_append_at, lastR_append (Nat.le_refl _)]
    show (IntKind.u64.wrap (IntKind.u64.wrap ((lastR l l.length).f0 + (d : Int)) - (lastR l l.length).f0)).toNat = d
    rw [u64_back _ _ (by omega) (by omega)]
    rfl
  · unfold dM
    rw [prev_f1, rw_append_at, lastR_append (Nat.le_refl _)]
    exact w64_back _ _ h0 h1
theorem lastR_push (l : List S72) (a : S72) : lastR (l ++ [a]) (l ++ [a]).length = a := by
  rw [List.length_append, List.length_singleton]
  exact rw_append_at l a
theorem take_push {b s t : List Int} {i j : Nat} (hi : i ≤ b.length) (hj : j ≤ b.length) (h : b.drop i = s ++ b.drop j) : b.take j = b.take i ++ s := by
  have h1 : b = b.take i ++ (s ++ b.drop j) := by rw [← h]; exact (List.take_append_drop i b).symm
  have h2 := (List.take_append_drop j b)
  have h3 : (b.take i ++ s) ++ b.drop j = b.take j ++ b.drop j := by rw [List.append_assoc, ← h1, h2]
  exact (List.append_cancel_right h3).symm
theorem unpack_kind (b : List Int) : ∀ k i l was r, rows_Unpack.l0 k b i l was = some r → r = ([], 12) ∨ r.2 = 0 := by
  intro k
  induction k with
  | zero => intro i l was r h; rw [rows_Unpack.l0] at h; cases h
  | succ k ih =>
    intro i l was r h
    rw [rows_Unpack.l0] at h
    split at h
    · split at h
      · exact .inl (Option.some.inj h).symm
      · split at h
        · split at h
          · obtain ⟨e, he, h⟩ := Option.bind_eq_some_iff.mp h
            split at h
            · right; rw [← Option.some.inj h]
            · exact .inl (Option.some.inj h).symm
          · exact .inl (Option.some.inj h).symm
        · split at h
          · exact ih _ _ _ _ h
          · split at h
            · exact .inl (Option.some.inj h).symm
            · obtain ⟨n, hn, h⟩ := Option.bind_eq_some_iff.mp h
              split at h
              · obtain ⟨s, hs, h⟩ := Option.bind_eq_some_iff.mp h
                split at h
                · exact .inl (Option.some.inj h).symm
                · exact ih _ _ _ _ h
              · exact .inl (Option.some.inj h).symm
    · exact .inl (Option.some.inj h).symm
theorem numG_ge (b : List Int) : ∀ d r n i, i ≤ (numG b d r n i).2 := by
  intro d
  induction d with
  | zero => intro r n i; exact Nat.le_refl _
  | succ d ih =>
    intro r n i
    rw [numG]
    split
    · split
      · show i ≤ i + 1; omega
      · split
        · show i ≤ i + 1; omega
        · exact Nat.le_trans (by omega) (ih _ _ _)
    · exact Nat.le_refl _
theorem unpack_total (b : List Int) : ∀ n k i l was, b.length - i ≤ n → n + 2010 < k → ∃ r, rows_Unpack.l0 k b i l was = some r := by
  intro n
  induction n with
  | zero =>
    intro k i l was h1 h2
    obtain ⟨m, rfl⟩ : ∃ m, k = m + 1 := ⟨k - 1, by omega⟩
    rw [rows_Unpack.l0, if_neg (by omega)]
    exact ⟨_, rfl⟩
  | succ n ih =>
    intro k i l was h1 h2
    obtain ⟨m, rfl⟩ : ∃ m, k = m + 1 := ⟨k - 1, by omega⟩
    rw [rows_Unpack.l0]
    split
    · split
      · exact ⟨_, rfl⟩
      · split
        · split
          · rw [check_eq l m (.inr (by omega)), Option.bind_some]
            split <;> exact ⟨_, rfl⟩
          · exact ⟨_, rfl⟩
        · split
          · exact ih m _ _ _ (by omega) (by omega)
          · split
            · exact ⟨_, rfl⟩
            · obtain ⟨x, hx⟩ := unfold_some (numG b 5 0 0 (numG b 5 0 0 (i + 1)).2).1.1
              rw [hx, Option.bind_some]
              split
              · obtain ⟨s, hs⟩ := short_some (numG b 5 0 0 (i + 1)).1.1 x
                rw [hs, Option.bind_some]
                split
                · exact ⟨_, rfl⟩
                · have g1 := numG_ge b 5 0 0 (i + 1)
                  have g2 := numG_ge b 5 0 0 (numG b 5 0 0 (i + 1)).2
                  exact ih m _ _ _ (by omega) (by omega)
              · exact ⟨_, rfl⟩
    · exact ⟨_, rfl⟩
/-- What is unpacked is valid, and packs to the same bytes. -/
theorem unpack_sound (b : List Int) (hb : Bytes b) : ∀ k i l L, rows_Unpack.l0 k b i l (lastR l l.length) = some (L, 0) → i ≤ b.length → bytesL l l.length = b.take i → b.length - i + 2010 < k → checkL L = 0 ∧ bytesL L L.length ++ [0] = b := by
  intro k
  induction k with
  | zero => intro i l L h; rw [rows_Unpack.l0] at h; cases h
  | succ k ih =>
    intro i l L h hi hby hk
    rw [rows_Unpack.l0] at h
    by_cases hil : i < b.length
    · rw [if_pos hil] at h
      obtain ⟨x, hx, hx2⟩ := hb.at hil
      have hdr := drop_rd hil
      rw [hx] at h hdr
      by_cases c1 : 1000 < l.length
      · rw [if_pos c1] at h; cases h
      · rw [if_neg c1] at h
        by_cases c2 : (x : Int) = 0
        · rw [if_pos c2] at h
          by_cases c3 : i + 1 = b.length
          · rw [if_pos c3, check_eq l k (.inr (by omega)), Option.bind_some] at h
            by_cases c4 : checkL l = 0
            · rw [if_pos c4] at h
              simp only [Option.some.injEq, Prod.mk.injEq, and_true] at h
              subst h
              refine ⟨c4, ?_⟩
              rw [hby]
              rw [c2, c3, List.drop_length] at hdr
              rw [← hdr]
              exact List.take_append_drop i b
            · rw [if_neg c4] at h; cases h
          · rw [if_neg c3] at h; cases h
        · rw [if_neg c2] at h
          by_cases c5 : (32 : Int) ≤ (x : Int)
          · rw [if_pos c5] at h
            have e1 : ((x : Int) - 32) % 256 / 16 + 1 = (((x - 32) / 16 + 1 : Nat) : Int) := by omega
            rw [e1] at h
            have hp := bytesL_push l ((x - 32) / 16 + 1) (((x : Int) - 32) % 16 - 8) (by omega) (by omega) (by omega)
            have hs : stepV ((x - 32) / 16 + 1) (((x : Int) - 32) % 16 - 8) = [(x : Int)] := by
              unfold stepV
              rw [if_pos (show shortP _ _ from ⟨by omega, by omega, by omega, by omega⟩)]
              congr 1
              omega
            rw [hs] at hp
            refine ih (i + 1) (l ++ [adv (lastR l l.length) (((x - 32) / 16 + 1 : Nat) : Int) (((x : Int) - 32) % 16 - 8)]) L ?_ (by omega) ?_ (by omega)
            · rw [lastR_push]; exact h
            · rw [hp, hby]
              exact (take_push (s := [(x : Int)]) (t := []) (by omega) (by omega) hdr).symm
          · rw [if_neg c5] at h
            by_cases c6 : (1 : Int) < (x : Int)
            · rw [if_pos c6] at h; cases h
            · rw [if_neg c6] at h
              obtain rfl : x = 1 := by omega
              obtain ⟨⟨⟨d, is1⟩, j1⟩, hP⟩ : ∃ p, numG b 5 0 0 (i + 1) = p := ⟨_, rfl⟩
              obtain ⟨⟨⟨z, is2⟩, j2⟩, hQ⟩ : ∃ p, numG b 5 0 0 j1 = p := ⟨_, rfl⟩
              rw [hP] at h
              simp only [hQ] at h
              obtain ⟨n, hn, h⟩ := Option.bind_eq_some_iff.mp h
              by_cases c7 : is1 = true ∧ is2 = true
              · obtain ⟨rfl, rfl⟩ := c7
                rw [if_pos ⟨rfl, rfl⟩] at h
                obtain ⟨s, hs, h⟩ := Option.bind_eq_some_iff.mp h
                obtain ⟨dv, rfl, d1, d2, d3, d4⟩ := number_only b hb _ _ _ hP
                obtain ⟨zv, rfl, z1, z2, z3, z4⟩ := number_only b hb _ _ _ hQ
                have hz63 : zv < 9223372036854775808 := Nat.lt_of_lt_of_le z1 (by decide)
                have hd64 : dv < 18446744073709551616 := Nat.lt_of_lt_of_le d1 (by decide)
                rw [unfold_eq hz63] at hn
                obtain rfl : unfoldI zv = n := Option.some.inj hn
                rw [short_eq] at hs
                obtain rfl : decide (shortP dv (unfoldI zv)) = s := Option.some.inj hs
                by_cases c8 : shortP dv (unfoldI zv)
                · rw [decide_eq_true c8] at h
                  simp at h
                · rw [decide_eq_false c8] at h
                  have h9 : rows_Unpack.l0 k b j2 (l ++ [adv (lastR l l.length) (dv : Int) (unfoldI zv)]) (adv (lastR l l.length) (dv : Int) (unfoldI zv)) = some (L, 0) := by simpa using h
                  have hu : -9223372036854775808 ≤ unfoldI zv ∧ unfoldI zv < 9223372036854775808 := by unfold unfoldI; split <;> omega
                  have hp := bytesL_push l dv (unfoldI zv) hd64 hu.1 hu.2
                  have hst : stepV dv (unfoldI zv) = 1 :: (varF 10 dv ++ varF 10 zv) := by
                    unfold stepV
                    rw [if_neg c8, fold_unfold]
                  rw [hst] at hp
                  refine ih j2 (l ++ [adv (lastR l l.length) (dv : Int) (unfoldI zv)]) L ?_ z4 ?_ (by omega)
                  · rw [lastR_push]; exact h9
                  · rw [hp, hby]
                    refine (take_push (s := 1 :: (varF 10 dv ++ varF 10 zv)) (t := []) (by omega) z4 ?_).symm
                    rw [hdr, d2, z2]
                    simp
              · rw [if_neg c7] at h; cases h
    · rw [if_neg hil] at h; cases h
theorem unpack_only {b : List Int} (hb : Bytes b) {k : Nat} {L : List S72} (hk : b.length + 2010 < k) (h : rows_Unpack.f k b = some (L, 0)) : checkL L = 0 ∧ bytesL L L.length ++ [0] = b :=
  unpack_sound b hb k 0 [] L h (Nat.zero_le _) rfl (by omega)
theorem bytesL_pre (l : List S72) (i : Nat) : ∀ e, ∃ t, bytesL l (i + e) = bytesL l i ++ t := by
  intro e
  induction e with
  | zero => exact ⟨[], by rw [List.append_nil]; rfl⟩
  | succ e ih =>
    obtain ⟨t, ht⟩ := ih
    exact ⟨t ++ stepV (dD l (i + e)) (dM l (i + e)), by rw [← Nat.add_assoc, bytesL, ht, List.append_assoc]⟩
theorem packed_drop (l : List S72) {i : Nat} (hi : i < l.length) : ∃ t, (bytesL l l.length ++ [0]).drop (bytesL l i).length = stepV (dD l i) (dM l i) ++ t ∧ (bytesL l l.length ++ [0]).drop (bytesL l (i + 1)).length = t := by
  obtain ⟨t, ht⟩ := bytesL_pre l (i + 1) (l.length - (i + 1))
  rw [show i + 1 + (l.length - (i + 1)) = l.length by omega] at ht
  refine ⟨t ++ [0], ?_, ?_⟩
  · rw [ht, bytesL, List.append_assoc, List.append_assoc, List.drop_left]
  · rw [ht, List.append_assoc, List.drop_left]
theorem take_snoc (l : List S72) {i : Nat} (hi : i < l.length) : l.take (i + 1) = l.take i ++ [rw_ l i] := by
  rw [List.take_succ_eq_append_getElem hi, rw_get hi]
theorem good_lastR {l : List S72} (g : Good l) (h0 : Nat0 l) {i : Nat} (hi : i ≤ l.length) : 0 ≤ (lastR l i).f0 ∧ (lastR l i).f0 < 4294967296 ∧ -1048576 ≤ (lastR l i).f1 ∧ (lastR l i).f1 ≤ 1048576 := by
  cases i with
  | zero =>
    show (0 : Int) ≤ 0 ∧ (0 : Int) < 4294967296 ∧ (-1048576 : Int) ≤ 0 ∧ (0 : Int) ≤ 1048576
    decide
  | succ i =>
    have g1 := g.at (i := i) (by omega)
    exact ⟨h0 i (by omega), g1.lo, by have := g1.l1; show _ ≤ (rw_ l i).f1; omega, g1.l2⟩
theorem good_step {l : List S72} (g : Good l) (h0 : Nat0 l) {i : Nat} (hi : i < l.length) : dD l i < 4294967296 ∧ adv (lastR l i) (dD l i : Int) (dM l i) = rw_ l i ∧ -2097152 ≤ dM l i ∧ dM l i ≤ 2097152 := by
  have g1 := g.at hi
  have g2 := good_lastR g h0 (i := i) (by omega)
  have g3 := h0 i hi
  have g4 := good_m g hi
  have g5 := dM_good g hi
  have hle : (lastR l i).f0 ≤ (rw_ l i).f0 := by
    cases i with
    | zero => exact g3
    | succ i => have := g1.lt (by omega); exact Int.le_of_lt this
  have e : (dD l i : Int) = (rw_ l i).f0 - (lastR l i).f0 := by
    rw [dD_cast, prev_f0]
    exact u64_in (by omega) (by have := g1.lo; omega)
  rw [prev_f1] at g4 g5
  refine ⟨by have := g1.lo; omega, ?_, by omega, by omega⟩
  unfold adv
  rw [e, g5, u64_in (by omega) (by have := g1.lo; omega), wrap_small (by have := g1.l1; omega) (by have := g1.l2; omega)]
  rw [show (lastR l i).f0 + ((rw_ l i).f0 - (lastR l i).f0) = (rw_ l i).f0 by omega, show (lastR l i).f1 + ((rw_ l i).f1 - (lastR l i).f1) = (rw_ l i).f1 by omega]
/-- Unpacking packed bytes gives the table. -/
theorem unpack_go {l : List S72} (g : Good l) (h0 : Nat0 l) : ∀ d i k, i + d = l.length → d + 2010 < k → rows_Unpack.l0 k (bytesL l l.length ++ [0]) (bytesL l i).length (l.take i) (lastR l i) = some (l, 0) := by
  have hl := g.len
  intro d
  induction d with
  | zero =>
    intro i k h1 h2
    obtain ⟨m, rfl⟩ : ∃ m, k = m + 1 := ⟨k - 1, by omega⟩
    obtain rfl : i = l.length := by omega
    obtain ⟨r1, r2, r3⟩ := rd_drop (b := bytesL l l.length ++ [0]) (i := (bytesL l l.length).length) (x := 0) (t := []) List.drop_left
    rw [rows_Unpack.l0, if_pos r1, List.take_length, if_neg (by omega), r2, if_pos rfl, if_pos (by rw [List.length_append, List.length_singleton]), check_eq l m (.inr (by omega)), Option.bind_some, if_pos g.check]
  | succ d ih =>
    intro i k h1 h2
    obtain ⟨m, rfl⟩ : ∃ m, k = m + 1 := ⟨k - 1, by omega⟩
    have hi : i < l.length := by omega
    obtain ⟨t, t1, t2⟩ := packed_drop l hi
    obtain ⟨s1, s2, s3, s4⟩ := good_step g h0 hi
    have ih := ih (i + 1) m (by omega) (by omega)
    rw [take_snoc l hi, show lastR l (i + 1) = rw_ l i from rfl] at ih
    have hlen : (l.take i).length ≤ 1000 := by rw [List.length_take]; omega
    have hb1 : (bytesL l (i + 1)).length = (bytesL l i).length + (stepV (dD l i) (dM l i)).length := by rw [bytesL, List.length_append]
    by_cases hs : shortP (dD l i) (dM l i)
    · have e : stepV (dD l i) (dM l i) = [32 + 16 * ((dD l i : Int) - 1) + dM l i + 8] := by unfold stepV; rw [if_pos hs]
      rw [e] at t1 hb1
      obtain ⟨r1, r2, r3⟩ := rd_drop t1
      obtain ⟨p1, p2, p3, p4⟩ := hs
      have e1 : (32 + 16 * ((dD l i : Int) - 1) + dM l i + 8 - 32) % 256 / 16 + 1 = (dD l i : Int) := by omega
      have e2 : (32 + 16 * ((dD l i : Int) - 1) + dM l i + 8 - 32) % 16 - 8 = dM l i := by omega
      rw [rows_Unpack.l0, if_pos r1, if_neg (by omega), r2, if_neg (by omega), if_pos (by omega), e1, e2, s2]
      rw [hb1] at ih
      exact ih
    · have e : stepV (dD l i) (dM l i) = 1 :: (varF 10 (dD l i) ++ varF 10 (foldN (dM l i))) := by unfold stepV; rw [if_neg hs]
      have hf : foldN (dM l i) < 2 ^ 35 := by unfold foldN; split <;> omega
      have hf2 : foldN (dM l i) < 9223372036854775808 := Nat.lt_of_lt_of_le hf (by decide)
      rw [e] at t1 hb1
      rw [List.cons_append] at t1
      obtain ⟨r1, r2, r3⟩ := rd_drop t1
      have q1 := number_of (bytesL l l.length ++ [0]) (varF 10 (foldN (dM l i)) ++ t) ((bytesL l i).length + 1) (dD l i) (Nat.lt_of_lt_of_le s1 (by decide)) (by rw [r3, List.append_assoc])
      have r4 : (bytesL l l.length ++ [0]).drop ((bytesL l i).length + 1 + (varF 10 (dD l i)).length) = varF 10 (foldN (dM l i)) ++ t := by
        rw [← List.drop_drop, r3, List.append_assoc, List.drop_left]
      have q2 := number_of (bytesL l l.length ++ [0]) t _ (foldN (dM l i)) hf r4
      rw [rows_Unpack.l0, if_pos r1, if_neg (by omega), r2, if_neg (by decide), if_neg (by decide), if_neg (by decide), q1]
      simp only [q2]
      rw [unfold_eq hf2, Option.bind_some, unfold_fold, if_pos ⟨trivial, trivial⟩, short_eq, decide_eq_false hs, Option.bind_some, if_neg (by decide), s2]
      rw [hb1] at ih
      rw [show (bytesL l i).length + 1 + (varF 10 (dD l i)).length + (varF 10 (foldN (dM l i))).length = (bytesL l i).length + (1 :: (varF 10 (dD l i) ++ varF 10 (foldN (dM l i)))).length by rw [List.length_cons, List.length_append]; omega]
      exact ih
theorem unpack_of {l : List S72} (g : Good l) (h0 : Nat0 l) {k : Nat} (hk : l.length + 2010 < k) : rows_Unpack.f k (bytesL l l.length ++ [0]) = some (l, 0) := unpack_go g h0 l.length 0 k (by omega) hk
end Go.Proofs.Ytbckdelbkcfjkaa.RoP
