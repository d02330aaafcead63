/- Plain lemmas: the bytes of a table, by the reference. -/
import Derived.Test.YtbckdelbkcfjkaaRoPPack
import Derived.Test.YtbckdelbkcfjkaaRoFretargetref42Pack
namespace Go.Proofs.Ytbckdelbkcfjkaa.RoP
set_option linter.unusedVariables false
set_option linter.unusedSimpArgs false
open Go.RowKit Go.Proofs.Ytbckdelbkcfjkaa.Ro Go.Proofs.YtbckdelbkcfjkaaW.PrintWords Go.Proofs.YtbckdelbkcfjkaaW.PrintLast Go.Proofs.YtbckdelbkcfjkaaW.PrintMore
theorem rvarying_go : ∀ d n k : Nat, n < 128 ^ (d + 1) → n < 18446744073709551616 → d < 1000 → d < k → retargetref42_varying.f k (n : Int) = some (varF (d + 1) n) := by
  intro d
  induction d with
  | zero =>
    intro n k h1 h1' hd h2
    obtain ⟨m, rfl⟩ : ∃ m, k = m + 1 := ⟨k - 1, by omega⟩
    have hn : n < 128 := by simpa using h1
    rw [retargetref42_varying.f, if_pos (by omega), varF, if_pos hn, show (n : Int) % 256 = (n : Int) by omega]
  | succ d ih =>
    intro n k h1 h1' hd h2
    obtain ⟨m, rfl⟩ : ∃ m, k = m + 1 := ⟨k - 1, by omega⟩
    rw [retargetref42_varying.f, varF]
    by_cases hn : n < 128
    · rw [if_pos (by omega), if_pos hn, show (n : Int) % 256 = (n : Int) by omega]
    · have hq : n / 128 < 128 ^ (d + 1) := by
        rw [Nat.div_lt_iff_lt_mul (by decide), ← Nat.pow_succ]; exact h1
      have e1 : IntKind.u64.wrap (Int.tdiv (n : Int) 128) = ((n / 128 : Nat) : Int) := by
        rw [Int.tdiv_eq_ediv_of_nonneg (Int.natCast_nonneg _)]
        exact (u64_in (by omega) (by omega)).trans (by omega)
      have e2 : ((((Int.tmod (n : Int) 128) % 256) + 128) % 256) = ((n % 128 + 128 : Nat) : Int) := by
        rw [Int.tmod_eq_emod_of_nonneg (Int.natCast_nonneg _)]; omega
      have hl := varF_len (d + 1) (n / 128)
      rw [if_neg (by omega), if_neg hn, Option.bind_some, e1, e2, ih (n / 128) m hq (by omega) (by omega) (by omega), Option.bind_some, if_pos (by rw [List.length_singleton]; omega)]
      rfl
theorem rvarying_eq (n k : Nat) (hn : n < 18446744073709551616) (hk : 10 ≤ k) : retargetref42_varying.f k (n : Int) = some (varF 10 n) := rvarying_go 9 n k (by omega) hn (by omega) (by omega)
/-! ### the reference -/
theorem rpack_j1 (l : List S72) (k i : Nat) (hi : i < l.length) (hl : l.length ≤ 1000) (b : List Int) (hb : b.length ≤ 1000000) (d : Nat) (m : Int) (hd : d < 18446744073709551616) (h0 : -2305843009213693952 ≤ m) (h1 : m < 2305843009213693952) (hk : 20 ≤ k) :
    retargetref42_Pack.j1 (k + 1) l b (i : Int) (d : Int) m (decide (shortP d m)) = retargetref42_Pack.l0 k l (b ++ stepV d m) ((rw_ l i).f0) ((rw_ l i).f1) ((i + 1 : Nat) : Int) := by
  rw [retargetref42_Pack.j1]
  unfold stepV
  by_cases h : shortP d m
  · obtain ⟨s1, s2, s3, s4⟩ := h
    have e : (wrap64 ((wrap64 ((wrap64 (32 + (wrap64 (16 * (wrap64 ((wrap64 (d : Int)) - 1)))))) + m)) + 8)) % 256 = 32 + 16 * ((d : Int) - 1) + m + 8 := by
      rw [wrap_small (x := (d : Int)) (by omega) (by omega), wrap_small (x := (d : Int) - 1) (by omega) (by omega), wrap_small (x := 16 * ((d : Int) - 1)) (by omega) (by omega), wrap_small (x := 32 + 16 * ((d : Int) - 1)) (by omega) (by omega), wrap_small (x := 32 + 16 * ((d : Int) - 1) + m) (by omega) (by omega), wrap_small (by omega) (by omega)]
      omega
    have hp : shortP d m := ⟨s1, s2, s3, s4⟩
    rw [decide_eq_true hp, if_pos rfl, if_pos (by omega), if_pos (by omega), if_pos (by omega), if_pos hp, e, rd_nat, w_add1 i (by omega)]
  · have hf := foldN_lt (m := m) (by omega) (by omega)
    have l1 := varF_len 10 d
    have l2 := varF_len 10 (foldN m)
    have key : (if m < 0 then IntKind.u64.wrap (wrap64 ((wrap64 ((-2) * m)) - 1)) else IntKind.u64.wrap (wrap64 (2 * m))) = (foldN m : Int) := by
      have := fold_eq (m := m) h0 h1
      unfold rows_fold.f at this
      by_cases hm : m < 0
      · rw [if_pos hm] at this ⊢; exact Option.some.inj this
      · rw [if_neg hm] at this ⊢; exact Option.some.inj this
    have e9 : ((b ++ [1]) ++ varF 10 d) ++ varF 10 (foldN m) = b ++ 1 :: (varF 10 d ++ varF 10 (foldN m)) := by simp
    rw [decide_eq_false h, if_neg (by decide), if_neg h]
    by_cases hm : m < 0
    · rw [if_pos hm] at key
      rw [if_pos hm, if_pos (by omega), Option.bind_some, rvarying_eq d k hd (by omega), Option.bind_some, if_pos (by rw [List.length_append, List.length_singleton]; omega), Option.bind_some, key, rvarying_eq (foldN m) k (by omega) (by omega), Option.bind_some, if_pos (by rw [List.length_append, List.length_append, List.length_singleton]; omega), if_pos (by omega), if_pos (by omega), e9, rd_nat, w_add1 i (by omega)]
    · rw [if_neg hm] at key
      rw [if_neg hm, if_pos (by omega), Option.bind_some, rvarying_eq d k hd (by omega), Option.bind_some, if_pos (by rw [List.length_append, List.length_singleton]; omega), Option.bind_some, key, rvarying_eq (foldN m) k (by omega) (by omega), Option.bind_some, if_pos (by rw [List.length_append, List.length_append, List.length_singleton]; omega), if_pos (by omega), if_pos (by omega), e9, rd_nat, w_add1 i (by omega)]
theorem rpack_l0 (l : List S72) (g : Good l) : ∀ d k i, i + d = l.length → 2 * d + 50 < k →
    retargetref42_Pack.l0 k l (bytesL l i) (prev (fun j => (rw_ l j).f0) i) (prev (fun j => (rw_ l j).f1) i) (i : Int) = some (bytesL l l.length ++ [0], 0) := by
  have hl := g.len
  intro d
  induction d with
  | zero =>
    intro k i h1 h2
    obtain ⟨m, rfl⟩ : ∃ m, k = m + 1 := ⟨k - 1, by omega⟩
    obtain rfl : i = l.length := by omega
    have hb := bytesL_len l l.length
    rw [retargetref42_Pack.l0, if_neg (by omega), if_pos (by omega)]
  | succ d ih =>
    intro k i h1 h2
    obtain ⟨m, rfl⟩ : ∃ m, k = m + 2 := ⟨k - 2, by omega⟩
    have hi : i < l.length := by omega
    have hb := bytesL_len l i
    have hm := good_m g hi
    have hdm := dM_good g hi
    have ih := ih m (i + 1) (by omega) (by omega)
    have hj := rpack_j1 l m i hi hl (bytesL l i) (by omega) (dD l i) (dM l i) (dD_lt l i) (by omega) (by omega) (by omega)
    have e1 : IntKind.u64.wrap ((rw_ l i).f0 - prev (fun j => (rw_ l j).f0) i) = (dD l i : Int) := (dD_cast l i).symm
    have e2 : wrap64 ((rw_ l i).f1 - prev (fun j => (rw_ l j).f1) i) = dM l i := rfl
    have fin : retargetref42_Pack.j1 (m + 1) l (bytesL l i) (i : Int) (dD l i : Int) (dM l i) (decide (shortP (dD l i) (dM l i))) = some (bytesL l l.length ++ [0], 0) := hj.trans ih
    rw [show m + 2 = (m + 1) + 1 from rfl, retargetref42_Pack.l0, if_pos (by omega), if_pos (by omega), rd_nat, e1, e2]
    by_cases c1 : (dD l i : Int) ≥ 1
    · rw [if_pos c1]
      by_cases c2 : (dD l i : Int) ≤ 14
      · rw [if_pos c2]
        by_cases c3 : dM l i ≥ -8
        · rw [if_pos c3]
          rw [decide_eq_decide.2 (show shortP (dD l i) (dM l i) ↔ dM l i ≤ 7 from ⟨fun h => h.2.2.2, fun h => ⟨by omega, by omega, c3, h⟩⟩)] at fin
          exact fin
        · rw [if_neg c3]
          rw [decide_eq_false (fun h : shortP (dD l i) (dM l i) => c3 h.2.2.1)] at fin
          exact fin
      · rw [if_neg c2]
        rw [decide_eq_false (fun h : shortP (dD l i) (dM l i) => c2 (by have := h.2.1; omega))] at fin
        exact fin
    · rw [if_neg c1]
      rw [decide_eq_false (fun h : shortP (dD l i) (dM l i) => c1 (by have := h.1; omega))] at fin
      exact fin
theorem rpack_eq (l : List S72) (k : Nat) (hk : 2100 < k) : retargetref42_Pack.f k l = some (packV l) := by
  unfold retargetref42_Pack.f packV
  rw [rcheck_eq l k (.inr (by omega)), Option.bind_some]
  by_cases hc : checkL l = 0
  · have g := good_of hc
    have hl := g.len
    rw [if_pos hc, if_pos hc]
    exact rpack_l0 l g l.length k 0 (by omega) (by omega)
  · rw [if_neg hc, if_neg hc]
end Go.Proofs.Ytbckdelbkcfjkaa.RoP
