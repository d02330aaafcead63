/- The plain law of BitsOperate: Unary and Binary answer as the reference's do, at any kind, width and values. No condition. -/
import Derived.Test.YtbckdelbkcfjkaaBiPRefB
import Derived.Test.YtbckdelbkcfjkaaBiFretargetref01Unary
import Derived.Test.YtbckdelbkcfjkaaBiFretargetlaw01BitsOperate
namespace Go.Proofs.Ytbckdelbkcfjkaa.BiP
set_option linter.unusedVariables false
set_option linter.unusedSimpArgs false
open Go.RowKit Go.Proofs.Ytbckdelbkcfjkaa.Bi Go.Proofs.YtbckdelbkcfjkaaW.PrintWords Go.Proofs.YtbckdelbkcfjkaaW.PrintLast Go.Proofs.YtbckdelbkcfjkaaW.PrintMore
theorem una_no {w : Int} (hw : ¬ (1 ≤ w ∧ w ≤ 64)) (n a : Int) (k : Nat) : bits_Unary.f k n w a = some (0, 14) ∧ retargetref01_Unary.f k n w a = some (0, 14) := by
  constructor
  · unfold bits_Unary.f; rw [wide_no hw, Option.bind_some, if_neg (by decide)]
  · unfold retargetref01_Unary.f; rw [rwide_no hw, Option.bind_some, if_neg (by decide)]
theorem una_kind {w : Nat} (hw : W w) (n a : Int) (k : Nat) (hk : 1 ≤ k) (h3 : n ≠ 3) (h4 : n ≠ 4) : bits_Unary.f k n (w : Int) a = some (0, 2) ∧ retargetref01_Unary.f k n (w : Int) a = some (0, 2) := by
  obtain ⟨m, rfl⟩ : ∃ m, k = m + 1 := ⟨k - 1, by omega⟩
  constructor
  · unfold bits_Unary.f; rw [wide_yes hw, Option.bind_some, if_pos rfl, if_neg h3, if_neg h4]
  · unfold retargetref01_Unary.f; rw [rwide_yes hw, Option.bind_some, if_pos rfl, if_neg h3, bne_iff_ne.mpr h4, retargetref01_Unary.j0, if_pos rfl]
theorem runa_top {w : Nat} (hw : W w) (n a : Int) (m : Nat) (h : n = 3 ∨ n = 4) : retargetref01_Unary.f m n (w : Int) a = retargetref01_Unary.j0 m n (w : Int) a false := by
  unfold retargetref01_Unary.f
  rw [rwide_yes hw, Option.bind_some, if_pos rfl]
  rcases h with rfl | rfl
  · rw [if_pos rfl]
  · rw [if_neg (by decide)]; rfl
theorem una_bad {w : Nat} (hw : W w) (n : Int) (a : Nat) (ha : a < 2 ^ 64) (k : Nat) (hk : 200 ≤ k) (h : n = 3 ∨ n = 4) (hb : ¬ a < 2 ^ w) : bits_Unary.f k n (w : Int) (a : Int) = some (0, 8) ∧ retargetref01_Unary.f k n (w : Int) (a : Int) = some (0, 8) := by
  obtain ⟨m, rfl⟩ : ∃ m, k = m + 1 := ⟨k - 1, by omega⟩
  constructor
  · unfold bits_Unary.f
    rw [wide_yes hw, Option.bind_some, if_pos rfl, check_one hw a (m + 1) (by omega)]
    unfold chk
    rcases h with rfl | rfl
    · rw [if_pos rfl, if_neg hb, Option.bind_some, if_neg (by decide)]
    · rw [if_neg (by decide), if_pos rfl, if_neg hb, Option.bind_some, if_neg (by decide)]
  · rw [runa_top hw n _ (m + 1) h, retargetref01_Unary.j0, if_neg (by decide), rok_yes hw a m ha (by omega), Option.bind_some, decide_eq_false hb, if_neg (by decide)]
theorem runa_not {w : Nat} (hw : W w) {a : Nat} (ha : a < 2 ^ w) (k : Nat) (hk : 300 ≤ k) : retargetref01_Unary.f k 3 (w : Int) (a : Int) = some (((2 ^ w - 1 - a : Nat) : Int), 0) := by
  obtain ⟨m, rfl⟩ : ∃ m, k = m + 1 := ⟨k - 1, by omega⟩
  have hp := pow_pos w
  rw [runa_top hw 3 _ (m + 1) (.inl rfl), retargetref01_Unary.j0, if_neg (by decide), rok_yes hw a m (small_of hw ha) (by omega), Option.bind_some, decide_eq_true ha, if_pos rfl, bits_eq a w m (small_of hw ha) hw.2 (by omega), Option.bind_some, not_eq ha (by have := hw.2; omega) m (by omega), Option.bind_some, if_neg (by decide), num_bits _ w m hw.2 (by omega), Option.bind_some, Nat.mod_eq_of_lt (by omega)]
theorem runa_neg {w : Nat} (hw : W w) {a : Nat} (ha : a < 2 ^ w) (k : Nat) (hk : 300 ≤ k) : retargetref01_Unary.f k 4 (w : Int) (a : Int) = some ((((2 ^ w - a) % 2 ^ w : Nat) : Int), 0) := by
  obtain ⟨m, rfl⟩ : ∃ m, k = m + 1 := ⟨k - 1, by omega⟩
  have hp := pow_pos w
  have e : retargetref01_add.f m (bitsL (2 ^ w - 1 - a) w) (bitsL 0 w) 1 = _ := add_eq (x := 2 ^ w - 1 - a) (y := 0) (c := 1) (n := w) (by omega) (by have := hw.2; omega) m (by omega)
  rw [runa_top hw 4 _ (m + 1) (.inr rfl), retargetref01_Unary.j0, if_neg (by decide), rok_yes hw a m (small_of hw ha) (by omega), Option.bind_some, decide_eq_true ha, if_pos rfl, bits_eq a w m (small_of hw ha) hw.2 (by omega), Option.bind_some, not_eq ha (by have := hw.2; omega) m (by omega), Option.bind_some, if_pos rfl, zeros_eq w (by have := hw.2; omega), Option.bind_some, e, Option.bind_some, num_bits _ w m hw.2 (by omega), Option.bind_some, show 2 ^ w - 1 - a + 0 + 1 = 2 ^ w - a by omega]
theorem una_same (n w : Int) (a : Nat) (ha : a < 2 ^ 64) (k : Nat) (hk : 1000 ≤ k) : ∃ r, bits_Unary.f k n w (a : Int) = some r ∧ retargetref01_Unary.f k n w (a : Int) = some r := by
  rcases wide_or w with ⟨w, rfl, hw⟩ | hw
  · by_cases h : n = 3 ∨ n = 4
    · by_cases hb : a < 2 ^ w
      · rcases h with rfl | rfl
        · exact ⟨_, rg_unot hw hb k (by omega), runa_not hw hb k (by omega)⟩
        · exact ⟨_, rg_uneg hw hb k (by omega), runa_neg hw hb k (by omega)⟩
      · exact ⟨_, una_bad hw n a ha k (by omega) h hb⟩
    · exact ⟨_, una_kind hw n _ k (by omega) (fun e => h (.inl e)) (fun e => h (.inr e))⟩
  · exact ⟨_, una_no hw n _ k⟩
theorem bina_same (n : Nat) (w : Int) (a b : Nat) (ha : a < 2 ^ 64) (hb : b < 2 ^ 64) (k : Nat) (hk : 1000 ≤ k) : ∃ r, bits_Binary.f k (n : Int) w (a : Int) (b : Int) = some r ∧ retargetref01_Binary.f k (n : Int) w (a : Int) (b : Int) = some r := by
  rcases wide_or w with ⟨w, rfl, hw⟩ | hw
  · by_cases h : 5 ≤ n ∧ n ≤ 18
    · by_cases hab : a < 2 ^ w ∧ b < 2 ^ w
      · obtain ⟨v, h1, h2⟩ := bin_same hw k hk hab.1 hab.2 n h.1 h.2
        exact ⟨_, h1, h2⟩
      · exact ⟨_, bin_bad hw n a b k (by omega) h.1 h.2 hab, rbin_bad hw (n : Int) a b ha hb k (by omega) (by omega) (by omega) hab⟩
    · exact ⟨_, bin_kind hw (n : Int) _ _ k (by omega), rbin_kind hw (n : Int) _ _ k (by omega) (by omega)⟩
  · exact ⟨_, bin_no hw _ _ _ k, rbin_no hw _ _ _ k⟩
end Go.Proofs.Ytbckdelbkcfjkaa.BiP
namespace Go.Proofs.Ytbckdelbkcfjkaa.Pure
open Go.RowKit Go.Proofs.Ytbckdelbkcfjkaa.Bi Go.Proofs.Ytbckdelbkcfjkaa.BiP
theorem BitsOperate : retargetlaw01_BitsOperate.Pure := by
  intro n w a b hn hw ha hb
  obtain ⟨n, rfl, hn8⟩ := wf_u8 hn
  obtain ⟨a, rfl, ha64⟩ := wf_u64 ha
  obtain ⟨b, rfl, hb64⟩ := wf_u64 hb
  obtain ⟨r, h1, h2⟩ := una_same (n : Int) w a ha64 1000 (Nat.le_refl _)
  obtain ⟨s, h3, h4⟩ := bina_same n w a b ha64 hb64 1000 (Nat.le_refl _)
  refine ⟨1000, ?_⟩
  unfold retargetlaw01_BitsOperate.f
  rw [h1, Option.bind_some, h2, Option.bind_some, h3, Option.bind_some, h4, Option.bind_some, if_pos rfl, if_pos rfl, if_pos rfl, beq_self_eq_true]
end Go.Proofs.Ytbckdelbkcfjkaa.Pure
