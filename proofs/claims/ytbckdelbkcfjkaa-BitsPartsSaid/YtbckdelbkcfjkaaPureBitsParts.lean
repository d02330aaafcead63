/- The plain law of BitsParts: the program's parts of bit vectors are the reference's, for all arguments. -/
import Derived.Test.YtbckdelbkcfjkaaBiPParts
import Derived.Test.YtbckdelbkcfjkaaBiFretargetlaw01BitsParts
namespace Go.Proofs.Ytbckdelbkcfjkaa.Pure
set_option linter.unusedVariables false
set_option linter.unusedSimpArgs false
open Go.RowKit Go.Proofs.Ytbckdelbkcfjkaa.Bi Go.Proofs.Ytbckdelbkcfjkaa.BiP

theorem parts_signed (w : Int) (x : Nat) (hx : x < 2 ^ 64) (k : Nat) (hk : 500 ≤ k) : ∃ r, bits_Signed.f k w (x : Int) = some r ∧ retargetref01_Signed.f k w (x : Int) = some r := by
  rcases wide_or w with ⟨n, rfl, hw⟩ | hw
  · exact ⟨_, Signed_yes hw x k (by omega), rSigned_yes hw x k hx (by omega)⟩
  · exact ⟨_, Signed_no hw _ k, rSigned_no hw _ k⟩
theorem parts_of (w n : Int) (h0 : -9223372036854775808 ≤ n) (h1 : n < 9223372036854775808) (k : Nat) (hk : 500 ≤ k) : ∃ r, bits_Of.f w n = some r ∧ retargetref01_Of.f k w n = some r := by
  rcases wide_or w with ⟨m, rfl, hw⟩ | hw
  · exact ⟨_, Of_yes hw n, rOf_yes hw n h0 h1 k (by omega)⟩
  · exact ⟨_, Of_no hw _, rOf_no hw _ k⟩
theorem parts_ok (w : Int) (x : Nat) (hx : x < 2 ^ 64) (k : Nat) (hk : 500 ≤ k) : ∃ r, bits_Ok.f w (x : Int) = some r ∧ retargetref01_Ok.f k w (x : Int) = some r := by
  rcases wide_or w with ⟨m, rfl, hw⟩ | hw
  · exact ⟨_, ok_yes hw x, rok_yes hw x k hx (by omega)⟩
  · exact ⟨_, ok_no hw _, rok_no hw _ k⟩
theorem parts_mask (w : Int) (k : Nat) (hk : 500 ≤ k) : ∃ r, bits_Mask.f w = some r ∧ retargetref01_Mask.f k w = some r := by
  rcases wide_or w with ⟨m, rfl, hw⟩ | hw
  · exact ⟨_, mask_yes hw, rmask_yes hw k (by omega)⟩
  · exact ⟨_, mask_no hw, rmask_no hw k⟩
theorem parts_extract (w : Int) (x : Nat) (low many : Int) (h0 : -9223372036854775808 ≤ low) (h1 : low < 9223372036854775808) (hx : x < 2 ^ 64) (k : Nat) (hk : 500 ≤ k) :
    ∃ r, bits_Extract.f k w (x : Int) low many = some r ∧ retargetref01_Extract.f k w (x : Int) low many = some r := by
  rcases wide_or w with ⟨n, rfl, hw⟩ | hw
  · exact ⟨_, Extract_yes hw x k low many h0 h1 hx (by omega), rExtract_yes hw x k low many h0 h1 hx (by omega)⟩
  · exact ⟨_, Extract_no hw _ _ _ k, rExtract_no hw _ _ _ k⟩
theorem parts_concat (h l : Int) (a b : Nat) (ha : a < 2 ^ 64) (hb : b < 2 ^ 64) (k : Nat) (hk : 500 ≤ k) :
    ∃ r, bits_Concat.f k h (a : Int) l (b : Int) = some r ∧ retargetref01_Concat.f k h (a : Int) l (b : Int) = some r := by
  by_cases hn : (1 ≤ h ∧ h ≤ 64) ∧ (1 ≤ l ∧ l ≤ 64)
  · rcases wide_or h with ⟨n, rfl, hw⟩ | hw
    · rcases wide_or l with ⟨m, rfl, hm⟩ | hm
      · exact ⟨_, Concat_yes hw hm a b k (by omega), rConcat_yes hw hm a b k ha hb (by omega)⟩
      · exact absurd hn.2 hm
    · exact absurd hn.1 hw
  · exact ⟨_, Concat_no hn _ _ k (by omega), rConcat_no hn _ _ k (by omega)⟩
theorem parts_extend (w t : Int) (x : Nat) (s : Bool) (hx : x < 2 ^ 64) (k : Nat) (hk : 500 ≤ k) :
    ∃ r, bits_Extend.f k w (x : Int) t s = some r ∧ retargetref01_Extend.f k w (x : Int) t s = some r := by
  by_cases hn : (1 ≤ w ∧ w ≤ 64) ∧ (1 ≤ t ∧ t ≤ 64)
  · rcases wide_or w with ⟨n, rfl, hw⟩ | hw
    · rcases wide_or t with ⟨m, rfl, hm⟩ | hm
      · exact ⟨_, Extend_yes hw hm x k s (by omega), rExtend_yes hw hm x k s hx (by omega)⟩
      · exact absurd hn.2 hm
    · exact absurd hn.1 hw
  · exact ⟨_, Extend_no hn _ s k (by omega), rExtend_no hn _ s k (by omega)⟩
theorem parts_j2 (w t : Int) (x : Nat) (s : Bool) (hx : x < 2 ^ 64) (k : Nat) (hk : 500 ≤ k) : retargetlaw01_BitsParts.j2 (k + 1) w t (x : Int) s false = some true := by
  obtain ⟨r, h1, h2⟩ := parts_extend w t x s hx k hk
  simp only [retargetlaw01_BitsParts.j2]
  rw [if_neg (by decide), h1, Option.bind_some, h2, Option.bind_some, if_pos rfl, beq_self_eq_true]
theorem parts_j1 (w t : Int) (x y : Nat) (s : Bool) (hx : x < 2 ^ 64) (hy : y < 2 ^ 64) (k : Nat) (hk : 500 ≤ k) : retargetlaw01_BitsParts.j1 (k + 2) w t (x : Int) (y : Int) s false = some true := by
  obtain ⟨r, h1, h2⟩ := parts_concat w t x y hx hy (k + 1) (by omega)
  simp only [retargetlaw01_BitsParts.j1]
  rw [if_neg (by decide), h1, Option.bind_some, h2, Option.bind_some, if_pos rfl, bne_self_eq_false]
  exact parts_j2 w t x s hx k hk
theorem parts_j0 (w t : Int) (x y : Nat) (n : Int) (s : Bool) (ht0 : -9223372036854775808 ≤ t) (ht1 : t < 9223372036854775808) (hx : x < 2 ^ 64) (hy : y < 2 ^ 64) (k : Nat) (hk : 500 ≤ k) :
    retargetlaw01_BitsParts.j0 (k + 3) w t (x : Int) (y : Int) n s false = some true := by
  obtain ⟨r, h1, h2⟩ := parts_extract w x t n ht0 ht1 hx (k + 2) (by omega)
  simp only [retargetlaw01_BitsParts.j0]
  rw [if_neg (by decide), h1, Option.bind_some, h2, Option.bind_some, if_pos rfl, bne_self_eq_false]
  exact parts_j1 w t x y s hx hy k hk
theorem BitsParts : retargetlaw01_BitsParts.Pure := by
  intro w t x y n s hw ht hx hy hn
  obtain ⟨x, rfl, hx64⟩ := wf_u64 hx
  obtain ⟨y, rfl, hy64⟩ := wf_u64 hy
  obtain ⟨ht0, ht1⟩ := wf_i64 ht
  obtain ⟨hn0, hn1⟩ := wf_i64 hn
  refine ⟨503, ?_⟩
  obtain ⟨r1, a1, a2⟩ := parts_signed w x hx64 503 (by omega)
  obtain ⟨r2, b1, b2⟩ := parts_of w n hn0 hn1 503 (by omega)
  obtain ⟨r3, c1, c2⟩ := parts_ok w x hx64 503 (by omega)
  obtain ⟨r4, d1, d2⟩ := parts_mask w 503 (by omega)
  have e := parts_j0 w t x y n s ht0 ht1 hx64 hy64 500 (by omega)
  unfold retargetlaw01_BitsParts.f
  rw [a1, Option.bind_some, a2, Option.bind_some, b1, Option.bind_some, b2, Option.bind_some, if_pos rfl, if_pos rfl, if_pos rfl, if_pos rfl, c1, Option.bind_some, c2, Option.bind_some, bne_self_eq_false, if_neg (by decide), d1, Option.bind_some, d2, Option.bind_some, bne_self_eq_false]
  exact e
end Go.Proofs.Ytbckdelbkcfjkaa.Pure
