/- The plain law of BitsTexts: names, texts and parsers of the program are the reference's, for any bit vector and any string of at most 1,000 bytes. -/
import Derived.Test.YtbckdelbkcfjkaaBiPParse
import Derived.Test.YtbckdelbkcfjkaaBiPName
import Derived.Test.YtbckdelbkcfjkaaBiFretargetlaw01BitsTexts
namespace Go.Proofs.Ytbckdelbkcfjkaa.Pure
open Go.RowKit Go.Proofs.Ytbckdelbkcfjkaa.Bi Go.Proofs.Ytbckdelbkcfjkaa.BiP
theorem texts_text (w : Int) (x : Nat) (hx : x < 2 ^ 64) (k : Nat) (hk : 500 ≤ k) : ∃ r, bits_Text.f k w (x : Int) = some r ∧ retargetref01_Text.f k w (x : Int) = some r := by
  rcases wide_or w with ⟨n, rfl, hw⟩ | hw
  · exact ⟨_, text_yes hw x k hx (by omega), rtext_yes hw x k hx (by omega)⟩
  · exact ⟨_, text_no hw _ k, rtext_no hw _ k⟩
theorem BitsTexts : retargetlaw01_BitsTexts.Pure := by
  intro w x s hw hx hs
  obtain ⟨x, rfl, hx64⟩ := wf_u64 hx
  refine ⟨200000, ?_⟩
  unfold retargetlaw01_BitsTexts.f
  by_cases h : (s.size : Int) > 1000
  · rw [if_pos h]
  · obtain ⟨r, h1, h2⟩ := texts_text w x hx64 200000 (by omega)
    rw [if_neg h, h1, Option.bind_some, h2, Option.bind_some, parse_eq s (by omega) _ (by omega), Option.bind_some, rparse_eq s (by omega) _ (by omega), Option.bind_some, if_pos rfl, if_pos rfl, if_pos rfl, if_pos rfl, if_pos rfl, name_eq1 s _ (by omega), Option.bind_some, name_eq2 s _ (by omega), Option.bind_some, beq_self_eq_true]
end Go.Proofs.Ytbckdelbkcfjkaa.Pure
