/- The plain law of BitsDivides: quotient and remainder give the number back, for every width and two values. -/
import Derived.Test.YtbckdelbkcfjkaaBiPAlive
import Derived.Test.YtbckdelbkcfjkaaBiFretargetlaw01BitsDivides
namespace Go.Proofs.Ytbckdelbkcfjkaa.Pure
set_option linter.unusedVariables false
set_option linter.unusedSimpArgs false
open Go.RowKit Go.Proofs.Ytbckdelbkcfjkaa.Bi Go.Proofs.Ytbckdelbkcfjkaa.BiP
theorem BitsDivides : retargetlaw01_BitsDivides.Pure := by
  intro v x y hv hx hy
  obtain ⟨v, rfl, hv8⟩ := wf_u8 hv
  obtain ⟨x, rfl, hx64⟩ := wf_u64 hx
  obtain ⟨y, rfl, hy64⟩ := wf_u64 hy
  refine ⟨200, ?_⟩
  obtain ⟨w, a, hw, ha, ew, _, e1⟩ := cut_eq v x hx64
  obtain ⟨w', b, hw', hb, ew', _, e2⟩ := cut_eq v y hy64
  obtain rfl : w = w' := by omega
  have hk : 3 ≤ 200 := by omega
  have hq := op_of (bin_udiv hw 200 hk ha hb)
  have hr := op_of (bin_urem hw 200 hk ha hb)
  unfold retargetlaw01_BitsDivides.f
  rw [e1, Option.bind_some, e2, Option.bind_some, hq, Option.bind_some, hr, Option.bind_some, alive_eq 200 (by omega)]
  by_cases h0 : b = 0
  · rw [if_pos (show (b : Int) = 0 by omega), Option.bind_some, if_pos rfl, mask_yes hw, Option.bind_some, if_pos (by rw [if_pos h0]), if_pos h0, beq_self_eq_true]
  · rw [if_neg (show ¬ (b : Int) = 0 by omega), Option.bind_some, if_pos rfl, if_neg h0, if_neg h0]
    have hlt : a % b < b := Nat.mod_lt _ (by omega)
    have hql : a / b < 2 ^ w := Nat.lt_of_le_of_lt (Nat.div_le_self _ _) ha
    have hrl : a % b < 2 ^ w := Nat.lt_trans hlt hb
    have hm : a / b * b ≤ a := Nat.div_mul_le_self a b
    have hml : a / b * b < 2 ^ w := Nat.lt_of_le_of_lt hm ha
    have hsum : a / b * b + a % b = a := by rw [Nat.mul_comm]; exact Nat.div_add_mod a b
    have h1 := op_of (bin_ult hw 200 hk hrl hb)
    have h2 := op_of (bin_mul hw 200 hk hql hb)
    rw [Nat.mod_eq_of_lt hml] at h2
    have h3 := op_of (bin_add hw 200 hk hml hrl)
    rw [hsum, Nat.mod_eq_of_lt ha] at h3
    rw [if_pos hlt] at h1
    have hle : a / b ≤ a := Nat.div_le_self _ _
    rw [h1, Option.bind_some, if_pos (by rfl), h2, Option.bind_some, h3, Option.bind_some, if_pos rfl, decide_eq_true (show ((a / b : Nat) : Int) ≤ (a : Int) from Int.ofNat_le.2 hle)]
end Go.Proofs.Ytbckdelbkcfjkaa.Pure
