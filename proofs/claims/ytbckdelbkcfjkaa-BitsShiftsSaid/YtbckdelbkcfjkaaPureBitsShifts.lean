/- The plain law of BitsShifts: shifting by one place more is shifting once more by one place, and what goes with it, for every width and two values. -/
import Derived.Test.YtbckdelbkcfjkaaBiPAlive
import Derived.Test.YtbckdelbkcfjkaaBiFretargetlaw01BitsShifts
namespace Go.Proofs.Ytbckdelbkcfjkaa.Pure
set_option linter.unusedVariables false
set_option linter.unusedSimpArgs false
open Go.RowKit Go.Proofs.Ytbckdelbkcfjkaa.Bi Go.Proofs.Ytbckdelbkcfjkaa.BiP Go.Proofs.YtbckdelbkcfjkaaW.PrintWords

theorem sh_dvd {a w m : Nat} (h : w ≤ m) : a * 2 ^ m % 2 ^ w = 0 := by
  have : 2 ^ w ∣ 2 ^ m := Nat.pow_dvd_pow 2 h
  exact Nat.mod_eq_zero_of_dvd (Nat.dvd_trans this (Nat.dvd_mul_left _ _))
/-- One place more, for each of the three shifts. -/
theorem sh_more {w : Nat} (hw : W w) {a b : Nat} (ha : a < 2 ^ w) (hb : b < w) (hb1 : b + 1 < 2 ^ w) (n : Nat) (hn : n = 11 ∨ n = 12 ∨ n = 13) (k : Nat) (hk : 3 ≤ k) :
    ∃ r s : Nat, retargetlaw01_op.f k (n : Int) (w : Int) (a : Int) (b : Int) = some (r : Int) ∧ retargetlaw01_op.f k (n : Int) (w : Int) (r : Int) ((1 : Nat) : Int) = some (s : Int) ∧
      retargetlaw01_op.f k (n : Int) (w : Int) (a : Int) ((b + 1 : Nat) : Int) = some (s : Int) := by
  have hw2 := hw.2
  have hbw : b < 2 ^ w := by omega
  have h1w : 1 < 2 ^ w := by omega
  have m1 : min b 64 = b := Nat.min_eq_left (by omega)
  have m2 : min (b + 1) 64 = b + 1 := Nat.min_eq_left (by omega)
  have m3 : min 1 64 = 1 := rfl
  rcases hn with rfl | rfl | rfl
  · have hr : a * 2 ^ b % 2 ^ w < 2 ^ w := Nat.mod_lt _ (Nat.two_pow_pos w)
    have x1 := op_of (bin_shl hw k hk ha hbw)
    have x2 := op_of (bin_shl hw k hk hr h1w)
    have x3 := op_of (bin_shl hw k hk ha hb1)
    rw [m1] at x1
    rw [m2] at x3
    rw [m3, Nat.pow_one, Nat.mod_mul_mod, Nat.mul_assoc, ← Nat.pow_succ] at x2
    exact ⟨_, _, x1, x2, x3⟩
  · have hr : a / 2 ^ b < 2 ^ w := Nat.lt_of_le_of_lt (Nat.div_le_self _ _) ha
    have x1 := op_of (bin_shr hw k hk ha hbw)
    have x2 := op_of (bin_shr hw k hk hr h1w)
    have x3 := op_of (bin_shr hw k hk ha hb1)
    rw [m1] at x1
    rw [m2] at x3
    rw [m3, Nat.pow_one, Nat.div_div_eq_div_mul, ← Nat.pow_succ] at x2
    exact ⟨_, _, x1, x2, x3⟩
  · have hs := sgn_lo hw ha
    have hd := div_lo hw (m := b) (sgn w a) hs.1 hs.2
    have hr := cutN_lt w (sgn w a / ((2 ^ b : Nat) : Int))
    have x1 := op_of (bin_sar hw k hk ha hbw)
    have x2 := op_of (bin_sar hw k hk hr h1w)
    have x3 := op_of (bin_sar hw k hk ha hb1)
    rw [m1] at x1
    rw [m2] at x3
    have e : sgn w a / ((2 ^ b : Nat) : Int) / ((2 ^ 1 : Nat) : Int) = sgn w a / ((2 ^ (b + 1) : Nat) : Int) := by
      rw [Int.ediv_ediv_of_nonneg (Int.natCast_nonneg _), ← Int.natCast_mul, ← Nat.pow_succ]
    rw [m3, sgn_cut hw _ hd.1 hd.2, e] at x2
    exact ⟨_, _, x1, x2, x3⟩
theorem sh_l0 {w : Nat} (hw : W w) {a b : Nat} (ha : a < 2 ^ w) (hb : b < w) (hb1 : b + 1 < 2 ^ w) (k : Nat) (hk : 10 ≤ k) :
    retargetlaw01_BitsShifts.l0 k (w : Int) (a : Int) (b : Int) [11, 12, 13] ((3 : Nat) : Int) 0 = some true := by
  have hw2 := hw.2
  have hu : IntKind.u64.wrap ((b : Int) + 1) = ((b + 1 : Nat) : Int) := u64_small (by omega) (by omega)
  have st : ∀ (m : Nat) (i : Nat) (n : Nat), 3 ≤ m → i < 3 → (n = 11 ∨ n = 12 ∨ n = 13) → rd [11, 12, 13] (i : Int) = (n : Int) →
      retargetlaw01_BitsShifts.l0 (m + 1) (w : Int) (a : Int) (b : Int) [11, 12, 13] ((3 : Nat) : Int) (i : Int) = retargetlaw01_BitsShifts.l0 m (w : Int) (a : Int) (b : Int) [11, 12, 13] ((3 : Nat) : Int) ((i + 1 : Nat) : Int) := by
    intro m i n hm hi hn hr
    obtain ⟨r, s, x1, x2, x3⟩ := sh_more hw ha hb hb1 n hn m hm
    simp only [retargetlaw01_BitsShifts.l0]
    rw [if_pos (by omega), if_pos (by omega), if_pos (show (i : Int) < (([11, 12, 13] : List Int).length : Int) by show (i : Int) < 3; omega), hr, x1, Option.bind_some]
    have x2' : retargetlaw01_op.f m (n : Int) (w : Int) (r : Int) 1 = some (s : Int) := x2
    rw [x2', Option.bind_some, hu, x3, Option.bind_some, if_pos rfl, w_add1 i (by omega)]
  obtain ⟨m, rfl⟩ : ∃ m', k = m' + 1 := ⟨k - 1, by omega⟩
  rw [show (0 : Int) = ((0 : Nat) : Int) from rfl, st m 0 11 (by omega) (by omega) (by omega) rfl]
  obtain ⟨m, rfl⟩ : ∃ m', m = m' + 1 := ⟨m - 1, by omega⟩
  rw [st m 1 12 (by omega) (by omega) (by omega) rfl]
  obtain ⟨m, rfl⟩ : ∃ m', m = m' + 1 := ⟨m - 1, by omega⟩
  rw [st m 2 13 (by omega) (by omega) (by omega) rfl]
  obtain ⟨m, rfl⟩ : ∃ m', m = m' + 1 := ⟨m - 1, by omega⟩
  simp only [retargetlaw01_BitsShifts.l0]
  have x1 := op_of (bin_shr hw m (by omega) ha (show b < 2 ^ w by omega))
  have hle : a / 2 ^ min b 64 ≤ a := Nat.div_le_self _ _
  rw [if_neg (by omega), show (12 : Int) = ((12 : Nat) : Int) from rfl]
  refine (congrArg (fun o => Option.bind o _) x1).trans ?_
  rw [Option.bind_some, decide_eq_true (show ((a / 2 ^ min b 64 : Nat) : Int) ≤ (a : Int) from Int.ofNat_le.2 hle)]
theorem sh_j1 {w : Nat} (hw : W w) {a b : Nat} (ha : a < 2 ^ w) (hbl : b < 2 ^ w) (hb : b < w) (k : Nat) (hk : 20 ≤ k) : retargetlaw01_BitsShifts.j1 k (w : Int) (a : Int) (b : Int) false = some true := by
  obtain ⟨m, rfl⟩ : ∃ m', k = m' + 1 := ⟨k - 1, by omega⟩
  simp only [retargetlaw01_BitsShifts.j1]
  rw [if_neg (by decide), mask_yes hw, Option.bind_some]
  by_cases h : b = 2 ^ w - 1
  · rw [if_pos (by omega)]
  · rw [if_neg (by omega), Option.bind_some]
    exact sh_l0 hw ha hb (by omega) m (by omega)
theorem sh_j0 {w : Nat} (hw : W w) {a b : Nat} (ha : a < 2 ^ w) (hb : b < 2 ^ w) (k : Nat) (hk : 40 ≤ k) :
    retargetlaw01_BitsShifts.j0 k (w : Int) (a : Int) (b : Int) (if sgn w a < 0 then ((2 ^ w - 1 : Nat) : Int) else 0) = some true := by
  have hw2 := hw.2
  have hw1 := hw.1
  have hp := pow_half w hw1
  have hp1 := pow_pos (w - 1)
  have h1w : 1 < 2 ^ w := by omega
  have h0w : 0 < 2 ^ w := by omega
  obtain ⟨m, rfl⟩ : ∃ m', k = m' + 1 := ⟨k - 1, by omega⟩
  have hk3 : 3 ≤ m := by omega
  simp only [retargetlaw01_BitsShifts.j0]
  rw [u64_small (x := (w : Int)) (by omega) (by omega)]
  by_cases hc : b ≥ w
  · have x1 := op_of (bin_shl hw m hk3 ha hb)
    have x2 := op_of (bin_shr hw m hk3 ha hb)
    have x3 := op_of (bin_sar hw m hk3 ha hb)
    have hm : w ≤ min b 64 := by omega
    have hpow : 2 ^ w ≤ 2 ^ min b 64 := Nat.pow_le_pow_right (by decide) hm
    rw [sh_dvd hm] at x1
    rw [Nat.div_eq_of_lt (by omega)] at x2
    rw [if_pos (by omega), x1, Option.bind_some, if_pos (by rfl), x2, Option.bind_some, if_pos (by rfl), x3, Option.bind_some]
    have hs := sgn_lo hw ha
    have e : (cutN w (sgn w a / ((2 ^ min b 64 : Nat) : Int)) : Int) = if sgn w a < 0 then ((2 ^ w - 1 : Nat) : Int) else 0 := by
      by_cases hn : sgn w a < 0
      · have : sgn w a / ((2 ^ min b 64 : Nat) : Int) = -1 := by
          have hlow : -((2 ^ min b 64 : Nat) : Int) ≤ sgn w a := by omega
          have hpos : (0 : Int) < ((2 ^ min b 64 : Nat) : Int) := by omega
          generalize ((2 ^ min b 64 : Nat) : Int) = M at hlow hpos
          have e1 : sgn w a = (sgn w a + M) + (-1) * M := by omega
          rw [e1, Int.add_mul_ediv_right _ _ (by omega), Int.ediv_eq_zero_of_lt (by omega) (by omega)]
          rfl
        rw [if_pos hn, this, cutN_neg1 hw]
      · have : sgn w a / ((2 ^ min b 64 : Nat) : Int) = 0 := Int.ediv_eq_zero_of_lt (by omega) (by omega)
        rw [if_neg hn, this]
        have := cutN_nat w 0
        rw [Nat.zero_mod] at this
        exact congrArg _ this
    rw [e, beq_self_eq_true]
  · have y1 := op_of (bin_shl hw m hk3 ha h0w)
    have y2 := op_of (bin_shr hw m hk3 ha h0w)
    have y3 := op_of (bin_sar hw m hk3 ha h0w)
    rw [show min 0 64 = 0 from rfl, Nat.pow_zero, Nat.mul_one, Nat.mod_eq_of_lt ha] at y1
    rw [show min 0 64 = 0 from rfl, Nat.pow_zero, Nat.div_one] at y2
    rw [show min 0 64 = 0 from rfl, Nat.pow_zero, show ((1 : Nat) : Int) = 1 from rfl, Int.ediv_one, cut_sgn hw ha] at y3
    have z := sh_j1 hw ha hb (by omega) m (by omega)
    rw [if_neg (by omega), show (0 : Int) = ((0 : Nat) : Int) from rfl, y1, Option.bind_some, if_pos rfl, y2, Option.bind_some, if_pos rfl, y3, Option.bind_some, if_pos rfl]
    by_cases hw3 : w > 1
    · have u1 := op_of (bin_shl hw m hk3 ha h1w)
      have u2 := op_of (bin_add hw m hk3 ha ha)
      rw [show min 1 64 = 1 from rfl, Nat.pow_one] at u1
      rw [if_pos (by omega), show (1 : Int) = ((1 : Nat) : Int) from rfl, u1, Option.bind_some, u2, Option.bind_some, show a * 2 = a + a by omega, bne_self_eq_false]
      exact z
    · rw [if_neg (by omega)]
      exact z
theorem BitsShifts : retargetlaw01_BitsShifts.Pure := by
  intro v x y hv hx hy
  obtain ⟨v, rfl, hv8⟩ := wf_u8 hv
  obtain ⟨x, rfl, hx64⟩ := wf_u64 hx
  obtain ⟨y, rfl, hy64⟩ := wf_u64 hy
  refine ⟨200, ?_⟩
  obtain ⟨w, a, hw, ha, ew, _, e1⟩ := cut_eq v x hx64
  obtain ⟨w', b, hw', hb, ew', _, e2⟩ := cut_eq v y hy64
  obtain rfl : w' = w := by omega
  have hp := pow_pos w'
  have x1 := op_of (bin_slt hw' 200 (by omega) ha (show 0 < 2 ^ w' by omega))
  rw [sgn_zero hw'] at x1
  have z := sh_j0 hw' ha hb 200 (by omega)
  unfold retargetlaw01_BitsShifts.f
  rw [e1, Option.bind_some, e2, Option.bind_some, alive_eq 200 (by omega), Option.bind_some, if_pos rfl]
  refine (congrArg (fun o => Option.bind o _) x1).trans ?_
  rw [Option.bind_some]
  by_cases hn : sgn w' a < 0
  · rw [if_pos hn] at z ⊢
    rw [if_pos (by rfl), mask_yes hw', Option.bind_some]
    exact z
  · rw [if_neg hn] at z ⊢
    rw [if_neg (by decide)]
    exact z
end Go.Proofs.Ytbckdelbkcfjkaa.Pure
