/- The law BitsRing, its walk joined with the plain law: a ring, and logic, at every width and three values. -/
import Derived.Test.YtbckdelbkcfjkaaBiPRing
import Derived.Test.YtbckdelbkcfjkaaBiHRing
namespace Go.Proofs.Ytbckdelbkcfjkaa.Pure
set_option linter.unusedVariables false
set_option linter.unusedSimpArgs false
open Go.RowKit Go.Proofs.Ytbckdelbkcfjkaa.Bi Go.Proofs.Ytbckdelbkcfjkaa.BiP
set_option maxHeartbeats 2000000 in
theorem ring_calls (v x y z : Int) (w : World) (hv : (Lit.int .u8 v).wf = true) (hx : (Lit.int .u64 x).wf = true) (hy : (Lit.int .u64 y).wf = true) (hz : (Lit.int .u64 z).wf = true) :
    Calls Try.prog 11 #[.int .u8 v, .int .u64 x, .int .u64 y, .int .u64 z] w fun e w' => e = .returned (.bool true) ∧ Below w.heap.size w w' := by
  obtain ⟨v, rfl, hv8⟩ := wf_u8 hv
  obtain ⟨x, rfl, hx64⟩ := wf_u64 hx
  obtain ⟨y, rfl, hy64⟩ := wf_u64 hy
  obtain ⟨z, rfl, hz64⟩ := wf_u64 hz
  obtain ⟨q, a, hw, ha, ew, _, c1⟩ := cut_eq v x hx64
  obtain ⟨q', b, hw', hb, ew', _, c2⟩ := cut_eq v y hy64
  obtain rfl : q = q' := by omega
  obtain ⟨q', c, hw'', hc, ew'', _, c3⟩ := cut_eq v z hz64
  obtain rfl : q = q' := by omega
  clear ew ew' ew'' hv hx hy hz hv8 hw' hw''
  have hk : 3 ≤ 200 := by omega
  have hp := pow_pos q
  have one : 1 < 2 ^ q := by
    have := Nat.pow_le_pow_right (show 0 < 2 by omega) hw.1
    omega
  have lt (n : Nat) : n % 2 ^ q < 2 ^ q := Nat.mod_lt _ hp
  have nlt : 2 ^ q - 1 - a < 2 ^ q := by omega
  have hor {s t : Nat} (h1 : s < 2 ^ q) (h2 : t < 2 ^ q) : s ||| t < 2 ^ q := Nat.or_lt_two_pow h1 h2
  have hand (s : Nat) {t : Nat} (h2 : t < 2 ^ q) : s &&& t < 2 ^ q := Nat.and_lt_two_pow s h2
  have add {s t : Nat} (r : Nat) (h1 : s < 2 ^ q) (h2 : t < 2 ^ q) (e : (s + t) % 2 ^ q = r) : retargetlaw01_op.f 200 5 (q : Int) (s : Int) (t : Int) = some (r : Int) := by
    rw [← e]; exact op_of (bin_add hw 200 hk h1 h2)
  have mul {s t : Nat} (r : Nat) (h1 : s < 2 ^ q) (h2 : t < 2 ^ q) (e : s * t % 2 ^ q = r) : retargetlaw01_op.f 200 7 (q : Int) (s : Int) (t : Int) = some (r : Int) := by
    rw [← e]; exact op_of (bin_mul hw 200 hk h1 h2)
  have and {s t : Nat} (r : Nat) (h1 : s < 2 ^ q) (h2 : t < 2 ^ q) (e : s &&& t = r) : retargetlaw01_op.f 200 8 (q : Int) (s : Int) (t : Int) = some (r : Int) := by
    rw [← e]; exact op_of (bin_and hw 200 hk h1 h2)
  have or {s t : Nat} (r : Nat) (h1 : s < 2 ^ q) (h2 : t < 2 ^ q) (e : s ||| t = r) : retargetlaw01_op.f 200 9 (q : Int) (s : Int) (t : Int) = some (r : Int) := by
    rw [← e]; exact op_of (bin_or hw 200 hk h1 h2)
  have xor {s t : Nat} (r : Nat) (h1 : s < 2 ^ q) (h2 : t < 2 ^ q) (e : s ^^^ t = r) : retargetlaw01_op.f 200 10 (q : Int) (s : Int) (t : Int) = some (r : Int) := by
    rw [← e]; exact op_of (bin_xor hw 200 hk h1 h2)
  have sub {s t : Nat} (r : Nat) (h1 : s < 2 ^ q) (h2 : t < 2 ^ q) (e : cutN q ((s : Int) - (t : Int)) = r) : retargetlaw01_op.f 200 6 (q : Int) (s : Int) (t : Int) = some (r : Int) := by
    rw [← e]; exact op_of (bin_sub hw 200 hk h1 h2)
  have hx' := rg_xor (small_of hw ha) (small_of hw hb)
  refine ring_of 200 (v : Int) (x : Int) (y : Int) (z : Int) (q : Int) (q : Int) (q : Int) (a : Int) (b : Int) (c : Int) (((2 ^ q - a) % 2 ^ q : Nat) : Int) ((2 ^ q - 1 - a : Nat) : Int) ((2 ^ q - 1 : Nat) : Int)
    (((a + b) % 2 ^ q : Nat) : Int) (((a + (b + c) % 2 ^ q) % 2 ^ q : Nat) : Int) (((b + c) % 2 ^ q : Nat) : Int)
    ((a * b % 2 ^ q : Nat) : Int) ((a * (b * c % 2 ^ q) % 2 ^ q : Nat) : Int) ((b * c % 2 ^ q : Nat) : Int) ((a * ((b + c) % 2 ^ q) % 2 ^ q : Nat) : Int) ((a * c % 2 ^ q : Nat) : Int)
    ((b ||| c : Nat) : Int) ((a &&& (b ||| c) : Nat) : Int) ((a &&& b : Nat) : Int) ((a &&& c : Nat) : Int) ((a ||| b : Nat) : Int) ((a ^^^ b : Nat) : Int) ((((2 ^ q - 1 - a) + 1) % 2 ^ q : Nat) : Int) w
    c1 c2 c3 (rg_uneg hw ha 200 hk) (rg_unot hw ha 200 hk) (mask_yes hw) (alive_eq 200 (by omega)) ?_
    (add _ ha hb rfl) (add _ hb ha (by rw [Nat.add_comm])) (add _ (lt _) hc (rg_add_assoc _ _ _ _)) (add _ hb hc rfl) (add _ ha (lt _) rfl) (sub _ (lt _) hb (rg_sub ha hb)) (add 0 ha (lt _) (rg_add_neg ha)) (add (t := 0) _ ha hp (by rw [Nat.add_zero, Nat.mod_eq_of_lt ha]))
    (mul _ ha hb rfl) (mul _ hb ha (by rw [Nat.mul_comm])) (mul _ (lt _) hc (rg_mul_assoc _ _ _ _)) (mul _ hb hc rfl) (mul _ ha (lt _) rfl) (mul _ ha (lt _) rfl) (mul _ ha hc rfl) (add _ (lt _) (lt _) (rg_distrib _ _ _ _)) (mul (t := 1) _ ha one (by rw [Nat.mul_one, Nat.mod_eq_of_lt ha]))
    (or _ hb hc rfl) (and _ ha (hor hb hc) rfl) (and _ ha hb rfl) (and _ ha hc rfl) (or _ (hand _ hb) (hand _ hc) (Nat.and_or_distrib_left _ _ _).symm) (and 0 ha nlt (rg_and_not ha)) (or _ ha nlt (rg_or_not ha)) (xor _ ha hb rfl) (or _ ha hb rfl)
    (sub _ (hor ha hb) (hand _ hb) ?_) (add (t := 1) _ nlt one rfl)
  · rw [and_mask _ q (Nat.lt_of_lt_of_le (lt _) (pow_le q hw.2)) hw.2, Nat.mod_mod, show 2 ^ q - 1 - a + 1 = 2 ^ q - a by omega]
  · rw [← hx', show (((a ^^^ b) + (a &&& b) : Nat) : Int) - ((a &&& b : Nat) : Int) = ((a ^^^ b : Nat) : Int) by omega, cutN_nat, Nat.mod_eq_of_lt (Nat.xor_lt_two_pow ha hb)]
end Go.Proofs.Ytbckdelbkcfjkaa.Pure
