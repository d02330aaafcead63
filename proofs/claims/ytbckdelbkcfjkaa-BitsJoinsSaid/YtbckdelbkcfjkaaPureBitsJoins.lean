/- The plain law of BitsJoins: Concat and Extract undo each other, extending keeps the value or the signed value, and texts come back, for all widths and values. -/
import Derived.Test.YtbckdelbkcfjkaaBiPAlive
import Derived.Test.YtbckdelbkcfjkaaBiPParse
import Derived.Test.YtbckdelbkcfjkaaBiFretargetlaw01BitsJoins
namespace Go.Proofs.Ytbckdelbkcfjkaa.Pure
set_option linter.unusedVariables false
set_option linter.unusedSimpArgs false
open Go.RowKit Go.Proofs.Ytbckdelbkcfjkaa.Bi Go.Proofs.Ytbckdelbkcfjkaa.BiP Go.Proofs.YtbckdelbkcfjkaaW.PrintWords

/-- A value that is extended with its sign. -/
def ext (h w a : Nat) : Nat := if 2 ^ (h - 1) ≤ a then a + 2 ^ w - 2 ^ h else a
theorem ext_sgn {h w a : Nat} (hh : W h) (hw : W w) (hle : h ≤ w) (ha : a < 2 ^ h) : ext h w a < 2 ^ w ∧ sgn w (ext h w a) = sgn h a := by
  have p1 := pow_half h hh.1
  have p2 := pow_half w hw.1
  have p3 : 2 ^ (h - 1) ≤ 2 ^ (w - 1) := Nat.pow_le_pow_right (by decide) (by omega)
  unfold ext sgn
  generalize 2 ^ (h - 1) = H at p1 p3
  generalize 2 ^ (w - 1) = V at p2 p3
  rw [p1, p2]
  rw [p1] at ha
  by_cases c : H ≤ a
  · rw [if_pos c, if_neg (by omega), if_neg (by omega)]
    refine ⟨by omega, by omega⟩
  · rw [if_neg c, if_pos (by omega), if_pos (by omega)]
    exact ⟨by omega, rfl⟩
theorem extend_sign {h w a : Nat} (hle : h ≤ w) (ha : a < 2 ^ h) : extendS h a w true = ((ext h w a : Int), 0) := by
  unfold extendS ext
  rw [if_pos hle, if_pos ha]
  by_cases c : 2 ^ (h - 1) ≤ a
  · rw [if_pos ⟨rfl, c⟩, if_pos c]
  · rw [if_neg (fun e => c e.2), if_neg c]
theorem extend_zero {h w a : Nat} (hle : h ≤ w) (ha : a < 2 ^ h) : extendS h a w false = ((a : Int), 0) := by
  unfold extendS
  rw [if_pos hle, if_pos ha, if_neg (fun e => by simp at e)]
set_option maxHeartbeats 2000000 in
theorem joins_j0 {h l : Nat} (hh : W h) (hl : W l) (h32 : h ≤ 32) (l32 : l ≤ 32) (t a c : Nat) (ht : t < 256) (ha : a < 2 ^ h) (hc : c < 2 ^ (h + l)) (k : Nat) (hk : 200 ≤ k) :
    retargetlaw01_BitsJoins.j0 k (t : Int) (h : Int) (a : Int) (l : Int) (c : Int) false = some true := by
  obtain ⟨m, rfl⟩ : ∃ m', k = m' + 1 := ⟨k - 1, by omega⟩
  have h1 := hh.1
  have e4 : wrap64 ((h : Int) + (l : Int)) = ((h + l : Nat) : Int) := by clear hc ha; unfold wrap64; omega
  have e1 : wrap64 (65 - (h : Int)) = ((65 - h : Nat) : Int) := by clear hc ha; unfold wrap64; omega
  have e2 : wrap64 (t : Int) = (t : Int) := w_nat t (by omega)
  have hmod : t % (65 - h) < 65 - h := Nat.mod_lt _ (by omega)
  have e3 : wrap64 ((h : Int) + Int.tmod (wrap64 (t : Int)) (wrap64 (65 - (h : Int)))) = ((h + t % (65 - h) : Nat) : Int) := by
    rw [e1, e2, Int.tmod_eq_emod_of_nonneg (Int.natCast_nonneg _), ← Int.natCast_emod, ← Int.natCast_add]
    exact w_nat _ (by omega)
  simp only [retargetlaw01_BitsJoins.j0]
  rw [if_neg (by decide), e3, e4, e1]
  clear e1 e2 e3 e4
  rw [if_neg (by omega)]
  obtain ⟨w, hwe⟩ : ∃ w, w = h + t % (65 - h) := ⟨_, rfl⟩
  have hle : h ≤ w := by omega
  have hw : W w := by unfold W; omega
  have hhl : W (h + l) := by unfold W; omega
  rw [← hwe]
  have hx := ext_sgn hh hw hle ha
  have hc64 := small_of hhl hc
  have hg : good (strOfNums (txt (h + l) c)) (h + l) c := ⟨hhl, hc, rfl⟩
  have hsz : (strOfNums (txt (h + l) c)).size ≤ 1000 := by
    have := nd_le hhl
    rw [strOfNums_size, txt_len]; split <;> omega
  have g1 := Extend_yes hh hw a m false (by omega)
  rw [extend_zero hle ha] at g1
  have g2 := Extend_yes hh hw a m true (by omega)
  rw [extend_sign hle ha] at g2
  have g3 := Signed_yes hh a m (by omega)
  unfold signedS at g3
  rw [if_pos ha] at g3
  have g4 := Signed_yes hw (ext h w a) m (by omega)
  unfold signedS at g4
  rw [if_pos hx.1, hx.2] at g4
  have g5 := text_yes hhl c m hc64 (by omega)
  rw [if_pos hc] at g5
  have g6 := parse_eq _ hsz m (by omega)
  rw [good_parse hg] at g6
  rw [g1, Option.bind_some, g2, Option.bind_some, g3, Option.bind_some, g4, Option.bind_some, g5, Option.bind_some, g6, Option.bind_some, if_pos rfl, if_pos rfl, if_pos rfl, if_pos rfl, if_pos rfl, if_pos rfl, if_pos rfl, if_pos rfl, if_pos rfl, beq_self_eq_true]
theorem jc1 (h l : Nat) (h1 : 1 ≤ h) : (0 : Int) ≤ (l : Int) ∧ 1 ≤ (h : Int) ∧ (l : Int) + (h : Int) ≤ ((h + l : Nat) : Int) := by omega
theorem jc2 (h l : Nat) (l1 : 1 ≤ l) : (0 : Int) ≤ 0 ∧ 1 ≤ (l : Int) ∧ (0 : Int) + (l : Int) ≤ ((h + l : Nat) : Int) := by omega
set_option maxHeartbeats 2000000 in
theorem BitsJoins : retargetlaw01_BitsJoins.Pure := by
  intro u v t x y hu hv ht hx hy
  obtain ⟨u, rfl, hu8⟩ := wf_u8 hu
  obtain ⟨v, rfl, hv8⟩ := wf_u8 hv
  obtain ⟨t, rfl, ht8⟩ := wf_u8 ht
  obtain ⟨x, rfl, hx64⟩ := wf_u64 hx
  obtain ⟨y, rfl, hy64⟩ := wf_u64 hy
  refine ⟨300, ?_⟩
  have eu : Int.tmod (u : Int) 32 = ((u % 32 : Nat) : Int) := by rw [Int.tmod_eq_emod_of_nonneg (Int.natCast_nonneg _)]; omega
  have ev : Int.tmod (v : Int) 32 = ((v % 32 : Nat) : Int) := by rw [Int.tmod_eq_emod_of_nonneg (Int.natCast_nonneg _)]; omega
  obtain ⟨h, a, hh, ha, eh, _, e1⟩ := cut_eq (u % 32) x hx64
  obtain ⟨l, b, hl, hb, el, _, e2⟩ := cut_eq (v % 32) y hy64
  have h32 : h ≤ 32 := by omega
  have l32 : l ≤ 32 := by omega
  clear eh el
  have hs : h + l ≤ 64 := by omega
  have hhl : W (h + l) := by have := hh.1; unfold W; omega
  have hc : a * 2 ^ l + b < 2 ^ (h + l) := by
    have q1 : (a + 1) * 2 ^ l ≤ 2 ^ h * 2 ^ l := Nat.mul_le_mul_right _ ha
    rw [← Nat.pow_add, Nat.add_mul, Nat.one_mul] at q1
    omega
  have g1 := Concat_yes hh hl a b 300 (by omega)
  unfold concatS at g1
  rw [if_pos hs, if_pos ⟨ha, hb⟩] at g1
  have hc64 := small_of hhl hc
  have ew : wrap64 ((h : Int) + (l : Int)) = ((h + l : Nat) : Int) := by clear g1 hc64 hc; unfold wrap64; omega
  have g2 := Extract_yes hhl (a * 2 ^ l + b) 300 (l : Int) (h : Int) (by omega) (by omega) hc64 (by omega)
  have g3 := Extract_yes hhl (a * 2 ^ l + b) 300 0 (l : Int) (by omega) (by omega) hc64 (by omega)
  have hp := pow_pos l
  have q2 : (a * 2 ^ l + b) / 2 ^ l % 2 ^ h = a := by
    rw [Nat.mul_comm, Nat.mul_add_div (by omega), Nat.div_eq_of_lt hb, Nat.add_zero, Nat.mod_eq_of_lt ha]
  have q3 : (a * 2 ^ l + b) / 2 ^ 0 % 2 ^ l = b := by
    rw [Nat.pow_zero, Nat.div_one, Nat.mul_comm, Nat.mul_add_mod, Nat.mod_eq_of_lt hb]
  have h1 := hh.1
  have l1 := hl.1
  unfold extractS at g2 g3
  rw [if_pos hc, if_pos (jc1 h l h1), show (l : Int).toNat = l from rfl, show (h : Int).toNat = h from rfl, q2] at g2
  rw [if_pos hc, if_pos (jc2 h l l1), show (0 : Int).toNat = 0 from rfl, show (l : Int).toNat = l from rfl, q3] at g3
  have g4 := joins_j0 hh hl h32 l32 t a (a * 2 ^ l + b) ht8 ha hc 300 (by omega)
  unfold retargetlaw01_BitsJoins.f
  rw [eu, ev, e1, Option.bind_some, e2, Option.bind_some]
  dsimp only
  rw [g1, Option.bind_some]
  dsimp only
  rw [ew, g2, Option.bind_some, g3, Option.bind_some, alive_eq 300 (by omega), Option.bind_some, if_pos rfl, if_pos rfl, if_pos rfl, if_pos rfl, if_pos rfl, bne_self_eq_false]
  exact g4
end Go.Proofs.Ytbckdelbkcfjkaa.Pure
