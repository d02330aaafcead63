/- Plain lemmas: the two parsers of texts answer alike. -/
import Derived.Test.YtbckdelbkcfjkaaBiPText
import Derived.Test.YtbckdelbkcfjkaaBiFbitsParse
import Derived.Test.YtbckdelbkcfjkaaBiFretargetref01Parse
namespace Go.Proofs.Ytbckdelbkcfjkaa.BiP
set_option linter.unusedVariables false
set_option linter.unusedSimpArgs false
open Go.RowKit Go.Proofs.Ytbckdelbkcfjkaa.Bi Go.Proofs.YtbckdelbkcfjkaaW.PrintWords Go.Proofs.YtbckdelbkcfjkaaW.PrintLast Go.Proofs.YtbckdelbkcfjkaaW.PrintMore

/-- The value of a sign as a digit; 0 if it is none. -/
def hv (c : Int) : Nat := if 48 ≤ c ∧ c ≤ 57 then (c - 48).toNat else if 97 ≤ c ∧ c ≤ 102 then (c - 87).toNat else 0
theorem hv_lt (c : Int) : hv c < 16 := by unfold hv; split <;> (try split) <;> omega
theorem hv_dg {d : Nat} (h : d < 16) : hv (dg d) = d := by unfold hv dg; split <;> (try split) <;> (try split) <;> omega
/-- One digit more. -/
def step (x : Nat) (c : Int) : Nat := x * 16 % 18446744073709551616 + hv c
theorem step_lt (x : Nat) (c : Int) : step x c < 18446744073709551616 := by
  have := hv_lt c
  unfold step; omega
/-- The digits from place i on, d of them. -/
def run (s : ByteArray) : Nat → Nat → Nat → Nat
  | 0, _, x => x
  | d + 1, i, x => run s d (i + 1) (step x (bt s i))
theorem run_lt (s : ByteArray) : ∀ d i x, x < 18446744073709551616 → run s d i x < 18446744073709551616
  | 0, _, _, h => h
  | d + 1, i, x, _ => run_lt s d (i + 1) _ (step_lt _ _)
/-- The text of a value. -/
def good (s : ByteArray) (w x : Nat) : Prop := W w ∧ x < 2 ^ w ∧ s = strOfNums (txt w x)
open Classical in
noncomputable def ans (s : ByteArray) (w x : Nat) : Int × Int × Int := if good s w x then ((w : Int), (x : Int), 0) else (0, 0, 12)

theorem str_ext (a b : ByteArray) : a.toList = b.toList ↔ a = b := by
  rw [ByteArray.toList_eq, ByteArray.toList_eq]
  constructor
  · intro h; exact ByteArray.ext (Array.toList_inj.1 h)
  · intro h; rw [h]

theorem or_step (x : Nat) (c : Nat) (hc : c < 16) : Go.bits .or .u64 (IntKind.u64.wrap ((x : Int) * 16)) (c : Int) = ((x * 16 % 18446744073709551616 + c : Nat) : Int) := by
  have e : IntKind.u64.wrap ((x : Int) * 16) = ((x * 16 % 18446744073709551616 : Nat) : Int) := by rw [u64_mod]; omega
  rw [e]
  have h1 : x * 16 % 18446744073709551616 < 18446744073709551616 := Nat.mod_lt _ (by decide)
  have h2 : ∃ q, x * 16 % 18446744073709551616 = 16 * q := ⟨x * 16 % 18446744073709551616 / 16, by omega⟩
  generalize x * 16 % 18446744073709551616 = y at h1 h2
  obtain ⟨q, rfl⟩ := h2
  rw [or_nat _ _ h1 (by omega)]
  have := Nat.two_pow_add_eq_or_of_lt (i := 4) (b := c) (by simpa using hc) q
  rw [← this]

/-! ### the program's parser -/
theorem parse_l1 (s : ByteArray) (hs : s.size ≤ 1000) (w j : Nat) (hw : w ≤ 100) (hj : j ≤ 2) : ∀ d k i x : Nat, i + d = max i (min s.size (j + 18)) → 3 * d + 40 < k → x < 18446744073709551616 → j + 1 ≤ i →
    bits_Parse.l1 k s (w : Int) (x : Int) (j : Int) (i : Int) = some (ans s w (run s d i x)) := by
  intro d
  induction d with
  | zero =>
    intro k i x h1 h2 h3 h4
    obtain ⟨m, rfl⟩ : ∃ m, k = m + 1 := ⟨k - 1, by omega⟩
    have hfin : bits_Parse.j3 m s (w : Int) (x : Int) (j : Int) (i : Int) false = some (ans s w x) := by
      obtain ⟨m, rfl⟩ : ∃ m', m = m' + 1 := ⟨m - 1, by omega⟩
      simp only [bits_Parse.j3]
      rw [if_neg (by decide)]
      unfold ans good
      rcases wide_or (w : Int) with ⟨n, hn, hW⟩ | hW
      · obtain rfl : w = n := by omega
        rw [text_yes hW x m h3 (by omega), Option.bind_some]
        by_cases hx : x < 2 ^ w
        · rw [if_pos hx, if_pos rfl]
          by_cases ht : strOfNums (txt w x) = s
          · rw [if_pos ((str_ext _ _).2 ht), if_pos ⟨hW, hx, ht.symm⟩]
          · rw [if_neg (fun e => ht ((str_ext _ _).1 e)), if_neg (fun e => ht e.2.2.symm)]
        · rw [if_neg hx, if_neg (by decide), if_neg (fun e => hx e.2.1)]
      · rw [text_no hW, Option.bind_some, if_neg (by decide), if_neg (fun e => hW (by have := e.1; unfold W at this; omega))]
    simp only [bits_Parse.l1]
    by_cases hi : i < s.size
    · rw [if_pos (by omega), wrap_small (x := (j : Int) + 18) (by omega) (by omega), decide_eq_false (by omega)]
      exact hfin
    · rw [if_neg (by omega)]
      exact hfin
  | succ d ih =>
    intro k i x h1 h2 h3 h4
    obtain ⟨m, rfl⟩ : ∃ m, k = m + 1 := ⟨k - 1, by omega⟩
    have hi : i < s.size := by omega
    have hbr := bt_range s (i : Int)
    have key : ∀ m', 3 * d + 40 < m' → bits_Parse.l1 m' s (w : Int) ((step x (bt s i) : Nat) : Int) (j : Int) ((i + 1 : Nat) : Int) = some (ans s w (run s d (i + 1) (step x (bt s i)))) :=
      fun m' hm' => ih m' (i + 1) _ (by omega) hm' (step_lt _ _) (by omega)
    simp only [bits_Parse.l1]
    rw [if_pos (by omega), wrap_small (x := (j : Int) + 18) (by omega) (by omega), decide_eq_true (by omega)]
    obtain ⟨m, rfl⟩ : ∃ m', m = m' + 1 := ⟨m - 1, by omega⟩
    simp only [bits_Parse.j3]
    rw [if_pos trivial, if_pos (by omega), if_pos (by omega)]
    obtain ⟨m, rfl⟩ : ∃ m', m = m' + 1 := ⟨m - 1, by omega⟩
    have key' := key m (by omega)
    clear key ih
    show _ = some (ans s w (run s d (i + 1) (step x (bt s i))))
    generalize hc : bt s (i : Int) = c at hbr key'
    have hst : ∀ v : Int, v = (hv c : Int) → Go.bits .or .u64 (IntKind.u64.wrap ((x : Int) * 16)) v = ((step x c : Nat) : Int) := by
      intro v hv'
      rw [hv', or_step x (hv c) (hv_lt c)]
      rfl
    simp only [bits_Parse.j4]
    rw [w_add1 i (by omega)]
    by_cases c1 : c ≥ 48
    · rw [if_pos c1]
      by_cases c2 : c ≤ 57
      · rw [decide_eq_true c2, if_pos rfl, hst _ (by unfold hv; rw [if_pos (by omega)]; omega)]
        exact key'
      · rw [decide_eq_false c2, if_neg (by decide)]
        by_cases c3 : c ≥ 97
        · rw [if_pos c3]
          by_cases c4 : c ≤ 102
          · rw [if_pos c4, hst _ (by unfold hv; rw [if_neg (by omega), if_pos (by omega)]; omega)]
            exact key'
          · rw [if_neg c4, hst _ (by unfold hv; rw [if_neg (by omega), if_neg (by omega)]; rfl)]
            exact key'
        · rw [if_neg c3, hst _ (by unfold hv; rw [if_neg (by omega), if_neg (by omega)]; rfl)]
          exact key'
    · rw [if_neg c1, if_neg (by decide), if_neg (by omega), hst _ (by unfold hv; rw [if_neg (by omega), if_neg (by omega)]; rfl)]
      exact key'
/-- The number of leading digits, at most two, and their number. -/
def isd (c : Int) : Prop := 48 ≤ c ∧ c ≤ 57
instance (c : Int) : Decidable (isd c) := by unfold isd; infer_instance
def lead (s : ByteArray) : Nat × Nat :=
  if 0 < s.size ∧ isd (bt s 0) then (if 1 < s.size ∧ isd (bt s 1) then (2, 10 * (bt s 0 - 48).toNat + (bt s 1 - 48).toNat) else (1, (bt s 0 - 48).toNat)) else (0, 0)
theorem lead_le (s : ByteArray) : (lead s).1 ≤ 2 ∧ (lead s).2 ≤ 99 := by unfold lead isd; split <;> (try split) <;> refine ⟨?_, ?_⟩ <;> (try dsimp only) <;> omega
noncomputable def parseS (s : ByteArray) : Int × Int × Int :=
  ans s (lead s).2 (run s (max ((lead s).1 + 1) (min s.size ((lead s).1 + 18)) - ((lead s).1 + 1)) ((lead s).1 + 1) 0)
theorem parse_eq (s : ByteArray) (hs : s.size ≤ 1000) (k : Nat) (hk : 120 ≤ k) : bits_Parse.f k s = some (parseS s) := by
  have fin : ∀ (j w m : Nat), lead s = (j, w) → 105 ≤ m → j ≤ 2 → w ≤ 99 → bits_Parse.j1 m s (w : Int) 0 (j : Int) = some (parseS s) := by
    intro j w m hl hm hj hw
    obtain ⟨m, rfl⟩ : ∃ m', m = m' + 1 := ⟨m - 1, by omega⟩
    simp only [bits_Parse.j1]
    rw [w_add1 j (by omega)]
    unfold parseS
    rw [hl]
    exact parse_l1 s hs w j (by omega) hj _ m (j + 1) 0 (by omega) (by omega) (by decide) (by omega)
  have hb0 := bt_range s 0
  have hb1 := bt_range s 1
  unfold bits_Parse.f
  obtain ⟨m, rfl⟩ : ∃ m', k = m' + 1 := ⟨k - 1, by omega⟩
  simp only [bits_Parse.l0]
  by_cases h0 : 0 < s.size ∧ isd (bt s 0)
  · obtain ⟨ha, hd⟩ := h0
    unfold isd at hd
    rw [if_pos (by omega), if_pos (by decide), if_pos (by decide), if_pos (by omega), if_pos (by omega)]
    have e1 : wrap64 (wrap64 (10 * 0) + (bt s 0 - 48) % 256) = (((bt s 0 - 48).toNat : Nat) : Int) := by
      rw [wrap_small (x := 10 * 0) (by decide) (by decide), wrap_small (by omega) (by omega)]; omega
    have e2 : wrap64 ((0 : Int) + 1) = 1 := wrap_small (by decide) (by decide)
    rw [e1, e2]
    obtain ⟨m, rfl⟩ : ∃ m', m = m' + 1 := ⟨m - 1, by omega⟩
    simp only [bits_Parse.l0]
    by_cases h1 : 1 < s.size ∧ isd (bt s 1)
    · obtain ⟨hb, hd1⟩ := h1
      unfold isd at hd1
      rw [if_pos (by omega), if_pos (by decide), if_pos (by decide), if_pos (by omega), if_pos (by omega)]
      have e3 : wrap64 (wrap64 (10 * (((bt s 0 - 48).toNat : Nat) : Int)) + (bt s 1 - 48) % 256) = ((10 * (bt s 0 - 48).toNat + (bt s 1 - 48).toNat : Nat) : Int) := by
        rw [wrap_small (x := 10 * (((bt s 0 - 48).toNat : Nat) : Int)) (by omega) (by omega), wrap_small (by omega) (by omega)]; omega
      have e4 : wrap64 ((1 : Int) + 1) = 2 := wrap_small (by decide) (by decide)
      rw [e3, e4]
      obtain ⟨m, rfl⟩ : ∃ m', m = m' + 1 := ⟨m - 1, by omega⟩
      simp only [bits_Parse.l0]
      have hl : lead s = (2, 10 * (bt s 0 - 48).toNat + (bt s 1 - 48).toNat) := by
        unfold lead
        rw [if_pos ⟨ha, by unfold isd; omega⟩, if_pos ⟨hb, by unfold isd; omega⟩]
      have := fin _ _ m hl (by omega) (by omega) (by omega)
      split
      · rw [if_neg (by decide)]; exact this
      · exact this
    · have hl : lead s = (1, (bt s 0 - 48).toNat) := by
        unfold lead
        rw [if_pos ⟨ha, by unfold isd; omega⟩, if_neg h1]
      have := fin _ _ m hl (by omega) (by omega) (by omega)
      by_cases hb : 1 < s.size
      · have hd1 : ¬ isd (bt s 1) := fun e => h1 ⟨hb, e⟩
        unfold isd at hd1
        rw [if_pos (by omega), if_pos (by decide), if_pos (by decide)]
        by_cases g : bt s 1 ≥ 48
        · rw [if_pos g, if_neg (by omega)]; exact this
        · rw [if_neg g]; exact this
      · rw [if_neg (by omega)]; exact this
  · have hl : lead s = (0, 0) := by unfold lead; rw [if_neg h0]
    have := fin _ _ m hl (by omega) (by omega) (by omega)
    by_cases ha : 0 < s.size
    · have hd : ¬ isd (bt s 0) := fun e => h0 ⟨ha, e⟩
      unfold isd at hd
      rw [if_pos (by omega), if_pos (by decide), if_pos (by decide)]
      by_cases g : bt s 0 ≥ 48
      · rw [if_pos g, if_neg (by omega)]; exact this
      · rw [if_neg g]; exact this
    · rw [if_neg (by omega)]; exact this

/-! ### a text is read -/
theorem dg_range (d : Nat) (h : d < 16) : 48 ≤ dg d ∧ dg d ≤ 102 := by unfold dg; split <;> omega
theorem lowN_range (x : Nat) : ∀ n, ∀ c ∈ lowN x n, 0 ≤ c ∧ c ≤ 255
  | 0, c, h => by cases h
  | n + 1, c, h => by
    rw [lowN, List.mem_cons] at h
    rcases h with rfl | h
    · have := dg_range (x / 16 ^ n % 16) (Nat.mod_lt _ (by decide)); omega
    · exact lowN_range x n c h
theorem txt_range {w : Nat} (hw : W w) (x : Nat) : ∀ c ∈ txt w x, 0 ≤ c ∧ c ≤ 255 := by
  unfold W at hw
  intro c h
  unfold txt front at h
  rw [List.mem_append, List.mem_append] at h
  have h1 := dg_range (w / 10) (by omega)
  have h2 := dg_range (w % 10) (by omega)
  rcases h with (h | h) | h
  · split at h
    · rw [List.mem_singleton] at h; omega
    · cases h
  · simp only [List.mem_cons, List.not_mem_nil, or_false] at h; omega
  · exact lowN_range x _ c h
theorem bt_str (xs : List Int) (hx : ∀ c ∈ xs, 0 ≤ c ∧ c ≤ 255) (i : Nat) (h : i < xs.length) : bt (strOfNums xs) (i : Int) = xs[i] := by
  unfold bt
  have hs : (i : Int).toNat < (strOfNums xs).size := by rw [strOfNums_size]; omega
  rw [dif_pos hs]
  have h1 := hx xs[i] (List.getElem_mem h)
  show (((strOfNums xs).data[i]'hs).toNat : Int) = xs[i]
  simp only [strOfNums, List.getElem_toArray, List.getElem_map, UInt8.toNat_ofNat']
  omega
/-- The digits of a list are read from a place on. -/
theorem run_list (s : ByteArray) (ys : List Int) : ∀ (d i x : Nat), (∀ j, j < d → bt s ((i + j : Nat) : Int) = ys.getD j 0) → d ≤ ys.length → run s d i x = (ys.take d).foldl step x := by
  induction ys with
  | nil =>
    intro d i x h hd
    have hd0 : d = 0 := Nat.le_zero.1 hd
    subst hd0
    rfl
  | cons y ys ih =>
    intro d i x h hd
    cases d with
    | zero => rfl
    | succ d =>
      have h0 := h 0 (by omega)
      rw [Nat.add_zero] at h0
      have h0' : bt s (i : Int) = y := h0
      rw [run, h0', List.take_succ_cons, List.foldl_cons]
      refine ih d (i + 1) _ (fun j hj => ?_) (by simpa using hd)
      have := h (j + 1) (by omega)
      rw [show i + (j + 1) = i + 1 + j by omega] at this
      exact this
theorem fold_low (x : Nat) : ∀ n y, y * 16 ^ n + x % 16 ^ n < 18446744073709551616 → (lowN x n).foldl step y = y * 16 ^ n + x % 16 ^ n
  | 0, y, h => by simp [lowN, Nat.mod_one]
  | n + 1, y, h => by
    have hb : x / 16 ^ n % 16 < 16 := Nat.mod_lt _ (by decide)
    have hm : x % 16 ^ (n + 1) = x % 16 ^ n + 16 ^ n * (x / 16 ^ n % 16) := by rw [Nat.pow_succ, Nat.mod_mul]
    have hp : 1 ≤ 16 ^ n := Nat.one_le_pow _ _ (by decide)
    have hpow : y * 16 ^ (n + 1) = (y * 16) * 16 ^ n := by rw [Nat.pow_succ, Nat.mul_comm (16 ^ n) 16, Nat.mul_assoc]
    have hsum : (y * 16 + x / 16 ^ n % 16) * 16 ^ n + x % 16 ^ n = y * 16 ^ (n + 1) + x % 16 ^ (n + 1) := by
      rw [hm, hpow, Nat.add_mul, Nat.mul_comm (x / 16 ^ n % 16)]; omega
    have hy : y * 16 + x / 16 ^ n % 16 < 18446744073709551616 := by
      have : (y * 16 + x / 16 ^ n % 16) * 1 ≤ (y * 16 + x / 16 ^ n % 16) * 16 ^ n := Nat.mul_le_mul_left _ hp
      omega
    have hst : step y (dg (x / 16 ^ n % 16)) = y * 16 + x / 16 ^ n % 16 := by
      unfold step
      rw [hv_dg hb, Nat.mod_eq_of_lt (by omega)]
    rw [lowN, List.foldl_cons, hst, fold_low x n _ (by rw [hsum]; exact h), hsum]
theorem pow16 {w : Nat} (hw : W w) {x : Nat} (hx : x < 2 ^ w) : x < 16 ^ nd w := by
  have h : 16 ^ nd w = 2 ^ (4 * nd w) := by rw [Nat.pow_mul]
  rw [h]
  refine Nat.lt_of_lt_of_le hx (Nat.pow_le_pow_right (by decide) ?_)
  unfold W at hw; unfold nd; omega
theorem fold_txt {w : Nat} (hw : W w) {x : Nat} (hx : x < 2 ^ w) : (lowN x (nd w)).foldl step 0 = x := by
  have h := pow16 hw hx
  have h2 := pow_le w hw.2
  rw [fold_low x (nd w) 0 (by rw [Nat.mod_eq_of_lt h]; omega), Nat.mod_eq_of_lt h]; omega
theorem txt_len (w x : Nat) : (txt w x).length = (if w > 9 then 3 else 2) + nd w := by
  unfold txt; rw [List.length_append, front_len, lowN_len]
/-- What is read of the text of a value. -/
theorem lead_txt {w : Nat} (hw : W w) (x : Nat) : lead (strOfNums (txt w x)) = (if w > 9 then 2 else 1, w) := by
  have hr := txt_range hw x
  have hn := nd_le hw
  have hl := txt_len w x
  have hW := hw
  unfold W at hW
  unfold lead
  by_cases h9 : w > 9
  · rw [if_pos h9] at hl
    have e : txt w x = dg (w / 10) :: dg (w % 10) :: 58 :: lowN x (nd w) := by unfold txt front; rw [if_pos h9]; rfl
    have b0 : bt (strOfNums (txt w x)) 0 = dg (w / 10) := by have := bt_str _ hr 0 (by omega); simp only [e] at this ⊢; exact this
    have b1 : bt (strOfNums (txt w x)) 1 = dg (w % 10) := by have := bt_str _ hr 1 (by omega); simp only [e] at this ⊢; exact this
    have d0 : dg (w / 10) = 48 + (w / 10 : Nat) := by unfold dg; rw [if_pos (by omega)]
    have d1 : dg (w % 10) = 48 + (w % 10 : Nat) := by unfold dg; rw [if_pos (by omega)]
    rw [b0, b1, d0, d1, strOfNums_size, hl, if_pos ⟨by omega, by unfold isd; omega⟩, if_pos ⟨by omega, by unfold isd; omega⟩, if_pos h9]
    congr 1
    omega
  · rw [if_neg h9] at hl
    have e : txt w x = dg (w % 10) :: 58 :: lowN x (nd w) := by unfold txt front; rw [if_neg h9]; rfl
    have b0 : bt (strOfNums (txt w x)) 0 = dg (w % 10) := by have := bt_str _ hr 0 (by omega); simp only [e] at this ⊢; exact this
    have b1 : bt (strOfNums (txt w x)) 1 = 58 := by have := bt_str _ hr 1 (by omega); simp only [e] at this ⊢; exact this
    have d1 : dg (w % 10) = 48 + (w % 10 : Nat) := by unfold dg; rw [if_pos (by omega)]
    rw [b0, b1, d1, strOfNums_size, hl, if_pos ⟨by omega, by unfold isd; omega⟩, if_neg (fun h => by have := h.2; unfold isd at this; omega), if_neg h9]
    congr 1
    omega
theorem run_txt {w : Nat} (hw : W w) {x : Nat} (hx : x < 2 ^ w) (i : Nat) (hi : i = (if w > 9 then 3 else 2)) : run (strOfNums (txt w x)) (nd w) i 0 = x := by
  have hr := txt_range hw x
  have hl := txt_len w x
  have e : (txt w x).drop i = lowN x (nd w) := by
    unfold txt
    rw [List.drop_append, front_len, ← hi, Nat.sub_self, List.drop_zero, List.drop_eq_nil_of_le (by rw [front_len, hi]; exact Nat.le_refl _), List.nil_append]
  rw [run_list _ (lowN x (nd w)) (nd w) i 0 ?_ (Nat.le_of_eq (lowN_len _ _).symm), List.take_of_length_le (Nat.le_of_eq (lowN_len _ _)), fold_txt hw hx]
  intro j hj
  rw [bt_str _ hr (i + j) (by rw [hl, ← hi]; omega), ← e, List.getD_eq_getElem?_getD, List.getElem?_drop, List.getElem?_eq_getElem (by rw [hl, ← hi]; omega)]
  rfl
theorem good_lead {s : ByteArray} {w x : Nat} (h : good s w x) : (lead s).2 = w ∧ run s (max ((lead s).1 + 1) (min s.size ((lead s).1 + 18)) - ((lead s).1 + 1)) ((lead s).1 + 1) 0 = x := by
  obtain ⟨hw, hx, rfl⟩ := h
  have hn := nd_le hw
  rw [lead_txt hw x]
  refine ⟨rfl, ?_⟩
  dsimp only
  rw [strOfNums_size, txt_len]
  have hi : (if w > 9 then 2 else 1) + 1 = (if w > 9 then 3 else 2) := by split <;> rfl
  rw [hi]
  have hd : max (if w > 9 then 3 else 2) (min ((if w > 9 then 3 else 2) + nd w) ((if w > 9 then 2 else 1) + 18)) - (if w > 9 then 3 else 2) = nd w := by split <;> omega
  rw [hd]
  exact run_txt hw hx _ rfl
theorem good_parse {s : ByteArray} {w x : Nat} (h : good s w x) : parseS s = ((w : Int), (x : Int), 0) := by
  obtain ⟨h1, h2⟩ := good_lead h
  unfold parseS ans
  rw [h1, h2, if_pos h]
theorem bad_parse {s : ByteArray} (h : ∀ w x, ¬ good s w x) : parseS s = (0, 0, 12) := by
  unfold parseS ans
  rw [if_neg (h _ _)]

/-! ### the reference's parser -/
open Classical in
noncomputable def rans (s : ByteArray) : Nat → Nat → Int × Int × Int
  | 0, _ => (0, 0, 12)
  | d + 1, w => if (txt w 0).length = s.size ∧ good s w (run s (nd w) (s.size - nd w) 0) then ((w : Int), ((run s (nd w) (s.size - nd w) 0 : Nat) : Int), 0) else rans s d (w + 1)
theorem wrap_step (x v : Nat) (hv' : v < 16) : IntKind.u64.wrap (IntKind.u64.wrap ((x : Int) * 16) + (v : Int)) = ((x * 16 % 18446744073709551616 + v : Nat) : Int) := by
  have e : IntKind.u64.wrap ((x : Int) * 16) = ((x * 16 % 18446744073709551616 : Nat) : Int) := by rw [u64_mod]; omega
  rw [e, u64_small (by omega) (by omega)]; omega
theorem rparse_l1 (s : ByteArray) (hs : s.size ≤ 1000) {w : Nat} (hw : W w) (r : Int × Int × Int) (K : Nat) (hK : 100 ≤ K)
    (hr : ∀ k, K ≤ k → retargetref01_Parse.l0 k s ((w + 1 : Nat) : Int) = some r) : ∀ d k i x : Nat, i + d = s.size → 2 * d + 1 + K ≤ k → x < 18446744073709551616 →
    (open Classical in retargetref01_Parse.l1 k s (w : Int) (x : Int) (i : Int) = some (if good s w (run s d i x) then ((w : Int), ((run s d i x : Nat) : Int), 0) else r)) := by
  classical
  have hW := hw
  unfold W at hW
  intro d
  induction d with
  | zero =>
    intro k i x h1 h2 h3
    obtain ⟨m, rfl⟩ : ∃ m, k = m + 1 := ⟨k - 1, by omega⟩
    simp only [retargetref01_Parse.l1]
    rw [if_neg (by omega), rtext_yes hw x m h3 (by omega), Option.bind_some, w_add1 w (by omega), hr m (by omega)]
    unfold run good
    by_cases hx : x < 2 ^ w
    · rw [if_pos hx, if_pos rfl]
      by_cases ht : strOfNums (txt w x) = s
      · rw [if_pos ((str_ext _ _).2 ht), if_pos ⟨hw, hx, ht.symm⟩]
      · rw [if_neg (fun e => ht ((str_ext _ _).1 e)), if_neg (fun e => ht e.2.2.symm)]
    · rw [if_neg hx, if_neg (by decide), if_neg (fun e => hx e.2.1)]
  | succ d ih =>
    intro k i x h1 h2 h3
    obtain ⟨m, rfl⟩ : ∃ m, k = m + 1 := ⟨k - 1, by omega⟩
    have hi : i < s.size := by omega
    have hbr := bt_range s (i : Int)
    simp only [retargetref01_Parse.l1]
    rw [if_pos (by omega), if_pos (by omega)]
    obtain ⟨m, rfl⟩ : ∃ m', m = m' + 1 := ⟨m - 1, by omega⟩
    have key' := ih m (i + 1) _ (by omega) (by omega) (step_lt x (bt s i))
    simp only [retargetref01_Parse.j2]
    rw [w_add1 i (by omega)]
    have e0 : run s (d + 1) i x = run s d (i + 1) (step x (bt s i)) := rfl
    rw [e0]
    clear ih e0
    have hst : ∀ v : Int, v = (hv (bt s i) : Int) → IntKind.u64.wrap (IntKind.u64.wrap ((x : Int) * 16) + v) = ((step x (bt s i) : Nat) : Int) := by
      intro v hv'
      rw [hv', wrap_step x _ (hv_lt _)]
      rfl
    have hhv : hv (bt s i) = if 48 ≤ bt s i ∧ bt s i ≤ 57 then (bt s i - 48).toNat else if 97 ≤ bt s i ∧ bt s i ≤ 102 then (bt s i - 87).toNat else 0 := rfl
    generalize hc : bt s (i : Int) = c at hbr key' hst hhv
    by_cases c1 : c ≥ 48
    · rw [if_pos c1]
      by_cases c2 : c ≤ 57
      · rw [decide_eq_true c2, if_pos rfl, if_pos (by omega), if_pos (by omega), if_neg (by omega), hst _ (by rw [hhv, if_pos (by omega)]; omega)]
        exact key'
      · rw [decide_eq_false c2, if_neg (by decide), if_pos (by omega), if_pos (by omega)]
        by_cases c3 : c ≥ 97
        · rw [if_pos c3]
          by_cases c4 : c ≤ 102
          · rw [if_pos c4, hst _ (by rw [hhv, if_neg (by omega), if_pos (by omega)]; omega)]
            exact key'
          · rw [if_neg c4, hst _ (by rw [hhv, if_neg (by omega), if_neg (by omega)]; rfl)]
            exact key'
        · rw [if_neg c3, hst _ (by rw [hhv, if_neg (by omega), if_neg (by omega)]; rfl)]
          exact key'
    · rw [if_neg c1, if_neg (by decide), if_pos (by omega), if_pos (by omega), if_neg (by omega), hst _ (by rw [hhv, if_neg (by omega), if_neg (by omega)]; rfl)]
      exact key'
theorem rparse_l0 (s : ByteArray) (hs : s.size ≤ 1000) : ∀ d k w : Nat, w + d = 65 → 1 ≤ w → 3000 * d + 200 ≤ k → retargetref01_Parse.l0 k s (w : Int) = some (rans s d w) := by
  classical
  intro d
  induction d with
  | zero =>
    intro k w h1 h2 h3
    obtain ⟨m, rfl⟩ : ∃ m, k = m + 1 := ⟨k - 1, by omega⟩
    simp only [retargetref01_Parse.l0]
    rw [if_neg (by omega)]
    rfl
  | succ d ih =>
    intro k w h1 h2 h3
    obtain ⟨m, rfl⟩ : ∃ m, k = m + 1 := ⟨k - 1, by omega⟩
    have hw : W w := by unfold W; omega
    have hn := nd_le hw
    have hp := pow_pos w
    have ht := rtext_yes hw 0 m (by decide) (by omega)
    rw [if_pos (by omega)] at ht
    simp only [retargetref01_Parse.l0]
    rw [if_pos (by omega), show (0 : Int) = ((0 : Nat) : Int) from rfl, ht, Option.bind_some]
    have e0 : rans s (d + 1) w = if (txt w 0).length = s.size ∧ good s w (run s (nd w) (s.size - nd w) 0) then ((w : Int), ((run s (nd w) (s.size - nd w) 0 : Nat) : Int), 0) else rans s d (w + 1) := rfl
    rw [e0]
    show (if ((strOfNums (txt w 0)).size : Int) = (s.size : Int) then _ else _) = _
    rw [strOfNums_size]
    by_cases hl : (txt w 0).length = s.size
    · have hl2 := txt_len w 0
      have hge : nd w ≤ s.size := by rw [← hl, hl2]; omega
      rw [if_pos (by omega), w_nd w (by omega), w_sub s.size (nd w) hge (by omega)]
      have := rparse_l1 s hs hw (rans s d (w + 1)) (3000 * d + 200) (by omega) (fun k hk => ih k (w + 1) (by omega) (by omega) hk) (nd w) m (s.size - nd w) 0 (by omega) (by omega) (by decide)
      refine this.trans ?_
      congr 1
      by_cases hg : good s w (run s (nd w) (s.size - nd w) 0)
      · rw [if_pos hg, if_pos ⟨hl, hg⟩]
      · rw [if_neg hg, if_neg (fun e => hg e.2)]
    · rw [if_neg (by omega), if_neg (fun e => hl e.1), w_add1 w (by omega)]
      exact ih m (w + 1) (by omega) (by omega) (by omega)
theorem rans_good {s : ByteArray} {w x : Nat} (h : good s w x) : ∀ d v : Nat, v + d = 65 → v ≤ w → rans s d v = ((w : Int), (x : Int), 0) := by
  classical
  intro d
  induction d with
  | zero => intro v h1 h2; have := h.1; unfold W at this; omega
  | succ d ih =>
    intro v h1 h2
    have e0 : rans s (d + 1) v = if (txt v 0).length = s.size ∧ good s v (run s (nd v) (s.size - nd v) 0) then ((v : Int), ((run s (nd v) (s.size - nd v) 0 : Nat) : Int), 0) else rans s d (v + 1) := rfl
    rw [e0]
    by_cases hc : (txt v 0).length = s.size ∧ good s v (run s (nd v) (s.size - nd v) 0)
    · rw [if_pos hc]
      have a := good_parse hc.2
      have b := good_parse h
      rw [a] at b
      exact b
    · rw [if_neg hc]
      by_cases e : v = w
      · exfalso
        subst e
        apply hc
        obtain ⟨hw, hx, rfl⟩ := h
        have hl := txt_len v x
        have hl0 := txt_len v 0
        refine ⟨by rw [strOfNums_size, hl, hl0], ?_⟩
        rw [strOfNums_size, hl, Nat.add_sub_cancel, run_txt hw hx _ rfl]
        exact ⟨hw, hx, rfl⟩
      · exact ih (v + 1) (by omega) (by omega)
theorem rans_bad {s : ByteArray} (h : ∀ w x, ¬ good s w x) : ∀ d v : Nat, rans s d v = (0, 0, 12) := by
  classical
  intro d
  induction d with
  | zero => intro v; rfl
  | succ d ih =>
    intro v
    have e0 : rans s (d + 1) v = if (txt v 0).length = s.size ∧ good s v (run s (nd v) (s.size - nd v) 0) then ((v : Int), ((run s (nd v) (s.size - nd v) 0 : Nat) : Int), 0) else rans s d (v + 1) := rfl
    rw [e0, if_neg (fun e => h _ _ e.2)]
    exact ih (v + 1)
theorem rparse_eq (s : ByteArray) (hs : s.size ≤ 1000) (k : Nat) (hk : 200000 ≤ k) : retargetref01_Parse.f k s = some (parseS s) := by
  classical
  unfold retargetref01_Parse.f
  by_cases h20 : (s.size : Int) > 20
  · rw [if_pos h20, bad_parse]
    intro w x h
    have hn := nd_le h.1
    have e : s.size = (txt w x).length := by rw [h.2.2, strOfNums_size]
    rw [txt_len] at e
    split at e <;> omega
  · rw [if_neg h20, show (1 : Int) = ((1 : Nat) : Int) from rfl, rparse_l0 s hs 64 k 1 (by omega) (by omega) (by omega)]
    by_cases h : ∃ w x, good s w x
    · obtain ⟨w, x, h⟩ := h
      have hw := h.1
      unfold W at hw
      rw [good_parse h, rans_good h 64 1 (by omega) (by omega)]
    · have h' : ∀ w x, ¬ good s w x := fun w x e => h ⟨w, x, e⟩
      rw [bad_parse h', rans_bad h']
end Go.Proofs.Ytbckdelbkcfjkaa.BiP
