/- The walks of the two closures of rows.Unpack. -/
import Derived.Test.YtbckdelbkcfjkaaRoFrowsCheck
import Derived.Test.YtbckdelbkcfjkaaRoFrowsshort
import Derived.Test.YtbckdelbkcfjkaaRoFrowsunfold
import Derived.RangeFuncBox
namespace Go.Proofs.Ytbckdelbkcfjkaa.Ro
open Go.RowKit Go.Proofs.YtbckdelbkcfjkaaW.PrintWords Go.Proofs.YtbckdelbkcfjkaaW.PrintLast Go.Proofs.YtbckdelbkcfjkaaW.PrintMore
set_option linter.unusedVariables false
set_option linter.unusedSimpArgs false
/-- The world with one variable's box turned; everything else lies as it lay. -/
structure OnlyAt (g : Nat) (v : Value) (w w' : World) : Prop where
  box : Boxed w' g 3 v
  size : w'.heap.size = w.heap.size
  rest : ∀ k, k ≠ g → w'.heap[k]? = w.heap[k]?
  os : w'.os = w.os
  tape : w'.tape = w.tape
  output : w'.output = w.output
theorem OnlyAt.trans {g : Nat} {u v : Value} {a b c : World} (h : OnlyAt g u a b) (k : OnlyAt g v b c) : OnlyAt g v a c :=
  ⟨k.box, k.size.trans h.size, fun i hi => (k.rest i hi).trans (h.rest i hi), k.os.trans h.os, k.tape.trans h.tape, k.output.trans h.output⟩
theorem OnlyAt.cell {g : Nat} {v : Value} {a b : World} (h : OnlyAt g v a b) {p : Addr} (hp : p.block ≠ g) : b.cell? p = a.cell? p := World.cell?_of_block (h.rest _ hp)
theorem onlyAt_self {g : Nat} {v : Value} {a : World} (h : Boxed a g 3 v) (n : Nat) : OnlyAt g v a (a.drewN n) := ⟨h, rfl, fun _ _ => rfl, rfl, rfl, rfl⟩
set_option maxHeartbeats 1000000 in
set_option maxRecDepth 100000 in
theorem next_no (ga gb : Nat) (A : Option Addr) (c : Nat) (n : Nat) (w : World) (hn : n ≤ 9223372036854775807) (ha : Boxed w ga 3 (.int .i64 (n : Int))) (hb : w.cell? ⟨gb, 0, none⟩ = some (.slice A n c)) :
    Calls Try.prog 102 #[.pointer (some ⟨ga, 0, none⟩), .pointer (some ⟨gb, 0, none⟩)] w fun e w' => e = .returned (.tuple #[.int .u8 0, .bool false]) ∧ OnlyAt ga (.int .i64 (n : Int)) w w' := by
  have hc := ha.cell
  have HA := Aside0.mk ha
  have h1 : decide (n ≤ n) = true := decide_eq_true (Nat.le_refl _)
  clear ha
  go_enter Try.func102, Try.ntmps102
  go_wp2
  go_ret2
  exact ⟨rfl, HA.out, rfl, fun _ _ => rfl, rfl, rfl, rfl⟩
set_option maxHeartbeats 1000000 in
set_option maxRecDepth 100000 in
theorem next_yes (ga gb : Nat) (A : Option Addr) (c : Nat) (l : List Int) (i : Nat) (w : World) (hn : l.length ≤ 9223372036854775807) (hi : i < l.length) (hne : ga ≠ gb) (ha : Boxed w ga 3 (.int .i64 (i : Int))) (hb : w.cell? ⟨gb, 0, none⟩ = some (.slice A l.length c)) (hC : Kd.C (Kd.int .u8) w A l.length l) (hfar : ∀ ad, A = some ad → ad.block ≠ ga) :
    Calls Try.prog 102 #[.pointer (some ⟨ga, 0, none⟩), .pointer (some ⟨gb, 0, none⟩)] w fun e w' => e = .returned (.tuple #[.int .u8 (rd l (i : Int)), .bool true]) ∧ OnlyAt ga (.int .i64 ((i : Int) + 1)) w w' := by
  have hc := ha.cell
  have hf := ha.frozen
  have HA := Aside0.mk ha
  have h1 : decide (l.length ≤ i) = false := decide_eq_false (by omega)
  obtain ⟨ad, rfl, hx⟩ := Kd.at_int hC (i : Int) (by omega) (by omega)
  have hx2 : (w.setCell ⟨ga, 0, none⟩ (.int .i64 ((i : Int) + 1))).cell? (ad.add i) = some (.int .u8 (rd l (i : Int))) := by
    rw [World.cell?_of_block (Below.heap_setCell w ⟨ga, 0, none⟩ _ _ (by rw [add_block]; exact hfar ad rfl))]
    rw [Int.toNat_natCast] at hx
    exact hx
  clear ha hC hfar
  go_enter Try.func102, Try.ntmps102
  go_wp2
  go_ret2
  exact ⟨rfl, HA.out.set _, by simp [World.setCell], fun k hk => Below.heap_setCell w ⟨ga, 0, none⟩ _ k hk, rfl, rfl, rfl⟩
theorem c_only {g : Nat} {v : Value} {w w' : World} {A : Option Addr} {n : Nat} {l : List Int} (h : OnlyAt g v w w') (hC : Kd.C (Kd.int .u8) w A n l) (hfar : ∀ ad, A = some ad → ad.block ≠ g) : Kd.C (Kd.int .u8) w' A n l := by
  obtain ⟨h1, h2, h3⟩ := hC
  refine ⟨h1, h2, fun hp => ?_⟩
  obtain ⟨ad, e, h4⟩ := h3 hp
  refine ⟨ad, e, fun j p hj => ?_⟩
  obtain ⟨c, hc, hk, hcc⟩ := h4 j p hj
  exact ⟨c, hc, hk, fun i u hu => (h.cell (by rw [add_block]; exact hfar ad e)).trans (hcc i u hu)⟩
/-- The number with seven bits more. -/
def numN (n x : Int) (r : Nat) : Int := Go.bits .or .u64 n (IntKind.u64.wrap (IntKind.u64.wrap (Go.bits .and .u8 x 127) * 2 ^ (7 * r)))
theorem numN0 (n x : Int) : numN n x 0 = Go.bits .or .u64 n (IntKind.u64.wrap (IntKind.u64.wrap (Go.bits .and .u8 x 127))) := by
  unfold numN
  rw [Nat.mul_zero, Int.pow_zero, Int.mul_one]
/-- What 'number' answers with d rounds left, in round r, with n so far, at the place i: the number, whether there is one, and the place behind. -/
def numG (l : List Int) : Nat → Nat → Int → Nat → (Int × Bool) × Nat
  | 0, _, _, i => ((0, false), i)
  | d + 1, r, n, i =>
    if i < l.length then
      (if 0 < r ∧ rd l (i : Int) = 0 then ((0, false), i + 1)
       else if rd l (i : Int) < 128 then ((numN n (rd l (i : Int)) r, true), i + 1)
       else numG l d (r + 1) (numN n (rd l (i : Int)) r) (i + 1))
    else ((0, false), i)
set_option maxHeartbeats 4000000 in
set_option maxRecDepth 100000 in
theorem number_calls (ga gb gn : Nat) (A : Option Addr) (c : Nat) (l : List Int) (i : Nat) (R : (Int × Bool) × Nat) (w : World) (hn : l.length ≤ 9223372036854775807) (hi : i ≤ l.length) (hne : ga ≠ gb) (hne2 : ga ≠ gn) (ha : Boxed w ga 3 (.int .i64 (i : Int))) (hb : w.cell? ⟨gb, 0, none⟩ = some (.slice A l.length c))
    (hg : w.cell? ⟨gn, 0, none⟩ = some (.func (.func 102) #[] #[.pointer (some ⟨ga, 0, none⟩), .pointer (some ⟨gb, 0, none⟩)])) (hC : Kd.C (Kd.int .u8) w A l.length l) (hfar : ∀ ad, A = some ad → ad.block ≠ ga) (hR : numG l 5 0 0 i = R) :
    Calls Try.prog 103 #[.pointer (some ⟨gn, 0, none⟩)] w fun e w' => e = .returned (.tuple #[.int .u64 R.1.1, .bool R.1.2]) ∧ OnlyAt ga (.int .i64 (R.2 : Int)) w w' := by
  have HA := Aside0.mk ha
  have HR := Aside0.mk hR
  have HC := Aside0.mk hC
  have HF := Aside0.mk hfar
  have HB := Aside0.mk hb
  have HG := Aside0.mk hg
  clear ha hR hC hfar hb hg
  go_enter Try.func103, Try.ntmps103
  go_wp2
  go_loopw [3, 7] (fun n r wr => ∃ (n0 : Int) (r0 i0 : Nat), n = .int .u64 n0 ∧ r = .int .i64 (r0 : Int) ∧ r0 ≤ 5 ∧ i0 ≤ l.length ∧ Aside0 (OnlyAt ga (.int .i64 (i0 : Int)) w wr) ∧ Aside0 (numG l (5 - r0) r0 n0 i0 = R)) (fun _ r _ => 5 - (intOf r).toNat)
  case atStart => exact ⟨0, 0, i, rfl, rfl, by omega, hi, ⟨HA.out, rfl, fun _ _ => rfl, rfl, rfl, rfl⟩, HR⟩
  case round =>
    obtain ⟨n0, r0, i0, rfl, rfl, h5, h6, HO, HN⟩ := hrel
    have hg' : wr.cell? ⟨gn, 0, none⟩ = some (.func (.func 102) #[] #[.pointer (some ⟨ga, 0, none⟩), .pointer (some ⟨gb, 0, none⟩)]) := (HO.out.cell (p := ⟨gn, 0, none⟩) (fun e => hne2 e.symm)).trans HG.out
    by_cases hlt : r0 < 5
    · obtain ⟨d, hd⟩ : ∃ d, 5 - r0 = d + 1 := ⟨4 - r0, by omega⟩
      have hN := HN.out
      rw [hd, numG] at hN
      have t1 : decide ((r0 : Int) < 5) = true := decide_eq_true (by omega)
      have hC2 := Aside0.mk (c_only HO.out HC.out HF.out)
      have hB2 := Aside0.mk ((HO.out.cell (p := ⟨gb, 0, none⟩) (fun e => hne e.symm)).trans HB.out)
      by_cases hil : i0 < l.length
      · rw [if_pos hil] at hN
        by_cases hz : 0 < r0 ∧ rd l (i0 : Int) = 0
        · rw [if_pos hz] at hN
          obtain ⟨z1, z2⟩ := hz
          have z3 : decide ((0 : Int) < (r0 : Int)) = true := decide_eq_true (by omega)
          have z4 : decide (0 < r0) = true := decide_eq_true z1
          have z5 : (rd l (i0 : Int) == 0) = true := beq_iff_eq.mpr z2
          have HN2 := Aside0.mk hN
          clear hN z2
          go_wp2_with (go_at_call 102; (with_reducible refine (next_yes ga gb A c l i0 _ hn hil hne HO.out.box hB2.out hC2.out HF.out).mono ?_); rintro e w3 ⟨rfl, ho⟩; have HO3 := Aside0.mk (HO.out.trans ho); clear ho)
          go_ret2
          have e := HN2.out
          subst e
          exact ⟨rfl, HO3.out⟩
        · rw [if_neg hz] at hN
          by_cases hx : rd l (i0 : Int) < 128
          · rw [if_pos hx] at hN
            have x1 : decide (rd l (i0 : Int) < 128) = true := decide_eq_true hx
            have HN2 := Aside0.mk hN
            clear hN
            by_cases hr : r0 = 0
            · subst hr
              clear hz hx
              go_wp2_with (go_at_call 102; (with_reducible refine (next_yes ga gb A c l i0 _ hn hil hne HO.out.box hB2.out hC2.out HF.out).mono ?_); rintro e w3 ⟨rfl, ho⟩; have HO3 := Aside0.mk (HO.out.trans ho); clear ho)
              go_ret2
              have e := HN2.out
              subst e
              refine ⟨?_, HO3.out⟩
              show _ = Ending.returned (.tuple #[.int .u64 (numN n0 (rd l (i0 : Int)) 0), .bool true])
              rw [numN0]
              rfl
            · have z1 : 0 < r0 := by omega
              have z3 : decide ((0 : Int) < (r0 : Int)) = true := decide_eq_true (by omega)
              have z4 : decide (0 < r0) = true := decide_eq_true z1
              have z5 : (rd l (i0 : Int) == 0) = false := beq_eq_false_iff_ne.mpr (fun e => hz ⟨z1, e⟩)
              clear hz hx hr
              go_wp2_with (go_at_call 102; (with_reducible refine (next_yes ga gb A c l i0 _ hn hil hne HO.out.box hB2.out hC2.out HF.out).mono ?_); rintro e w3 ⟨rfl, ho⟩; have HO3 := Aside0.mk (HO.out.trans ho); clear ho)
              go_ret2
              have e := HN2.out
              subst e
              exact ⟨rfl, HO3.out⟩
          · rw [if_neg hx] at hN
            have x1 : decide (rd l (i0 : Int) < 128) = false := decide_eq_false hx
            have HN2 := Aside0.mk hN
            clear hN
            by_cases hr : r0 = 0
            · subst hr
              clear hz hx
              go_wp2_with (go_at_call 102; (with_reducible refine (next_yes ga gb A c l i0 _ hn hil hne HO.out.box hB2.out hC2.out HF.out).mono ?_); rintro e w3 ⟨rfl, ho⟩; have HO3 := Aside0.mk (HO.out.trans ho); clear ho)
              go_roundw
              case rel => exact ⟨numN n0 (rd l (i0 : Int)) 0, 1, i0 + 1, by rw [numN0], by rfl, by omega, by omega, HO3, ⟨by have := HN2.out; rw [show d = 5 - 1 by omega] at this; exact this⟩⟩
              case measure => simp [intOf]
            · have z1 : 0 < r0 := by omega
              have z3 : decide ((0 : Int) < (r0 : Int)) = true := decide_eq_true (by omega)
              have z4 : decide (0 < r0) = true := decide_eq_true z1
              have z5 : (rd l (i0 : Int) == 0) = false := beq_eq_false_iff_ne.mpr (fun e => hz ⟨z1, e⟩)
              clear hz hx hr
              go_wp2_with (go_at_call 102; (with_reducible refine (next_yes ga gb A c l i0 _ hn hil hne HO.out.box hB2.out hC2.out HF.out).mono ?_); rintro e w3 ⟨rfl, ho⟩; have HO3 := Aside0.mk (HO.out.trans ho); clear ho)
              go_roundw
              case rel => exact ⟨numN n0 (rd l (i0 : Int)) r0, r0 + 1, i0 + 1, rfl, by simp, by omega, by omega, HO3, ⟨by have := HN2.out; rw [show d = 5 - (r0 + 1) by omega] at this; exact this⟩⟩
              case measure => simp [intOf]; omega
      · rw [if_neg hil] at hN
        obtain rfl : i0 = l.length := by omega
        have HN2 := Aside0.mk hN
        clear hN
        go_wp2_with (go_at_call 102; (with_reducible refine (next_no ga gb A c l.length _ hn HO.out.box hB2.out).mono ?_); rintro e w3 ⟨rfl, ho⟩; have HO3 := Aside0.mk (HO.out.trans ho); clear ho)
        go_ret2
        have e := HN2.out
        subst e
        exact ⟨rfl, HO3.out⟩
    · have t1 : decide ((r0 : Int) < 5) = false := decide_eq_false (by omega)
      have hN := HN.out
      rw [show 5 - r0 = 0 by omega, numG] at hN
      have HN2 := Aside0.mk hN
      clear hN
      go_wp2
      go_ret2
      have e := HN2.out
      subst e
      exact ⟨rfl, HO.out⟩
end Go.Proofs.Ytbckdelbkcfjkaa.Ro
