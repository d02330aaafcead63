-- Written by a program of this session (mkfam.py) out of what the kit's print.py says over the translation. Lean checks it.
import Derived.Test.YtbckdelbkcfjkaaBix0
import Derived.Test.YtbckdelbkcfjkaaBiFbitsConcat
import Derived.Test.YtbckdelbkcfjkaaBiFbitsExtend
import Derived.Test.YtbckdelbkcfjkaaBiFbitsExtract
import Derived.Test.YtbckdelbkcfjkaaBiFbitsMask
import Derived.Test.YtbckdelbkcfjkaaBiFbitsOf
import Derived.Test.YtbckdelbkcfjkaaBiFbitsOk
import Derived.Test.YtbckdelbkcfjkaaBiFbitsSigned
import Derived.Test.YtbckdelbkcfjkaaBiFretargetref01Concat
import Derived.Test.YtbckdelbkcfjkaaBiFretargetref01Extend
import Derived.Test.YtbckdelbkcfjkaaBiFretargetref01Extract
import Derived.Test.YtbckdelbkcfjkaaBiFretargetref01Mask
import Derived.Test.YtbckdelbkcfjkaaBiFretargetref01Of
import Derived.Test.YtbckdelbkcfjkaaBiFretargetref01Ok
import Derived.Test.YtbckdelbkcfjkaaBiFretargetref01Signed
namespace Go.Proofs.Ytbckdelbkcfjkaa.Bi
open Go.RowKit Go.Proofs.YtbckdelbkcfjkaaW.PrintWords Go.Proofs.YtbckdelbkcfjkaaW.PrintLast Go.Proofs.YtbckdelbkcfjkaaW.PrintMore
attribute [local go_sem] max2_int min2_int max_two min_two max_three min_three max_four min_four   -- for this text's walks alone
set_option linter.unusedVariables false
set_option linter.unusedSimpArgs false
/-! ### retargetlaw01_BitsParts: function 5 -/
mutual
def retargetlaw01_BitsParts.j0 : Nat → Int → Int → Int → Int → Int → Bool → Bool → Option (Bool)
  | 0, _, _, _, _, _, _, _ => none
  | k + 1, x0, x1, x2, x3, x4, x5, x78 => if x78 = true then (some false) else ((bits_Extract.f k x0 x2 x1 x4).bind fun bt448 => ((retargetref01_Extract.f k x0 x2 x1 x4).bind fun bt450 => (if bt448.1 = bt450.1 then (retargetlaw01_BitsParts.j1 k x0 x1 x2 x3 x5 (bt448.2 != bt450.2)) else (retargetlaw01_BitsParts.j1 k x0 x1 x2 x3 x5 true))))
def retargetlaw01_BitsParts.j1 : Nat → Int → Int → Int → Int → Bool → Bool → Option (Bool)
  | 0, _, _, _, _, _, _ => none
  | k + 1, x0, x1, x2, x3, x5, x102 => if x102 = true then (some false) else ((bits_Concat.f k x0 x2 x1 x3).bind fun bt452 => ((retargetref01_Concat.f k x0 x2 x1 x3).bind fun bt454 => (if bt452.1 = bt454.1 then (retargetlaw01_BitsParts.j2 k x0 x1 x2 x5 (bt452.2 != bt454.2)) else (retargetlaw01_BitsParts.j2 k x0 x1 x2 x5 true))))
def retargetlaw01_BitsParts.j2 : Nat → Int → Int → Int → Bool → Bool → Option (Bool)
  | 0, _, _, _, _, _ => none
  | k + 1, x0, x1, x2, x5, x126 => if x126 = true then (some false) else ((bits_Extend.f k x0 x2 x1 x5).bind fun bt456 => ((retargetref01_Extend.f k x0 x2 x1 x5).bind fun bt458 => (if bt456.1 = bt458.1 then (some (bt456.2 == bt458.2)) else (some false))))
end
def retargetlaw01_BitsParts.f (k : Nat) (a0 : Int) (a1 : Int) (a2 : Int) (a3 : Int) (a4 : Int) (a5 : Bool) : Option (Bool) := (bits_Signed.f k a0 a2).bind fun bt436 => ((retargetref01_Signed.f k a0 a2).bind fun bt438 => ((bits_Of.f a0 a4).bind fun bt440 => ((retargetref01_Of.f k a0 a4).bind fun bt442 => (if bt436.1 = bt438.1 then (if bt436.2 = bt438.2 then (if bt440.1 = bt442.1 then (if bt440.2 = bt442.2 then ((bits_Ok.f a0 a2).bind fun t444 => ((retargetref01_Ok.f k a0 a2).bind fun t445 => (if (t444 != t445) = true then (retargetlaw01_BitsParts.j0 k a0 a1 a2 a3 a4 a5 true) else ((bits_Mask.f a0).bind fun t446 => ((retargetref01_Mask.f k a0).bind fun t447 => (retargetlaw01_BitsParts.j0 k a0 a1 a2 a3 a4 a5 (t446 != t447))))))) else (retargetlaw01_BitsParts.j0 k a0 a1 a2 a3 a4 a5 true)) else (retargetlaw01_BitsParts.j0 k a0 a1 a2 a3 a4 a5 true)) else (retargetlaw01_BitsParts.j0 k a0 a1 a2 a3 a4 a5 true)) else (retargetlaw01_BitsParts.j0 k a0 a1 a2 a3 a4 a5 true)))))
theorem retargetlaw01_BitsParts.mono_l : ∀ k, (∀ y0 y1 y2 y3 y4 y5 y6, LeO (retargetlaw01_BitsParts.j0 k y0 y1 y2 y3 y4 y5 y6) (retargetlaw01_BitsParts.j0 (k + 1) y0 y1 y2 y3 y4 y5 y6)) ∧ (∀ y0 y1 y2 y3 y4 y5, LeO (retargetlaw01_BitsParts.j1 k y0 y1 y2 y3 y4 y5) (retargetlaw01_BitsParts.j1 (k + 1) y0 y1 y2 y3 y4 y5)) ∧ (∀ y0 y1 y2 y3 y4, LeO (retargetlaw01_BitsParts.j2 k y0 y1 y2 y3 y4) (retargetlaw01_BitsParts.j2 (k + 1) y0 y1 y2 y3 y4))
  | 0 => ⟨fun _ _ _ _ _ _ _ r h => by simp [retargetlaw01_BitsParts.j0] at h, fun _ _ _ _ _ _ r h => by simp [retargetlaw01_BitsParts.j1] at h, fun _ _ _ _ _ r h => by simp [retargetlaw01_BitsParts.j2] at h⟩
  | k + 1 => by
    obtain ⟨ih0, ih1, ih2⟩ := retargetlaw01_BitsParts.mono_l k
    refine ⟨?_, ?_, ?_⟩
    · intro y0 y1 y2 y3 y4 y5 y6
      unfold retargetlaw01_BitsParts.j0
      repeat' first
      | (with_reducible exact ih0 _ _ _ _ _ _ _)
      | (with_reducible exact ih1 _ _ _ _ _ _)
      | (with_reducible exact ih2 _ _ _ _ _)
      | (with_reducible exact bits_Concat.mono _ _ _ _ _)
      | (with_reducible exact bits_Extend.mono _ _ _ _ _)
      | (with_reducible exact bits_Extract.mono _ _ _ _ _)
      | (with_reducible exact bits_Signed.mono _ _ _)
      | (with_reducible exact retargetref01_Concat.mono _ _ _ _ _)
      | (with_reducible exact retargetref01_Extend.mono _ _ _ _ _)
      | (with_reducible exact retargetref01_Extract.mono _ _ _ _ _)
      | (with_reducible exact retargetref01_Mask.mono _ _)
      | (with_reducible exact retargetref01_Of.mono _ _ _)
      | (with_reducible exact retargetref01_Ok.mono _ _ _)
      | (with_reducible exact retargetref01_Signed.mono _ _ _)
      | (with_reducible exact LeO.refl _)
      | (with_reducible exact LeO.none _)
      | (with_reducible refine LeO.ite ?_ ?_)
      | (with_reducible refine LeO.bind ?_ (fun _ => ?_))
      | exact ih0 _ _ _ _ _ _ _
      | exact ih1 _ _ _ _ _ _
      | exact ih2 _ _ _ _ _
      | exact bits_Concat.mono _ _ _ _ _
      | exact bits_Extend.mono _ _ _ _ _
      | exact bits_Extract.mono _ _ _ _ _
      | exact bits_Signed.mono _ _ _
      | exact retargetref01_Concat.mono _ _ _ _ _
      | exact retargetref01_Extend.mono _ _ _ _ _
      | exact retargetref01_Extract.mono _ _ _ _ _
      | exact retargetref01_Mask.mono _ _
      | exact retargetref01_Of.mono _ _ _
      | exact retargetref01_Ok.mono _ _ _
      | exact retargetref01_Signed.mono _ _ _
      | exact LeO.none _
      | refine LeO.ite ?_ ?_
      | refine LeO.bind ?_ (fun _ => ?_)
    · intro y0 y1 y2 y3 y4 y5
      unfold retargetlaw01_BitsParts.j1
      repeat' first
      | (with_reducible exact ih0 _ _ _ _ _ _ _)
      | (with_reducible exact ih1 _ _ _ _ _ _)
      | (with_reducible exact ih2 _ _ _ _ _)
      | (with_reducible exact bits_Concat.mono _ _ _ _ _)
      | (with_reducible exact bits_Extend.mono _ _ _ _ _)
      | (with_reducible exact bits_Extract.mono _ _ _ _ _)
      | (with_reducible exact bits_Signed.mono _ _ _)
      | (with_reducible exact retargetref01_Concat.mono _ _ _ _ _)
      | (with_reducible exact retargetref01_Extend.mono _ _ _ _ _)
      | (with_reducible exact retargetref01_Extract.mono _ _ _ _ _)
      | (with_reducible exact retargetref01_Mask.mono _ _)
      | (with_reducible exact retargetref01_Of.mono _ _ _)
      | (with_reducible exact retargetref01_Ok.mono _ _ _)
      | (with_reducible exact retargetref01_Signed.mono _ _ _)
      | (with_reducible exact LeO.refl _)
      | (with_reducible exact LeO.none _)
      | (with_reducible refine LeO.ite ?_ ?_)
      | (with_reducible refine LeO.bind ?_ (fun _ => ?_))
      | exact ih0 _ _ _ _ _ _ _
      | exact ih1 _ _ _ _ _ _
      | exact ih2 _ _ _ _ _
      | exact bits_Concat.mono _ _ _ _ _
      | exact bits_Extend.mono _ _ _ _ _
      | exact bits_Extract.mono _ _ _ _ _
      | exact bits_Signed.mono _ _ _
      | exact retargetref01_Concat.mono _ _ _ _ _
      | exact retargetref01_Extend.mono _ _ _ _ _
      | exact retargetref01_Extract.mono _ _ _ _ _
      | exact retargetref01_Mask.mono _ _
      | exact retargetref01_Of.mono _ _ _
      | exact retargetref01_Ok.mono _ _ _
      | exact retargetref01_Signed.mono _ _ _
      | exact LeO.none _
      | refine LeO.ite ?_ ?_
      | refine LeO.bind ?_ (fun _ => ?_)
    · intro y0 y1 y2 y3 y4
      unfold retargetlaw01_BitsParts.j2
      repeat' first
      | (with_reducible exact ih0 _ _ _ _ _ _ _)
      | (with_reducible exact ih1 _ _ _ _ _ _)
      | (with_reducible exact ih2 _ _ _ _ _)
      | (with_reducible exact bits_Concat.mono _ _ _ _ _)
      | (with_reducible exact bits_Extend.mono _ _ _ _ _)
      | (with_reducible exact bits_Extract.mono _ _ _ _ _)
      | (with_reducible exact bits_Signed.mono _ _ _)
      | (with_reducible exact retargetref01_Concat.mono _ _ _ _ _)
      | (with_reducible exact retargetref01_Extend.mono _ _ _ _ _)
      | (with_reducible exact retargetref01_Extract.mono _ _ _ _ _)
      | (with_reducible exact retargetref01_Mask.mono _ _)
      | (with_reducible exact retargetref01_Of.mono _ _ _)
      | (with_reducible exact retargetref01_Ok.mono _ _ _)
      | (with_reducible exact retargetref01_Signed.mono _ _ _)
      | (with_reducible exact LeO.refl _)
      | (with_reducible exact LeO.none _)
      | (with_reducible refine LeO.ite ?_ ?_)
      | (with_reducible refine LeO.bind ?_ (fun _ => ?_))
      | exact ih0 _ _ _ _ _ _ _
      | exact ih1 _ _ _ _ _ _
      | exact ih2 _ _ _ _ _
      | exact bits_Concat.mono _ _ _ _ _
      | exact bits_Extend.mono _ _ _ _ _
      | exact bits_Extract.mono _ _ _ _ _
      | exact bits_Signed.mono _ _ _
      | exact retargetref01_Concat.mono _ _ _ _ _
      | exact retargetref01_Extend.mono _ _ _ _ _
      | exact retargetref01_Extract.mono _ _ _ _ _
      | exact retargetref01_Mask.mono _ _
      | exact retargetref01_Of.mono _ _ _
      | exact retargetref01_Ok.mono _ _ _
      | exact retargetref01_Signed.mono _ _ _
      | exact LeO.none _
      | refine LeO.ite ?_ ?_
      | refine LeO.bind ?_ (fun _ => ?_)
theorem retargetlaw01_BitsParts.mono : ∀ a0 a1 a2 a3 a4 a5 k, LeO (retargetlaw01_BitsParts.f k a0 a1 a2 a3 a4 a5) (retargetlaw01_BitsParts.f (k + 1) a0 a1 a2 a3 a4 a5) := by
  intro a0 a1 a2 a3 a4 a5 k
  obtain ⟨ih0, ih1, ih2⟩ := retargetlaw01_BitsParts.mono_l k
  unfold retargetlaw01_BitsParts.f
  repeat' first
      | (with_reducible exact ih0 _ _ _ _ _ _ _)
      | (with_reducible exact ih1 _ _ _ _ _ _)
      | (with_reducible exact ih2 _ _ _ _ _)
      | (with_reducible exact bits_Concat.mono _ _ _ _ _)
      | (with_reducible exact bits_Extend.mono _ _ _ _ _)
      | (with_reducible exact bits_Extract.mono _ _ _ _ _)
      | (with_reducible exact bits_Signed.mono _ _ _)
      | (with_reducible exact retargetref01_Concat.mono _ _ _ _ _)
      | (with_reducible exact retargetref01_Extend.mono _ _ _ _ _)
      | (with_reducible exact retargetref01_Extract.mono _ _ _ _ _)
      | (with_reducible exact retargetref01_Mask.mono _ _)
      | (with_reducible exact retargetref01_Of.mono _ _ _)
      | (with_reducible exact retargetref01_Ok.mono _ _ _)
      | (with_reducible exact retargetref01_Signed.mono _ _ _)
      | (with_reducible exact LeO.refl _)
      | (with_reducible exact LeO.none _)
      | (with_reducible refine LeO.ite ?_ ?_)
      | (with_reducible refine LeO.bind ?_ (fun _ => ?_))
      | exact ih0 _ _ _ _ _ _ _
      | exact ih1 _ _ _ _ _ _
      | exact ih2 _ _ _ _ _
      | exact bits_Concat.mono _ _ _ _ _
      | exact bits_Extend.mono _ _ _ _ _
      | exact bits_Extract.mono _ _ _ _ _
      | exact bits_Signed.mono _ _ _
      | exact retargetref01_Concat.mono _ _ _ _ _
      | exact retargetref01_Extend.mono _ _ _ _ _
      | exact retargetref01_Extract.mono _ _ _ _ _
      | exact retargetref01_Mask.mono _ _
      | exact retargetref01_Of.mono _ _ _
      | exact retargetref01_Ok.mono _ _ _
      | exact retargetref01_Signed.mono _ _ _
      | exact LeO.none _
      | refine LeO.ite ?_ ?_
      | refine LeO.bind ?_ (fun _ => ?_)
set_option maxHeartbeats 8000000 in
set_option maxRecDepth 100000 in
theorem retargetlaw01_BitsParts.calls (k : Nat) (a0 : Int) (a1 : Int) (a2 : Int) (a3 : Int) (a4 : Int) (a5 : Bool) (r : Bool) (w : World) (h : retargetlaw01_BitsParts.f k a0 a1 a2 a3 a4 a5 = some r) :
    Calls Try.prog 5 #[.int .i64 a0, .int .i64 a1, .int .u64 a2, .int .u64 a3, .int .i64 a4, .bool a5] w fun e w' => e = .returned (.bool r) ∧ Below w.heap.size w w' := by
  have HB := Aside0.mk (Below.refl w.heap.size w)
  have H : ((bits_Signed.f k a0 a2).bind fun bt436 => ((retargetref01_Signed.f k a0 a2).bind fun bt438 => ((bits_Of.f a0 a4).bind fun bt440 => ((retargetref01_Of.f k a0 a4).bind fun bt442 => (if bt436.1 = bt438.1 then (if bt436.2 = bt438.2 then (if bt440.1 = bt442.1 then (if bt440.2 = bt442.2 then ((bits_Ok.f a0 a2).bind fun t444 => ((retargetref01_Ok.f k a0 a2).bind fun t445 => (if (t444 != t445) = true then (retargetlaw01_BitsParts.j0 k a0 a1 a2 a3 a4 a5 true) else ((bits_Mask.f a0).bind fun t446 => ((retargetref01_Mask.f k a0).bind fun t447 => (retargetlaw01_BitsParts.j0 k a0 a1 a2 a3 a4 a5 (t446 != t447))))))) else (retargetlaw01_BitsParts.j0 k a0 a1 a2 a3 a4 a5 true)) else (retargetlaw01_BitsParts.j0 k a0 a1 a2 a3 a4 a5 true)) else (retargetlaw01_BitsParts.j0 k a0 a1 a2 a3 a4 a5 true)) else (retargetlaw01_BitsParts.j0 k a0 a1 a2 a3 a4 a5 true)))))) = some r := h
  clear h
  replace H := Option.bind_eq_some_iff.mp H
  obtain ⟨⟨t436, t437⟩, A70, H⟩ := H
  replace H : ((retargetref01_Signed.f k a0 a2).bind fun bt438 => ((bits_Of.f a0 a4).bind fun bt440 => ((retargetref01_Of.f k a0 a4).bind fun bt442 => (if t436 = bt438.1 then (if t437 = bt438.2 then (if bt440.1 = bt442.1 then (if bt440.2 = bt442.2 then ((bits_Ok.f a0 a2).bind fun t444 => ((retargetref01_Ok.f k a0 a2).bind fun t445 => (if (t444 != t445) = true then (retargetlaw01_BitsParts.j0 k a0 a1 a2 a3 a4 a5 true) else ((bits_Mask.f a0).bind fun t446 => ((retargetref01_Mask.f k a0).bind fun t447 => (retargetlaw01_BitsParts.j0 k a0 a1 a2 a3 a4 a5 (t446 != t447))))))) else (retargetlaw01_BitsParts.j0 k a0 a1 a2 a3 a4 a5 true)) else (retargetlaw01_BitsParts.j0 k a0 a1 a2 a3 a4 a5 true)) else (retargetlaw01_BitsParts.j0 k a0 a1 a2 a3 a4 a5 true)) else (retargetlaw01_BitsParts.j0 k a0 a1 a2 a3 a4 a5 true))))) = some r := H
  have A7 := Aside0.mk A70
  clear A70
  replace H := Option.bind_eq_some_iff.mp H
  obtain ⟨⟨t438, t439⟩, A80, H⟩ := H
  replace H : ((bits_Of.f a0 a4).bind fun bt440 => ((retargetref01_Of.f k a0 a4).bind fun bt442 => (if t436 = t438 then (if t437 = t439 then (if bt440.1 = bt442.1 then (if bt440.2 = bt442.2 then ((bits_Ok.f a0 a2).bind fun t444 => ((retargetref01_Ok.f k a0 a2).bind fun t445 => (if (t444 != t445) = true then (retargetlaw01_BitsParts.j0 k a0 a1 a2 a3 a4 a5 true) else ((bits_Mask.f a0).bind fun t446 => ((retargetref01_Mask.f k a0).bind fun t447 => (retargetlaw01_BitsParts.j0 k a0 a1 a2 a3 a4 a5 (t446 != t447))))))) else (retargetlaw01_BitsParts.j0 k a0 a1 a2 a3 a4 a5 true)) else (retargetlaw01_BitsParts.j0 k a0 a1 a2 a3 a4 a5 true)) else (retargetlaw01_BitsParts.j0 k a0 a1 a2 a3 a4 a5 true)) else (retargetlaw01_BitsParts.j0 k a0 a1 a2 a3 a4 a5 true)))) = some r := H
  have A8 := Aside0.mk A80
  clear A80
  replace H := Option.bind_eq_some_iff.mp H
  obtain ⟨⟨t440, t441⟩, A90, H⟩ := H
  replace H : ((retargetref01_Of.f k a0 a4).bind fun bt442 => (if t436 = t438 then (if t437 = t439 then (if t440 = bt442.1 then (if t441 = bt442.2 then ((bits_Ok.f a0 a2).bind fun t444 => ((retargetref01_Ok.f k a0 a2).bind fun t445 => (if (t444 != t445) = true then (retargetlaw01_BitsParts.j0 k a0 a1 a2 a3 a4 a5 true) else ((bits_Mask.f a0).bind fun t446 => ((retargetref01_Mask.f k a0).bind fun t447 => (retargetlaw01_BitsParts.j0 k a0 a1 a2 a3 a4 a5 (t446 != t447))))))) else (retargetlaw01_BitsParts.j0 k a0 a1 a2 a3 a4 a5 true)) else (retargetlaw01_BitsParts.j0 k a0 a1 a2 a3 a4 a5 true)) else (retargetlaw01_BitsParts.j0 k a0 a1 a2 a3 a4 a5 true)) else (retargetlaw01_BitsParts.j0 k a0 a1 a2 a3 a4 a5 true))) = some r := H
  have A9 := Aside0.mk A90
  clear A90
  replace H := Option.bind_eq_some_iff.mp H
  obtain ⟨⟨t442, t443⟩, A100, H⟩ := H
  replace H : (if t436 = t438 then (if t437 = t439 then (if t440 = t442 then (if t441 = t443 then ((bits_Ok.f a0 a2).bind fun t444 => ((retargetref01_Ok.f k a0 a2).bind fun t445 => (if (t444 != t445) = true then (retargetlaw01_BitsParts.j0 k a0 a1 a2 a3 a4 a5 true) else ((bits_Mask.f a0).bind fun t446 => ((retargetref01_Mask.f k a0).bind fun t447 => (retargetlaw01_BitsParts.j0 k a0 a1 a2 a3 a4 a5 (t446 != t447))))))) else (retargetlaw01_BitsParts.j0 k a0 a1 a2 a3 a4 a5 true)) else (retargetlaw01_BitsParts.j0 k a0 a1 a2 a3 a4 a5 true)) else (retargetlaw01_BitsParts.j0 k a0 a1 a2 a3 a4 a5 true)) else (retargetlaw01_BitsParts.j0 k a0 a1 a2 a3 a4 a5 true)) = some r := H
  have A10 := Aside0.mk A100
  clear A100
  have HC11 := Aside0.mk H
  clear H
  go_enter Try.func5, Try.ntmps5
  go_upto_region 5 with (first | ((with_reducible refine gate_callee (f := 31) rfl ?_); refine goesL_ (some 24) rfl rfl Try.func31 (by kernel_rfl) rfl #[.int .i64 a0, .int .u64 a2] rfl (by (try simp only [List.map_toArray, List.map_cons, List.map_nil]); first | done | rfl | (simp only [List.length_drop, List.length_take]; rfl)) ?_; (with_reducible refine (bits_Signed.calls k a0 a2 t436 t437 _ A7.out).mono ?_); rintro e w12 ⟨rfl, hb⟩; refine ⟨_, rfl, ?_⟩; have n0_ := Aside0.mk (below_step (by repeat (first | (with_reducible first | exact HB.out | apply below_alloc | apply pw_below_drewN | apply below_drew1) | exact HB.out)) hb); clear HB; have HB := n0_; clear n0_; (try clear hb); (try clear hb2); (try clear hk); (try clear hi)) | ((with_reducible refine gate_callee (f := 32) rfl ?_); refine goesL_ (some 30) rfl rfl Try.func32 (by kernel_rfl) rfl #[.int .i64 a0, .int .u64 a2] rfl (by (try simp only [List.map_toArray, List.map_cons, List.map_nil]); first | done | rfl | (simp only [List.length_drop, List.length_take]; rfl)) ?_; (with_reducible refine (retargetref01_Signed.calls k a0 a2 t438 t439 _ A8.out).mono ?_); rintro e w' ⟨rfl, ⟨nd, rfl⟩⟩; refine ⟨_, rfl, ?_⟩) | ((with_reducible refine gate_callee (f := 33) rfl ?_); refine goesL_ (some 36) rfl rfl Try.func33 (by kernel_rfl) rfl #[.int .i64 a0, .int .i64 a4] rfl (by (try simp only [List.map_toArray, List.map_cons, List.map_nil]); first | done | rfl | (simp only [List.length_drop, List.length_take]; rfl)) ?_; (with_reducible refine (bits_Of.calls a0 a4 t440 t441 _ A9.out).mono ?_); rintro e w' ⟨rfl, ⟨nd, rfl⟩⟩; refine ⟨_, rfl, ?_⟩) | ((with_reducible refine gate_callee (f := 34) rfl ?_); refine goesL_ (some 42) rfl rfl Try.func34 (by kernel_rfl) rfl #[.int .i64 a0, .int .i64 a4] rfl (by (try simp only [List.map_toArray, List.map_cons, List.map_nil]); first | done | rfl | (simp only [List.length_drop, List.length_take]; rfl)) ?_; (with_reducible refine (retargetref01_Of.calls k a0 a4 t442 t443 _ A10.out).mono ?_); rintro e w' ⟨rfl, ⟨nd, rfl⟩⟩; refine ⟨_, rfl, ?_⟩))
  (try simp only [Act.put, List.setIfInBounds_toArray, List.set_cons_zero, List.set_cons_succ])
  go_cut [78] (fun v78 wc => ∃ (kq : Nat) (x78_10 : Bool), v78 = .bool x78_10 ∧ Aside0 (retargetlaw01_BitsParts.j0 kq a0 a1 a2 a3 a4 a5 x78_10 = some r) ∧ Aside0 (kq ≤ k) ∧ Aside0 (Below w.heap.size w wc))
  case first =>
    have H := HC11.out
    clear HC11
    by_cases c13 : t436 = t438
    · rw [if_pos c13] at H
      have c13b0 : (t436 == t438) = true := beq_iff_eq.mpr c13
      have c13b1 : (t436 != t438) = false := bne_eq_false_iff_eq.mpr c13
      clear c13
      (first | rw [c13b0] | (simp only [i64_w, i32_w]; rw [c13b0]) | skip)
      by_cases c14 : t437 = t439
      · rw [if_pos c14] at H
        have c14b0 : (t437 == t439) = true := beq_iff_eq.mpr c14
        have c14b1 : (t437 != t439) = false := bne_eq_false_iff_eq.mpr c14
        clear c14
        by_cases c15 : t440 = t442
        · rw [if_pos c15] at H
          have c15b0 : (t440 == t442) = true := beq_iff_eq.mpr c15
          have c15b1 : (t440 != t442) = false := bne_eq_false_iff_eq.mpr c15
          clear c15
          by_cases c16 : t441 = t443
          · rw [if_pos c16] at H
            have c16b0 : (t441 == t443) = true := beq_iff_eq.mpr c16
            have c16b1 : (t441 != t443) = false := bne_eq_false_iff_eq.mpr c16
            clear c16
            replace H := Option.bind_eq_some_iff.mp H
            obtain ⟨t444, A170, H⟩ := H
            replace H : ((retargetref01_Ok.f k a0 a2).bind fun t445 => (if (t444 != t445) = true then (retargetlaw01_BitsParts.j0 k a0 a1 a2 a3 a4 a5 true) else ((bits_Mask.f a0).bind fun t446 => ((retargetref01_Mask.f k a0).bind fun t447 => (retargetlaw01_BitsParts.j0 k a0 a1 a2 a3 a4 a5 (t446 != t447)))))) = some r := H
            have A17 := Aside0.mk A170
            clear A170
            replace H := Option.bind_eq_some_iff.mp H
            obtain ⟨t445, A180, H⟩ := H
            replace H : (if (t444 != t445) = true then (retargetlaw01_BitsParts.j0 k a0 a1 a2 a3 a4 a5 true) else ((bits_Mask.f a0).bind fun t446 => ((retargetref01_Mask.f k a0).bind fun t447 => (retargetlaw01_BitsParts.j0 k a0 a1 a2 a3 a4 a5 (t446 != t447))))) = some r := H
            have A18 := Aside0.mk A180
            clear A180
            by_cases c19 : (t444 != t445) = true
            · rw [if_pos c19] at H
              have c19b0 : (t444 != t445) = true := c19
              (try (have c19b1 : decide (t444 = t445) = false := by simpa using c19))
              (try (have c19b2 : (t444 == t445) = false := by simpa using c19))
              (try (have c19b3 : ¬ (t444 = t445) := by simpa using c19))
              clear c19
              have H' := Aside0.mk H
              clear H
              go_wp2_with (first | (go_at_call 35; (with_reducible refine (bits_Ok.calls a0 a2 t444 _ A17.out).mono ?_); rintro e w' ⟨rfl, ⟨nd, rfl⟩⟩) | (go_at_call 36; (with_reducible refine (retargetref01_Ok.calls k a0 a2 t445 _ A18.out).mono ?_); rintro e w' ⟨rfl, ⟨nd, rfl⟩⟩))
              go_meet
              case rel => exact ⟨_, (true), (by first | rfl | (simp; done) | (simp [*]; done)), H', ⟨by first | omega | exact Nat.le_refl _⟩, ⟨by repeat (first | (with_reducible first | exact HB.out | apply below_alloc | apply pw_below_drewN | apply below_drew1) | exact HB.out)⟩⟩
            · rw [if_neg c19] at H
              have c19b0 : (t444 != t445) = false := by simpa using c19
              (try (have c19b1 : decide (t444 = t445) = true := by simpa using c19))
              (try (have c19b2 : (t444 == t445) = true := by simpa using c19))
              clear c19
              replace H := Option.bind_eq_some_iff.mp H
              obtain ⟨t446, A200, H⟩ := H
              replace H : ((retargetref01_Mask.f k a0).bind fun t447 => (retargetlaw01_BitsParts.j0 k a0 a1 a2 a3 a4 a5 (t446 != t447))) = some r := H
              have A20 := Aside0.mk A200
              clear A200
              replace H := Option.bind_eq_some_iff.mp H
              obtain ⟨t447, A210, H⟩ := H
              replace H : (retargetlaw01_BitsParts.j0 k a0 a1 a2 a3 a4 a5 (t446 != t447)) = some r := H
              have A21 := Aside0.mk A210
              clear A210
              have H' := Aside0.mk H
              clear H
              go_wp2_with (first | (go_at_call 35; (with_reducible refine (bits_Ok.calls a0 a2 t444 _ A17.out).mono ?_); rintro e w' ⟨rfl, ⟨nd, rfl⟩⟩) | (go_at_call 36; (with_reducible refine (retargetref01_Ok.calls k a0 a2 t445 _ A18.out).mono ?_); rintro e w' ⟨rfl, ⟨nd, rfl⟩⟩) | (go_at_call 37; (with_reducible refine (bits_Mask.calls a0 t446 _ A20.out).mono ?_); rintro e w' ⟨rfl, ⟨nd, rfl⟩⟩) | (go_at_call 38; (with_reducible refine (retargetref01_Mask.calls k a0 t447 _ A21.out).mono ?_); rintro e w' ⟨rfl, ⟨nd, rfl⟩⟩))
              go_meet
              case rel => exact ⟨_, ((t446 != t447)), (by first | rfl | (simp; done) | (simp [*]; done)), H', ⟨by first | omega | exact Nat.le_refl _⟩, ⟨by repeat (first | (with_reducible first | exact HB.out | apply below_alloc | apply pw_below_drewN | apply below_drew1) | exact HB.out)⟩⟩
          · rw [if_neg c16] at H
            have c16b0 : (t441 == t443) = false := beq_eq_false_iff_ne.mpr c16
            have c16b1 : (t441 != t443) = true := bne_iff_ne.mpr c16
            have H' := Aside0.mk H
            clear H
            go_wp2
            go_meet
            case rel => exact ⟨_, (true), (by first | rfl | (simp; done) | (simp [*]; done)), H', ⟨by first | omega | exact Nat.le_refl _⟩, ⟨by repeat (first | (with_reducible first | exact HB.out | apply below_alloc | apply pw_below_drewN | apply below_drew1) | exact HB.out)⟩⟩
        · rw [if_neg c15] at H
          have c15b0 : (t440 == t442) = false := beq_eq_false_iff_ne.mpr c15
          have c15b1 : (t440 != t442) = true := bne_iff_ne.mpr c15
          have H' := Aside0.mk H
          clear H
          go_wp2
          go_meet
          case rel => exact ⟨_, (true), (by first | rfl | (simp; done) | (simp [*]; done)), H', ⟨by first | omega | exact Nat.le_refl _⟩, ⟨by repeat (first | (with_reducible first | exact HB.out | apply below_alloc | apply pw_below_drewN | apply below_drew1) | exact HB.out)⟩⟩
      · rw [if_neg c14] at H
        have c14b0 : (t437 == t439) = false := beq_eq_false_iff_ne.mpr c14
        have c14b1 : (t437 != t439) = true := bne_iff_ne.mpr c14
        have H' := Aside0.mk H
        clear H
        go_wp2
        go_meet
        case rel => exact ⟨_, (true), (by first | rfl | (simp; done) | (simp [*]; done)), H', ⟨by first | omega | exact Nat.le_refl _⟩, ⟨by repeat (first | (with_reducible first | exact HB.out | apply below_alloc | apply pw_below_drewN | apply below_drew1) | exact HB.out)⟩⟩
    · rw [if_neg c13] at H
      have c13b0 : (t436 == t438) = false := beq_eq_false_iff_ne.mpr c13
      have c13b1 : (t436 != t438) = true := bne_iff_ne.mpr c13
      (first | rw [c13b0] | (simp only [i64_w, i32_w]; rw [c13b0]) | skip)
      have H' := Aside0.mk H
      clear H
      go_wp2
      go_meet
      case rel => exact ⟨_, (true), (by first | rfl | (simp; done) | (simp [*]; done)), H', ⟨by first | omega | exact Nat.le_refl _⟩, ⟨by repeat (first | (with_reducible first | exact HB.out | apply below_alloc | apply pw_below_drewN | apply below_drew1) | exact HB.out)⟩⟩
  case rest =>
    clear HC11
    try clear c1
    try clear p2
    try clear c3
    try clear c5
    try clear c13
    try clear c13b0
    try clear c13b1
    try clear c14
    try clear c14b0
    try clear c14b1
    try clear c15
    try clear c15b0
    try clear c15b1
    try clear c16
    try clear c16b0
    try clear c16b1
    try clear c19
    try clear c19b0
    try clear c19b1
    try clear c19b2
    obtain ⟨kq, x78_10, rfl, HA, HJ10, HB⟩ := hcut
    cases kq with
    | zero => exact absurd HA.out (by simp [retargetlaw01_BitsParts.j0])
    | succ kj10 =>
      have H := HA.out
      clear HA
      simp only [retargetlaw01_BitsParts.j0] at H
      by_cases c22 : x78_10 = true
      · subst c22
        have H1 : (some false) = some r := by rw [if_pos rfl] at H; exact H
        clear H
        have H := H1
        clear H1
        obtain rfl := Option.some.inj H
        go_wp2
        go_ret
        exact ⟨by first | rfl | (simp [errW_none, errW_some] <;> rfl) | (simp [*, errW_none, errW_some] <;> rfl), by repeat (first | (with_reducible first | exact HB.out | apply below_alloc | apply pw_below_drewN | apply below_drew1) | exact HB.out)⟩
      · replace c22 := Bool.eq_false_iff.mpr c22
        subst c22
        have H1 : ((bits_Extract.f kj10 a0 a2 a1 a4).bind fun bt448 => ((retargetref01_Extract.f kj10 a0 a2 a1 a4).bind fun bt450 => (if bt448.1 = bt450.1 then (retargetlaw01_BitsParts.j1 kj10 a0 a1 a2 a3 a5 (bt448.2 != bt450.2)) else (retargetlaw01_BitsParts.j1 kj10 a0 a1 a2 a3 a5 true)))) = some r := by rw [if_neg (show ¬ (false = true) by decide)] at H; exact H
        clear H
        have H := H1
        clear H1
        replace H := Option.bind_eq_some_iff.mp H
        obtain ⟨⟨t448, t449⟩, A230, H⟩ := H
        replace H : ((retargetref01_Extract.f kj10 a0 a2 a1 a4).bind fun bt450 => (if t448 = bt450.1 then (retargetlaw01_BitsParts.j1 kj10 a0 a1 a2 a3 a5 (t449 != bt450.2)) else (retargetlaw01_BitsParts.j1 kj10 a0 a1 a2 a3 a5 true))) = some r := H
        have A23 := Aside0.mk A230
        clear A230
        replace H := Option.bind_eq_some_iff.mp H
        obtain ⟨⟨t450, t451⟩, A240, H⟩ := H
        replace H : (if t448 = t450 then (retargetlaw01_BitsParts.j1 kj10 a0 a1 a2 a3 a5 (t449 != t451)) else (retargetlaw01_BitsParts.j1 kj10 a0 a1 a2 a3 a5 true)) = some r := H
        have A24 := Aside0.mk A240
        clear A240
        have HC25 := Aside0.mk H
        clear H
        go_upto_region 9 with (first | ((with_reducible refine gate_callee (f := 39) rfl ?_); refine goesL_ (some 84) rfl rfl Try.func39 (by kernel_rfl) rfl #[.int .i64 a0, .int .u64 a2, .int .i64 a1, .int .i64 a4] rfl (by (try simp only [List.map_toArray, List.map_cons, List.map_nil]); first | done | rfl | (simp only [List.length_drop, List.length_take]; rfl)) ?_; (with_reducible refine (bits_Extract.calls kj10 a0 a2 a1 a4 t448 t449 _ A23.out).mono ?_); rintro e w26 ⟨rfl, hb⟩; refine ⟨_, rfl, ?_⟩; have n0_ := Aside0.mk (below_step (by repeat (first | (with_reducible first | exact HB.out | apply below_alloc | apply pw_below_drewN | apply below_drew1) | exact HB.out)) hb); clear HB; have HB := n0_; clear n0_; (try clear hb); (try clear hb2); (try clear hk); (try clear hi)) | ((with_reducible refine gate_callee (f := 40) rfl ?_); refine goesL_ (some 92) rfl rfl Try.func40 (by kernel_rfl) rfl #[.int .i64 a0, .int .u64 a2, .int .i64 a1, .int .i64 a4] rfl (by (try simp only [List.map_toArray, List.map_cons, List.map_nil]); first | done | rfl | (simp only [List.length_drop, List.length_take]; rfl)) ?_; (with_reducible refine (retargetref01_Extract.calls kj10 a0 a2 a1 a4 t450 t451 _ A24.out).mono ?_); rintro e w27 ⟨rfl, hb⟩; refine ⟨_, rfl, ?_⟩; have n0_ := Aside0.mk (below_step (by repeat (first | (with_reducible first | exact HB.out | apply below_alloc | apply pw_below_drewN | apply below_drew1) | exact HB.out)) hb); clear HB; have HB := n0_; clear n0_; (try clear hb); (try clear hb2); (try clear hk); (try clear hi)))
        (try simp only [Act.put, List.setIfInBounds_toArray, List.set_cons_zero, List.set_cons_succ])
        go_cut [102] (fun v102 wc => ∃ (kq : Nat) (x102_24 : Bool), v102 = .bool x102_24 ∧ Aside0 (retargetlaw01_BitsParts.j1 kq a0 a1 a2 a3 a5 x102_24 = some r) ∧ Aside0 (kq ≤ kj10) ∧ Aside0 (Below w.heap.size w wc))
        case first =>
          have H := HC25.out
          clear HC25
          by_cases c28 : t448 = t450
          · rw [if_pos c28] at H
            have c28b0 : (t448 == t450) = true := beq_iff_eq.mpr c28
            have c28b1 : (t448 != t450) = false := bne_eq_false_iff_eq.mpr c28
            clear c28
            (first | rw [c28b0] | (simp only [i64_w, i32_w]; rw [c28b0]) | skip)
            have H' := Aside0.mk H
            clear H
            go_wp2
            go_meet
            case rel => exact ⟨_, ((t449 != t451)), (by first | rfl | (simp; done) | (simp [*]; done)), H', ⟨by have := HJ10.out; first | omega | exact Nat.le_refl _⟩, ⟨by repeat (first | (with_reducible first | exact HB.out | apply below_alloc | apply pw_below_drewN | apply below_drew1) | exact HB.out)⟩⟩
          · rw [if_neg c28] at H
            have c28b0 : (t448 == t450) = false := beq_eq_false_iff_ne.mpr c28
            have c28b1 : (t448 != t450) = true := bne_iff_ne.mpr c28
            (first | rw [c28b0] | (simp only [i64_w, i32_w]; rw [c28b0]) | skip)
            have H' := Aside0.mk H
            clear H
            go_wp2
            go_meet
            case rel => exact ⟨_, (true), (by first | rfl | (simp; done) | (simp [*]; done)), H', ⟨by have := HJ10.out; first | omega | exact Nat.le_refl _⟩, ⟨by repeat (first | (with_reducible first | exact HB.out | apply below_alloc | apply pw_below_drewN | apply below_drew1) | exact HB.out)⟩⟩
        case rest =>
          clear HC25
          try clear c1
          try clear c2
          try clear p2
          try clear c3
          try clear c4
          try clear c5
          try clear c13
          try clear c13b0
          try clear c13b1
          try clear c14
          try clear c14b0
          try clear c14b1
          try clear c15
          try clear c15b0
          try clear c15b1
          try clear c16
          try clear c16b0
          try clear c16b1
          try clear c19
          try clear c19b0
          try clear c19b1
          try clear c19b2
          try clear c22
          try clear c28
          try clear c28b0
          try clear c28b1
          try clear p2
          obtain ⟨kq, x102_24, rfl, HA, HJ24, HB⟩ := hcut
          cases kq with
          | zero => exact absurd HA.out (by simp [retargetlaw01_BitsParts.j1])
          | succ kj24 =>
            have H := HA.out
            clear HA
            simp only [retargetlaw01_BitsParts.j1] at H
            by_cases c29 : x102_24 = true
            · subst c29
              have H1 : (some false) = some r := by rw [if_pos rfl] at H; exact H
              clear H
              have H := H1
              clear H1
              obtain rfl := Option.some.inj H
              go_wp2
              go_ret
              exact ⟨by first | rfl | (simp [errW_none, errW_some] <;> rfl) | (simp [*, errW_none, errW_some] <;> rfl), by repeat (first | (with_reducible first | exact HB.out | apply below_alloc | apply pw_below_drewN | apply below_drew1) | exact HB.out)⟩
            · replace c29 := Bool.eq_false_iff.mpr c29
              subst c29
              have H1 : ((bits_Concat.f kj24 a0 a2 a1 a3).bind fun bt452 => ((retargetref01_Concat.f kj24 a0 a2 a1 a3).bind fun bt454 => (if bt452.1 = bt454.1 then (retargetlaw01_BitsParts.j2 kj24 a0 a1 a2 a5 (bt452.2 != bt454.2)) else (retargetlaw01_BitsParts.j2 kj24 a0 a1 a2 a5 true)))) = some r := by rw [if_neg (show ¬ (false = true) by decide)] at H; exact H
              clear H
              have H := H1
              clear H1
              replace H := Option.bind_eq_some_iff.mp H
              obtain ⟨⟨t452, t453⟩, A300, H⟩ := H
              replace H : ((retargetref01_Concat.f kj24 a0 a2 a1 a3).bind fun bt454 => (if t452 = bt454.1 then (retargetlaw01_BitsParts.j2 kj24 a0 a1 a2 a5 (t453 != bt454.2)) else (retargetlaw01_BitsParts.j2 kj24 a0 a1 a2 a5 true))) = some r := H
              have A30 := Aside0.mk A300
              clear A300
              replace H := Option.bind_eq_some_iff.mp H
              obtain ⟨⟨t454, t455⟩, A310, H⟩ := H
              replace H : (if t452 = t454 then (retargetlaw01_BitsParts.j2 kj24 a0 a1 a2 a5 (t453 != t455)) else (retargetlaw01_BitsParts.j2 kj24 a0 a1 a2 a5 true)) = some r := H
              have A31 := Aside0.mk A310
              clear A310
              have HC32 := Aside0.mk H
              clear H
              go_upto_region 13 with (first | ((with_reducible refine gate_callee (f := 41) rfl ?_); refine goesL_ (some 108) rfl rfl Try.func41 (by kernel_rfl) rfl #[.int .i64 a0, .int .u64 a2, .int .i64 a1, .int .u64 a3] rfl (by (try simp only [List.map_toArray, List.map_cons, List.map_nil]); first | done | rfl | (simp only [List.length_drop, List.length_take]; rfl)) ?_; (with_reducible refine (bits_Concat.calls kj24 a0 a2 a1 a3 t452 t453 _ A30.out).mono ?_); rintro e w' ⟨rfl, ⟨nd, rfl⟩⟩; refine ⟨_, rfl, ?_⟩) | ((with_reducible refine gate_callee (f := 42) rfl ?_); refine goesL_ (some 116) rfl rfl Try.func42 (by kernel_rfl) rfl #[.int .i64 a0, .int .u64 a2, .int .i64 a1, .int .u64 a3] rfl (by (try simp only [List.map_toArray, List.map_cons, List.map_nil]); first | done | rfl | (simp only [List.length_drop, List.length_take]; rfl)) ?_; (with_reducible refine (retargetref01_Concat.calls kj24 a0 a2 a1 a3 t454 t455 _ A31.out).mono ?_); rintro e w33 ⟨rfl, hb⟩; refine ⟨_, rfl, ?_⟩; have n0_ := Aside0.mk (below_step (by repeat (first | (with_reducible first | exact HB.out | apply below_alloc | apply pw_below_drewN | apply below_drew1) | exact HB.out)) hb); clear HB; have HB := n0_; clear n0_; (try clear hb); (try clear hb2); (try clear hk); (try clear hi)))
              (try simp only [Act.put, List.setIfInBounds_toArray, List.set_cons_zero, List.set_cons_succ])
              go_cut [126] (fun v126 wc => ∃ (kq : Nat) (x126_31 : Bool), v126 = .bool x126_31 ∧ Aside0 (retargetlaw01_BitsParts.j2 kq a0 a1 a2 a5 x126_31 = some r) ∧ Aside0 (kq ≤ kj24) ∧ Aside0 (Below w.heap.size w wc))
              case first =>
                have H := HC32.out
                clear HC32
                by_cases c34 : t452 = t454
                · rw [if_pos c34] at H
                  have c34b0 : (t452 == t454) = true := beq_iff_eq.mpr c34
                  have c34b1 : (t452 != t454) = false := bne_eq_false_iff_eq.mpr c34
                  clear c34
                  (first | rw [c34b0] | (simp only [i64_w, i32_w]; rw [c34b0]) | skip)
                  have H' := Aside0.mk H
                  clear H
                  go_wp2
                  go_meet
                  case rel => exact ⟨_, ((t453 != t455)), (by first | rfl | (simp; done) | (simp [*]; done)), H', ⟨by have := HJ10.out; have := HJ24.out; first | omega | exact Nat.le_refl _⟩, ⟨by repeat (first | (with_reducible first | exact HB.out | apply below_alloc | apply pw_below_drewN | apply below_drew1) | exact HB.out)⟩⟩
                · rw [if_neg c34] at H
                  have c34b0 : (t452 == t454) = false := beq_eq_false_iff_ne.mpr c34
                  have c34b1 : (t452 != t454) = true := bne_iff_ne.mpr c34
                  (first | rw [c34b0] | (simp only [i64_w, i32_w]; rw [c34b0]) | skip)
                  have H' := Aside0.mk H
                  clear H
                  go_wp2
                  go_meet
                  case rel => exact ⟨_, (true), (by first | rfl | (simp; done) | (simp [*]; done)), H', ⟨by have := HJ10.out; have := HJ24.out; first | omega | exact Nat.le_refl _⟩, ⟨by repeat (first | (with_reducible first | exact HB.out | apply below_alloc | apply pw_below_drewN | apply below_drew1) | exact HB.out)⟩⟩
              case rest =>
                clear HC32
                try clear c1
                try clear c2
                try clear p2
                try clear c3
                try clear c4
                try clear c5
                try clear c13
                try clear c13b0
                try clear c13b1
                try clear c14
                try clear c14b0
                try clear c14b1
                try clear c15
                try clear c15b0
                try clear c15b1
                try clear c16
                try clear c16b0
                try clear c16b1
                try clear c19
                try clear c19b0
                try clear c19b1
                try clear c19b2
                try clear c22
                try clear c28
                try clear c28b0
                try clear c28b1
                try clear c29
                try clear c31
                try clear c32
                try clear c33
                try clear c34
                try clear c34b0
                try clear c34b1
                try clear p2
                obtain ⟨kq, x126_31, rfl, HA, HJ31, HB⟩ := hcut
                cases kq with
                | zero => exact absurd HA.out (by simp [retargetlaw01_BitsParts.j2])
                | succ kj31 =>
                  have H := HA.out
                  clear HA
                  simp only [retargetlaw01_BitsParts.j2] at H
                  by_cases c35 : x126_31 = true
                  · subst c35
                    have H1 : (some false) = some r := by rw [if_pos rfl] at H; exact H
                    clear H
                    have H := H1
                    clear H1
                    obtain rfl := Option.some.inj H
                    go_wp2
                    go_ret
                    exact ⟨by first | rfl | (simp [errW_none, errW_some] <;> rfl) | (simp [*, errW_none, errW_some] <;> rfl), by repeat (first | (with_reducible first | exact HB.out | apply below_alloc | apply pw_below_drewN | apply below_drew1) | exact HB.out)⟩
                  · replace c35 := Bool.eq_false_iff.mpr c35
                    subst c35
                    have H1 : ((bits_Extend.f kj31 a0 a2 a1 a5).bind fun bt456 => ((retargetref01_Extend.f kj31 a0 a2 a1 a5).bind fun bt458 => (if bt456.1 = bt458.1 then (some (bt456.2 == bt458.2)) else (some false)))) = some r := by rw [if_neg (show ¬ (false = true) by decide)] at H; exact H
                    clear H
                    have H := H1
                    clear H1
                    replace H := Option.bind_eq_some_iff.mp H
                    obtain ⟨⟨t456, t457⟩, A360, H⟩ := H
                    replace H : ((retargetref01_Extend.f kj31 a0 a2 a1 a5).bind fun bt458 => (if t456 = bt458.1 then (some (t457 == bt458.2)) else (some false))) = some r := H
                    have A36 := Aside0.mk A360
                    clear A360
                    replace H := Option.bind_eq_some_iff.mp H
                    obtain ⟨⟨t458, t459⟩, A370, H⟩ := H
                    replace H : (if t456 = t458 then (some (t457 == t459)) else (some false)) = some r := H
                    have A37 := Aside0.mk A370
                    clear A370
                    by_cases c38 : t456 = t458
                    · rw [if_pos c38] at H
                      have c38b0 : (t456 == t458) = true := beq_iff_eq.mpr c38
                      have c38b1 : (t456 != t458) = false := bne_eq_false_iff_eq.mpr c38
                      clear c38
                      obtain rfl := Option.some.inj H
                      go_wp2_with (first | ((with_reducible refine gate_callee (f := 43) rfl ?_); refine goesL_ (some 132) rfl rfl Try.func43 (by kernel_rfl) rfl #[.int .i64 a0, .int .u64 a2, .int .i64 a1, .bool a5] rfl (by (try simp only [List.map_toArray, List.map_cons, List.map_nil]); first | done | rfl | (simp only [List.length_drop, List.length_take]; rfl)) ?_; (with_reducible refine (bits_Extend.calls kj31 a0 a2 a1 a5 t456 t457 _ A36.out).mono ?_); rintro e w39 ⟨rfl, hb⟩; refine ⟨_, rfl, ?_⟩; have n0_ := Aside0.mk (below_step (by repeat (first | (with_reducible first | exact HB.out | apply below_alloc | apply pw_below_drewN | apply below_drew1) | exact HB.out)) hb); clear HB; have HB := n0_; clear n0_; (try clear hb); (try clear hb2); (try clear hk); (try clear hi)) | ((with_reducible refine gate_callee (f := 44) rfl ?_); refine goesL_ (some 140) rfl rfl Try.func44 (by kernel_rfl) rfl #[.int .i64 a0, .int .u64 a2, .int .i64 a1, .bool a5] rfl (by (try simp only [List.map_toArray, List.map_cons, List.map_nil]); first | done | rfl | (simp only [List.length_drop, List.length_take]; rfl)) ?_; (with_reducible refine (retargetref01_Extend.calls kj31 a0 a2 a1 a5 t458 t459 _ A37.out).mono ?_); rintro e w40 ⟨rfl, hb⟩; refine ⟨_, rfl, ?_⟩; have n0_ := Aside0.mk (below_step (by repeat (first | (with_reducible first | exact HB.out | apply below_alloc | apply pw_below_drewN | apply below_drew1) | exact HB.out)) hb); clear HB; have HB := n0_; clear n0_; (try clear hb); (try clear hb2); (try clear hk); (try clear hi)))
                      go_ret
                      exact ⟨by first | rfl | (simp [errW_none, errW_some] <;> rfl) | (simp [*, errW_none, errW_some] <;> rfl), by repeat (first | (with_reducible first | exact HB.out | apply below_alloc | apply pw_below_drewN | apply below_drew1) | exact HB.out)⟩
                    · rw [if_neg c38] at H
                      have c38b0 : (t456 == t458) = false := beq_eq_false_iff_ne.mpr c38
                      have c38b1 : (t456 != t458) = true := bne_iff_ne.mpr c38
                      obtain rfl := Option.some.inj H
                      go_wp2_with (first | ((with_reducible refine gate_callee (f := 43) rfl ?_); refine goesL_ (some 132) rfl rfl Try.func43 (by kernel_rfl) rfl #[.int .i64 a0, .int .u64 a2, .int .i64 a1, .bool a5] rfl (by (try simp only [List.map_toArray, List.map_cons, List.map_nil]); first | done | rfl | (simp only [List.length_drop, List.length_take]; rfl)) ?_; (with_reducible refine (bits_Extend.calls kj31 a0 a2 a1 a5 t456 t457 _ A36.out).mono ?_); rintro e w41 ⟨rfl, hb⟩; refine ⟨_, rfl, ?_⟩; have n0_ := Aside0.mk (below_step (by repeat (first | (with_reducible first | exact HB.out | apply below_alloc | apply pw_below_drewN | apply below_drew1) | exact HB.out)) hb); clear HB; have HB := n0_; clear n0_; (try clear hb); (try clear hb2); (try clear hk); (try clear hi)) | ((with_reducible refine gate_callee (f := 44) rfl ?_); refine goesL_ (some 140) rfl rfl Try.func44 (by kernel_rfl) rfl #[.int .i64 a0, .int .u64 a2, .int .i64 a1, .bool a5] rfl (by (try simp only [List.map_toArray, List.map_cons, List.map_nil]); first | done | rfl | (simp only [List.length_drop, List.length_take]; rfl)) ?_; (with_reducible refine (retargetref01_Extend.calls kj31 a0 a2 a1 a5 t458 t459 _ A37.out).mono ?_); rintro e w42 ⟨rfl, hb⟩; refine ⟨_, rfl, ?_⟩; have n0_ := Aside0.mk (below_step (by repeat (first | (with_reducible first | exact HB.out | apply below_alloc | apply pw_below_drewN | apply below_drew1) | exact HB.out)) hb); clear HB; have HB := n0_; clear n0_; (try clear hb); (try clear hb2); (try clear hk); (try clear hi)))
                      go_ret
                      exact ⟨by first | rfl | (simp [errW_none, errW_some] <;> rfl) | (simp [*, errW_none, errW_some] <;> rfl), by repeat (first | (with_reducible first | exact HB.out | apply below_alloc | apply pw_below_drewN | apply below_drew1) | exact HB.out)⟩

/-- THE ONE PURE STATEMENT of retargetlaw01_BitsParts: yours. -/
def retargetlaw01_BitsParts.Pure : Prop := ∀ (a0 : Int) (a1 : Int) (a2 : Int) (a3 : Int) (a4 : Int) (a5 : Bool), (Lit.int .i64 a0).wf = true → (Lit.int .i64 a1).wf = true → (Lit.int .u64 a2).wf = true → (Lit.int .u64 a3).wf = true → (Lit.int .i64 a4).wf = true → ∃ k, retargetlaw01_BitsParts.f k a0 a1 a2 a3 a4 a5 = some true
theorem retargetlaw01_BitsParts.walk (P : retargetlaw01_BitsParts.Pure) (a0 : Int) (a1 : Int) (a2 : Int) (a3 : Int) (a4 : Int) (a5 : Bool) (w : World) (w0 : (Lit.int .i64 a0).wf = true) (w1 : (Lit.int .i64 a1).wf = true) (w2 : (Lit.int .u64 a2).wf = true) (w3 : (Lit.int .u64 a3).wf = true) (w4 : (Lit.int .i64 a4).wf = true) :
    Calls Try.prog 5 #[.int .i64 a0, .int .i64 a1, .int .u64 a2, .int .u64 a3, .int .i64 a4, .bool a5] w fun e w' => e = .returned (.bool true) ∧ Below w.heap.size w w' := by
  obtain ⟨k, h⟩ := P a0 a1 a2 a3 a4 a5 w0 w1 w2 w3 w4
  refine (retargetlaw01_BitsParts.calls k a0 a1 a2 a3 a4 a5 true w h).mono ?_
  rintro e w' ⟨rfl, hd⟩
  exact ⟨rfl, hd⟩

end Go.Proofs.Ytbckdelbkcfjkaa.Bi
