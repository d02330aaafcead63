-- Written by a program of this session (mkfam.py) out of what the kit's print.py says over the translation. Lean checks it.
import Derived.Test.YtbckdelbkcfjkaaBix0
import Derived.Test.YtbckdelbkcfjkaaBiG2
import Derived.Test.YtbckdelbkcfjkaaBiG5
import Derived.Test.YtbckdelbkcfjkaaBiFretargetref01divide
import Derived.Test.YtbckdelbkcfjkaaBiFretargetref01mul
namespace Go.Proofs.Ytbckdelbkcfjkaa.Bi
open Go.RowKit Go.Proofs.YtbckdelbkcfjkaaW.PrintWords Go.Proofs.YtbckdelbkcfjkaaW.PrintLast Go.Proofs.YtbckdelbkcfjkaaW.PrintMore
attribute [local go_sem] max2_int min2_int max_two min_two max_three min_three max_four min_four   -- for this text's walks alone
set_option linter.unusedVariables false
set_option linter.unusedSimpArgs false
/-! ### retargetref01_Binary: function 48 -/
mutual
def retargetref01_Binary.j0 : Nat → Int → Int → Int → Int → Bool → Option (Int × Int)
 | 0, _, _, _, _, _ => none
 | k + 1, x0, x1, x2, x3, x25 => if x25 = true then (some (0, 2)) else ((retargetref01_Ok.f k x1 x2).bind fun t211 => (if t211 = true then ((retargetref01_Ok.f k x1 x3).bind fun t212 => (retargetref01_Binary.j1 k x0 x1 x2 x3 (!t212))) else (retargetref01_Binary.j1 k x0 x1 x2 x3 true)))
def retargetref01_Binary.j1 : Nat → Int → Int → Int → Int → Bool → Option (Int × Int)
 | 0, _, _, _, _, _ => none
 | k + 1, x0, x1, x2, x3, x35 => if x35 = true then (some (0, 8)) else ((retargetref01_Bits.f k x1 x2).bind fun t213 => ((retargetref01_Bits.f k x1 x3).bind fun t216 => (if 0 ≤ (wrap64 (x1 - 1)) then (if (wrap64 (x1 - 1)) < (t213.length : Int) then (if x0 = 5 then ((retargetref01_add.f k t213 t216 0).bind fun t220 => ((retargetref01_Number.f k t220).bind fun t223 => (some (t223, 0)))) else (if x0 = 6 then ((retargetref01_not.f k t216).bind fun t224 => ((retargetref01_add.f k t213 t224 1).bind fun t227 => ((retargetref01_Number.f k t227).bind fun t230 => (some (t230, 0))))) else (if x0 = 7 then ((retargetref01_mul.f k t213 t216).bind fun t231 => ((retargetref01_Number.f k t231).bind fun t234 => (some (t234, 0)))) else (if x0 = 8 then (retargetref01_Binary.j2 k x0 x1 x2 x3 t213 t216 (rd t213 (wrap64 (x1 - 1))) ([] : List Int) x0 (x0 == 8)) else (if x0 = 9 then (retargetref01_Binary.j2 k x0 x1 x2 x3 t213 t216 (rd t213 (wrap64 (x1 - 1))) ([] : List Int) x0 (x0 == 9)) else (retargetref01_Binary.j2 k x0 x1 x2 x3 t213 t216 (rd t213 (wrap64 (x1 - 1))) ([] : List Int) x0 (x0 == 10))))))) else (none)) else (none))))
def retargetref01_Binary.j2 : Nat → Int → Int → Int → Int → List Int → List Int → Int → List Int → Int → Bool → Option (Int × Int)
 | 0, _, _, _, _, _, _, _, _, _, _ => none
 | k + 1, x0, x1, x2, x3, x10, x11, x12, x13, x47, x64 => if x64 = true then (retargetref01_Binary.l0 k x0 x1 x10 x11 x13 0) else (if x47 = 11 then ((retargetref01_places.f k x3).bind fun t283 => ((retargetref01_shift.f k x10 (wrap64 (-t283)) 0).bind fun t284 => ((retargetref01_Number.f k t284).bind fun t287 => (some (t287, 0))))) else (if x47 = 12 then ((retargetref01_places.f k x3).bind fun t288 => ((retargetref01_shift.f k x10 t288 0).bind fun t289 => ((retargetref01_Number.f k t289).bind fun t292 => (some (t292, 0))))) else (if x47 = 13 then ((retargetref01_places.f k x3).bind fun t293 => ((retargetref01_shift.f k x10 t293 x12).bind fun t294 => ((retargetref01_Number.f k t294).bind fun t297 => (some (t297, 0))))) else (if x47 = 14 then ((retargetref01_divide.f k x10 x11).bind fun bt298 => ((retargetref01_Number.f k bt298.1).bind fun t304 => (some (t304, 0)))) else (if x47 = 15 then ((retargetref01_divide.f k x10 x11).bind fun bt305 => ((retargetref01_Number.f k bt305.2).bind fun t311 => (some (t311, 0)))) else (if x47 = 16 then ((retargetref01_truth.f (x2 == x3)).bind fun t312 => (some (t312, 0))) else (if x47 = 17 then ((retargetref01_less.f k x10 x11).bind fun t313 => ((retargetref01_truth.f t313).bind fun t314 => (some (t314, 0)))) else (if x47 = 18 then (if 0 ≤ (wrap64 (x1 - 1)) then (if (wrap64 (x1 - 1)) < (x11.length : Int) then (if x12 = (rd x11 (wrap64 (x1 - 1))) then ((retargetref01_less.f k x10 x11).bind fun t316 => ((retargetref01_truth.f t316).bind fun t317 => (some (t317, 0)))) else ((retargetref01_truth.f (x12 == 1)).bind fun t318 => (some (t318, 0)))) else (none)) else (none)) else ((retargetref01_Number.f k x13).bind fun t319 => (some (t319, 0)))))))))))
def retargetref01_Binary.l0 : Nat → Int → Int → List Int → List Int → List Int → Int → Option (Int × Int)
 | 0, _, _, _, _, _, _ => none
 | k + 1, x0, x1, x10, x11, x13, x14 => if x14 < x1 then (if 0 ≤ x14 then (if x14 < (x10.length : Int) then (if x14 < (x11.length : Int) then (if x0 = 8 then (if (wrap64 ((rd x10 x14) + (rd x11 x14))) = 2 then (if x13.length < 17592186044416 then (retargetref01_Binary.l0 k x0 x1 x10 x11 (x13 ++ [1]) (wrap64 (x14 + 1))) else (none)) else (if x0 = 9 then (if (wrap64 ((rd x10 x14) + (rd x11 x14))) > 0 then (if x13.length < 17592186044416 then (retargetref01_Binary.l0 k x0 x1 x10 x11 (x13 ++ [1]) (wrap64 (x14 + 1))) else (none)) else (if x0 = 10 then (if (wrap64 ((rd x10 x14) + (rd x11 x14))) = 1 then (if x13.length < 17592186044416 then (retargetref01_Binary.l0 k x0 x1 x10 x11 (x13 ++ [1]) (wrap64 (x14 + 1))) else (none)) else (if x13.length < 17592186044416 then (retargetref01_Binary.l0 k x0 x1 x10 x11 (x13 ++ [0]) (wrap64 (x14 + 1))) else (none))) else (if x13.length < 17592186044416 then (retargetref01_Binary.l0 k x0 x1 x10 x11 (x13 ++ [0]) (wrap64 (x14 + 1))) else (none)))) else (if x0 = 10 then (if (wrap64 ((rd x10 x14) + (rd x11 x14))) = 1 then (if x13.length < 17592186044416 then (retargetref01_Binary.l0 k x0 x1 x10 x11 (x13 ++ [1]) (wrap64 (x14 + 1))) else (none)) else (if x13.length < 17592186044416 then (retargetref01_Binary.l0 k x0 x1 x10 x11 (x13 ++ [0]) (wrap64 (x14 + 1))) else (none))) else (if x13.length < 17592186044416 then (retargetref01_Binary.l0 k x0 x1 x10 x11 (x13 ++ [0]) (wrap64 (x14 + 1))) else (none))))) else (if x0 = 9 then (if (wrap64 ((rd x10 x14) + (rd x11 x14))) > 0 then (if x13.length < 17592186044416 then (retargetref01_Binary.l0 k x0 x1 x10 x11 (x13 ++ [1]) (wrap64 (x14 + 1))) else (none)) else (if x0 = 10 then (if (wrap64 ((rd x10 x14) + (rd x11 x14))) = 1 then (if x13.length < 17592186044416 then (retargetref01_Binary.l0 k x0 x1 x10 x11 (x13 ++ [1]) (wrap64 (x14 + 1))) else (none)) else (if x13.length < 17592186044416 then (retargetref01_Binary.l0 k x0 x1 x10 x11 (x13 ++ [0]) (wrap64 (x14 + 1))) else (none))) else (if x13.length < 17592186044416 then (retargetref01_Binary.l0 k x0 x1 x10 x11 (x13 ++ [0]) (wrap64 (x14 + 1))) else (none)))) else (if x0 = 10 then (if (wrap64 ((rd x10 x14) + (rd x11 x14))) = 1 then (if x13.length < 17592186044416 then (retargetref01_Binary.l0 k x0 x1 x10 x11 (x13 ++ [1]) (wrap64 (x14 + 1))) else (none)) else (if x13.length < 17592186044416 then (retargetref01_Binary.l0 k x0 x1 x10 x11 (x13 ++ [0]) (wrap64 (x14 + 1))) else (none))) else (if x13.length < 17592186044416 then (retargetref01_Binary.l0 k x0 x1 x10 x11 (x13 ++ [0]) (wrap64 (x14 + 1))) else (none))))) else (none)) else (none)) else (none)) else ((retargetref01_Number.f k x13).bind fun t282 => (some (t282, 0)))
end
def retargetref01_Binary.f (k : Nat) (a0 : Int) (a1 : Int) (a2 : Int) (a3 : Int) : Option (Int × Int) := (retargetref01_Wide.f a1).bind fun t210 => (if t210 = true then (if a0 < 5 then (retargetref01_Binary.j0 k a0 a1 a2 a3 true) else (retargetref01_Binary.j0 k a0 a1 a2 a3 (decide (a0 > 18)))) else (some (0, 14)))
theorem retargetref01_Binary.mono_l : ∀ k, (∀ y0 y1 y2 y3 y4, LeO (retargetref01_Binary.j0 k y0 y1 y2 y3 y4) (retargetref01_Binary.j0 (k + 1) y0 y1 y2 y3 y4)) ∧ (∀ y0 y1 y2 y3 y4, LeO (retargetref01_Binary.j1 k y0 y1 y2 y3 y4) (retargetref01_Binary.j1 (k + 1) y0 y1 y2 y3 y4)) ∧ (∀ y0 y1 y2 y3 y4 y5 y6 y7 y8 y9, LeO (retargetref01_Binary.j2 k y0 y1 y2 y3 y4 y5 y6 y7 y8 y9) (retargetref01_Binary.j2 (k + 1) y0 y1 y2 y3 y4 y5 y6 y7 y8 y9)) ∧ (∀ y0 y1 y2 y3 y4 y5, LeO (retargetref01_Binary.l0 k y0 y1 y2 y3 y4 y5) (retargetref01_Binary.l0 (k + 1) y0 y1 y2 y3 y4 y5))
 | 0 => ⟨fun _ _ _ _ _ r h => by simp [retargetref01_Binary.j0] at h, fun _ _ _ _ _ r h => by simp [retargetref01_Binary.j1] at h, fun _ _ _ _ _ _ _ _ _ _ r h => by simp [retargetref01_Binary.j2] at h, fun _ _ _ _ _ _ r h => by simp [retargetref01_Binary.l0] at h⟩
 | k + 1 => by
  obtain ⟨ih0, ih1, ih2, ih3⟩ := retargetref01_Binary.mono_l k
  refine ⟨?_, ?_, ?_, ?_⟩
  ·intro y0 y1 y2 y3 y4
   unfold retargetref01_Binary.j0
   repeat' first
   | (with_reducible exact ih0 _ _ _ _ _)
   | (with_reducible exact ih1 _ _ _ _ _)
   | (with_reducible exact ih2 _ _ _ _ _ _ _ _ _ _)
   | (with_reducible exact ih3 _ _ _ _ _ _)
   | (with_reducible exact retargetref01_Bits.mono _ _ _)
   | (with_reducible exact retargetref01_Number.mono _ _)
   | (with_reducible exact retargetref01_Ok.mono _ _ _)
   | (with_reducible exact retargetref01_add.mono _ _ _ _)
   | (with_reducible exact retargetref01_divide.mono _ _ _)
   | (with_reducible exact retargetref01_less.mono _ _ _)
   | (with_reducible exact retargetref01_mul.mono _ _ _)
   | (with_reducible exact retargetref01_not.mono _ _)
   | (with_reducible exact retargetref01_places.mono _ _)
   | (with_reducible exact retargetref01_shift.mono _ _ _ _)
   | (with_reducible exact LeO.refl _)
   | (with_reducible exact LeO.none _)
   | (with_reducible refine LeO.ite ?_ ?_)
   | (with_reducible refine LeO.bind ?_ (fun _ => ?_))
   | exact ih0 _ _ _ _ _
   | exact ih1 _ _ _ _ _
   | exact ih2 _ _ _ _ _ _ _ _ _ _
   | exact ih3 _ _ _ _ _ _
   | exact retargetref01_Bits.mono _ _ _
   | exact retargetref01_Number.mono _ _
   | exact retargetref01_Ok.mono _ _ _
   | exact retargetref01_add.mono _ _ _ _
   | exact retargetref01_divide.mono _ _ _
   | exact retargetref01_less.mono _ _ _
   | exact retargetref01_mul.mono _ _ _
   | exact retargetref01_not.mono _ _
   | exact retargetref01_places.mono _ _
   | exact retargetref01_shift.mono _ _ _ _
   | exact LeO.none _
   | refine LeO.ite ?_ ?_
   | refine LeO.bind ?_ (fun _ => ?_)
  ·intro y0 y1 y2 y3 y4
   unfold retargetref01_Binary.j1
   repeat' first
   | (with_reducible exact ih0 _ _ _ _ _)
   | (with_reducible exact ih1 _ _ _ _ _)
   | (with_reducible exact ih2 _ _ _ _ _ _ _ _ _ _)
   | (with_reducible exact ih3 _ _ _ _ _ _)
   | (with_reducible exact retargetref01_Bits.mono _ _ _)
   | (with_reducible exact retargetref01_Number.mono _ _)
   | (with_reducible exact retargetref01_Ok.mono _ _ _)
   | (with_reducible exact retargetref01_add.mono _ _ _ _)
   | (with_reducible exact retargetref01_divide.mono _ _ _)
   | (with_reducible exact retargetref01_less.mono _ _ _)
   | (with_reducible exact retargetref01_mul.mono _ _ _)
   | (with_reducible exact retargetref01_not.mono _ _)
   | (with_reducible exact retargetref01_places.mono _ _)
   | (with_reducible exact retargetref01_shift.mono _ _ _ _)
   | (with_reducible exact LeO.refl _)
   | (with_reducible exact LeO.none _)
   | (with_reducible refine LeO.ite ?_ ?_)
   | (with_reducible refine LeO.bind ?_ (fun _ => ?_))
   | exact ih0 _ _ _ _ _
   | exact ih1 _ _ _ _ _
   | exact ih2 _ _ _ _ _ _ _ _ _ _
   | exact ih3 _ _ _ _ _ _
   | exact retargetref01_Bits.mono _ _ _
   | exact retargetref01_Number.mono _ _
   | exact retargetref01_Ok.mono _ _ _
   | exact retargetref01_add.mono _ _ _ _
   | exact retargetref01_divide.mono _ _ _
   | exact retargetref01_less.mono _ _ _
   | exact retargetref01_mul.mono _ _ _
   | exact retargetref01_not.mono _ _
   | exact retargetref01_places.mono _ _
   | exact retargetref01_shift.mono _ _ _ _
   | exact LeO.none _
   | refine LeO.ite ?_ ?_
   | refine LeO.bind ?_ (fun _ => ?_)
  ·intro y0 y1 y2 y3 y4 y5 y6 y7 y8 y9
   unfold retargetref01_Binary.j2
   repeat' first
   | (with_reducible exact ih0 _ _ _ _ _)
   | (with_reducible exact ih1 _ _ _ _ _)
   | (with_reducible exact ih2 _ _ _ _ _ _ _ _ _ _)
   | (with_reducible exact ih3 _ _ _ _ _ _)
   | (with_reducible exact retargetref01_Bits.mono _ _ _)
   | (with_reducible exact retargetref01_Number.mono _ _)
   | (with_reducible exact retargetref01_Ok.mono _ _ _)
   | (with_reducible exact retargetref01_add.mono _ _ _ _)
   | (with_reducible exact retargetref01_divide.mono _ _ _)
   | (with_reducible exact retargetref01_less.mono _ _ _)
   | (with_reducible exact retargetref01_mul.mono _ _ _)
   | (with_reducible exact retargetref01_not.mono _ _)
   | (with_reducible exact retargetref01_places.mono _ _)
   | (with_reducible exact retargetref01_shift.mono _ _ _ _)
   | (with_reducible exact LeO.refl _)
   | (with_reducible exact LeO.none _)
   | (with_reducible refine LeO.ite ?_ ?_)
   | (with_reducible refine LeO.bind ?_ (fun _ => ?_))
   | exact ih0 _ _ _ _ _
   | exact ih1 _ _ _ _ _
   | exact ih2 _ _ _ _ _ _ _ _ _ _
   | exact ih3 _ _ _ _ _ _
   | exact retargetref01_Bits.mono _ _ _
   | exact retargetref01_Number.mono _ _
   | exact retargetref01_Ok.mono _ _ _
   | exact retargetref01_add.mono _ _ _ _
   | exact retargetref01_divide.mono _ _ _
   | exact retargetref01_less.mono _ _ _
   | exact retargetref01_mul.mono _ _ _
   | exact retargetref01_not.mono _ _
   | exact retargetref01_places.mono _ _
   | exact retargetref01_shift.mono _ _ _ _
   | exact LeO.none _
   | refine LeO.ite ?_ ?_
   | refine LeO.bind ?_ (fun _ => ?_)
  ·intro y0 y1 y2 y3 y4 y5
   unfold retargetref01_Binary.l0
   repeat' first
   | (with_reducible exact ih0 _ _ _ _ _)
   | (with_reducible exact ih1 _ _ _ _ _)
   | (with_reducible exact ih2 _ _ _ _ _ _ _ _ _ _)
   | (with_reducible exact ih3 _ _ _ _ _ _)
   | (with_reducible exact retargetref01_Bits.mono _ _ _)
   | (with_reducible exact retargetref01_Number.mono _ _)
   | (with_reducible exact retargetref01_Ok.mono _ _ _)
   | (with_reducible exact retargetref01_add.mono _ _ _ _)
   | (with_reducible exact retargetref01_divide.mono _ _ _)
   | (with_reducible exact retargetref01_less.mono _ _ _)
   | (with_reducible exact retargetref01_mul.mono _ _ _)
   | (with_reducible exact retargetref01_not.mono _ _)
   | (with_reducible exact retargetref01_places.mono _ _)
   | (with_reducible exact retargetref01_shift.mono _ _ _ _)
   | (with_reducible exact LeO.refl _)
   | (with_reducible exact LeO.none _)
   | (with_reducible refine LeO.ite ?_ ?_)
   | (with_reducible refine LeO.bind ?_ (fun _ => ?_))
   | exact ih0 _ _ _ _ _
   | exact ih1 _ _ _ _ _
   | exact ih2 _ _ _ _ _ _ _ _ _ _
   | exact ih3 _ _ _ _ _ _
   | exact retargetref01_Bits.mono _ _ _
   | exact retargetref01_Number.mono _ _
   | exact retargetref01_Ok.mono _ _ _
   | exact retargetref01_add.mono _ _ _ _
   | exact retargetref01_divide.mono _ _ _
   | exact retargetref01_less.mono _ _ _
   | exact retargetref01_mul.mono _ _ _
   | exact retargetref01_not.mono _ _
   | exact retargetref01_places.mono _ _
   | exact retargetref01_shift.mono _ _ _ _
   | exact LeO.none _
   | refine LeO.ite ?_ ?_
   | refine LeO.bind ?_ (fun _ => ?_)
theorem retargetref01_Binary.mono : ∀ a0 a1 a2 a3 k, LeO (retargetref01_Binary.f k a0 a1 a2 a3) (retargetref01_Binary.f (k + 1) a0 a1 a2 a3) := by
 intro a0 a1 a2 a3 k
 obtain ⟨ih0, ih1, ih2, ih3⟩ := retargetref01_Binary.mono_l k
 unfold retargetref01_Binary.f
 repeat' first
   | (with_reducible exact ih0 _ _ _ _ _)
   | (with_reducible exact ih1 _ _ _ _ _)
   | (with_reducible exact ih2 _ _ _ _ _ _ _ _ _ _)
   | (with_reducible exact ih3 _ _ _ _ _ _)
   | (with_reducible exact retargetref01_Bits.mono _ _ _)
   | (with_reducible exact retargetref01_Number.mono _ _)
   | (with_reducible exact retargetref01_Ok.mono _ _ _)
   | (with_reducible exact retargetref01_add.mono _ _ _ _)
   | (with_reducible exact retargetref01_divide.mono _ _ _)
   | (with_reducible exact retargetref01_less.mono _ _ _)
   | (with_reducible exact retargetref01_mul.mono _ _ _)
   | (with_reducible exact retargetref01_not.mono _ _)
   | (with_reducible exact retargetref01_places.mono _ _)
   | (with_reducible exact retargetref01_shift.mono _ _ _ _)
   | (with_reducible exact LeO.refl _)
   | (with_reducible exact LeO.none _)
   | (with_reducible refine LeO.ite ?_ ?_)
   | (with_reducible refine LeO.bind ?_ (fun _ => ?_))
   | exact ih0 _ _ _ _ _
   | exact ih1 _ _ _ _ _
   | exact ih2 _ _ _ _ _ _ _ _ _ _
   | exact ih3 _ _ _ _ _ _
   | exact retargetref01_Bits.mono _ _ _
   | exact retargetref01_Number.mono _ _
   | exact retargetref01_Ok.mono _ _ _
   | exact retargetref01_add.mono _ _ _ _
   | exact retargetref01_divide.mono _ _ _
   | exact retargetref01_less.mono _ _ _
   | exact retargetref01_mul.mono _ _ _
   | exact retargetref01_not.mono _ _
   | exact retargetref01_places.mono _ _
   | exact retargetref01_shift.mono _ _ _ _
   | exact LeO.none _
   | refine LeO.ite ?_ ?_
   | refine LeO.bind ?_ (fun _ => ?_)
set_option maxHeartbeats 8000000 in
set_option maxRecDepth 100000 in
theorem retargetref01_Binary.calls (k : Nat) (a0 : Int) (a1 : Int) (a2 : Int) (a3 : Int) (r1 : Int) (r2 : Int) (w : World) (h : retargetref01_Binary.f k a0 a1 a2 a3 = some (r1, r2)) :
  Calls Try.prog 48 #[.int .u8 a0, .int .i64 a1, .int .u64 a2, .int .u64 a3] w fun e w' => e = .returned (.tuple #[.int .u64 r1, .int .i64 r2]) ∧ Below w.heap.size w w' := by
 have HB := Aside0.mk (Below.refl w.heap.size w)
 have H : ((retargetref01_Wide.f a1).bind fun t210 => (if t210 = true then (if a0 < 5 then (retargetref01_Binary.j0 k a0 a1 a2 a3 true) else (retargetref01_Binary.j0 k a0 a1 a2 a3 (decide (a0 > 18)))) else (some (0, 14)))) = some (r1, r2) := h
 clear h
 replace H := Option.bind_eq_some_iff.mp H
 obtain ⟨t210, A50, H⟩ := H
 replace H : (if t210 = true then (if a0 < 5 then (retargetref01_Binary.j0 k a0 a1 a2 a3 true) else (retargetref01_Binary.j0 k a0 a1 a2 a3 (decide (a0 > 18)))) else (some (0, 14))) = some (r1, r2) := H
 have A5 := Aside0.mk A50
 clear A50
 by_cases c6 : t210 = true
 ·subst c6
  have H1 : (if a0 < 5 then (retargetref01_Binary.j0 k a0 a1 a2 a3 true) else (retargetref01_Binary.j0 k a0 a1 a2 a3 (decide (a0 > 18)))) = some (r1, r2) := by rw [if_pos rfl] at H; exact H
  clear H
  have H := H1
  clear H1
  have HC7 := Aside0.mk H
  clear H
  go_enter Try.func48, Try.ntmps48
  go_upto_region 3 with (first | (go_at_call 78; (with_reducible refine (retargetref01_Wide.calls a1 true _ A5.out).mono ?_); rintro e w' ⟨rfl, ⟨nd, rfl⟩⟩; (try first | exact ⟨rfl, _, World.drewN_drewN _ _ _⟩ | exact ⟨rfl, _, Eq.trans (World.drewN_drewN _ _ _) (congrArg (World.drewN _) (Nat.add_assoc _ _ _))⟩)))
  (try simp only [Act.put, List.setIfInBounds_toArray, List.set_cons_zero, List.set_cons_succ])
  go_cut [25] (fun v25 wc => ∃ (kq : Nat) (x25_6 : Bool), v25 = .bool x25_6 ∧ Aside0 (retargetref01_Binary.j0 kq a0 a1 a2 a3 x25_6 = some (r1, r2)) ∧ Aside0 (kq ≤ k) ∧ Aside0 (Below w.heap.size w wc))
  case first =>
   have H := HC7.out
   clear HC7
   by_cases c8 : a0 < 5
   ·rw [if_pos c8] at H
    have c8b0 : decide (a0 < 5) = true := decide_eq_true c8
    clear c8
    (first | rw [c8b0] | (simp only [i64_w, i32_w]; rw [c8b0]) | skip)
    have H' := Aside0.mk H
    clear H
    go_wp2
    repeat (go_quiet (fail); try go_wp2)
    go_meet
    case rel => exact ⟨_, (true), (by first | rfl | (simp; done) | (simp [*]; done)), H', ⟨by first | omega | exact Nat.le_refl _⟩, ⟨by repeat (first | (with_reducible first | exact HB.out | apply below_alloc | apply pw_below_drewN | apply below_drew1) | exact HB.out)⟩⟩
   ·rw [if_neg c8] at H
    have c8b0 : decide (a0 < 5) = false := decide_eq_false c8
    clear c8
    (first | rw [c8b0] | (simp only [i64_w, i32_w]; rw [c8b0]) | skip)
    have H' := Aside0.mk H
    clear H
    go_wp2
    repeat (go_quiet (fail); try go_wp2)
    go_meet
    case rel => exact ⟨_, (decide (a0 > 18)), (by first | rfl | (simp; done) | (simp [*]; done)), H', ⟨by first | omega | exact Nat.le_refl _⟩, ⟨by repeat (first | (with_reducible first | exact HB.out | apply below_alloc | apply pw_below_drewN | apply below_drew1) | exact HB.out)⟩⟩
  case rest =>
   clear HC7
   try clear p2
   try clear c4
   try clear c6
   try clear c8
   try clear c8b0
   obtain ⟨kq, x25_6, rfl, HA, HJ6, HB⟩ := hcut
   cases kq with
   | zero => exact absurd HA.out (by simp [retargetref01_Binary.j0])
   | succ kj6 =>
    have H := HA.out
    clear HA
    simp only [retargetref01_Binary.j0] at H
    by_cases c9 : x25_6 = true
    ·subst c9
     have H1 : (some (0, 2)) = some (r1, r2) := by rw [if_pos rfl] at H; exact H
     clear H
     have H := H1
     clear H1
     simp only [Option.some.injEq, Prod.mk.injEq] at H
     obtain ⟨rfl, rfl⟩ := H
     go_wp2
     repeat (go_quiet (fail); try go_wp2)
     go_ret2
     exact ⟨by first | rfl | (simp [errW_none, errW_some] <;> rfl) | (simp [*, errW_none, errW_some] <;> rfl), by repeat (first | (with_reducible first | exact HB.out | apply below_alloc | apply pw_below_drewN | apply below_drew1) | exact HB.out)⟩
    ·replace c9 := Bool.eq_false_iff.mpr c9
     subst c9
     have H1 : ((retargetref01_Ok.f kj6 a1 a2).bind fun t211 => (if t211 = true then ((retargetref01_Ok.f kj6 a1 a3).bind fun t212 => (retargetref01_Binary.j1 kj6 a0 a1 a2 a3 (!t212))) else (retargetref01_Binary.j1 kj6 a0 a1 a2 a3 true))) = some (r1, r2) := by rw [if_neg (show ¬ (false = true) by decide)] at H; exact H
     clear H
     have H := H1
     clear H1
     have HC10 := Aside0.mk H
     clear H
     go_upto_region 5 with (fail)
     repeat (go_quiet (fail); go_upto_region 5 with (fail))
     go_cut [35] (fun v35 wc => ∃ (kq : Nat) (x35_9 : Bool), v35 = .bool x35_9 ∧ Aside0 (retargetref01_Binary.j1 kq a0 a1 a2 a3 x35_9 = some (r1, r2)) ∧ Aside0 (kq ≤ kj6) ∧ Aside0 (Below w.heap.size w wc))
     case first =>
      have H := HC10.out
      clear HC10
      replace H := Option.bind_eq_some_iff.mp H
      obtain ⟨t211, A110, H⟩ := H
      replace H : (if t211 = true then ((retargetref01_Ok.f kj6 a1 a3).bind fun t212 => (retargetref01_Binary.j1 kj6 a0 a1 a2 a3 (!t212))) else (retargetref01_Binary.j1 kj6 a0 a1 a2 a3 true)) = some (r1, r2) := H
      have A11 := Aside0.mk A110
      clear A110
      by_cases c12 : t211 = true
      ·subst c12
       have H1 : ((retargetref01_Ok.f kj6 a1 a3).bind fun t212 => (retargetref01_Binary.j1 kj6 a0 a1 a2 a3 (!t212))) = some (r1, r2) := by rw [if_pos rfl] at H; exact H
       clear H
       have H := H1
       clear H1
       replace H := Option.bind_eq_some_iff.mp H
       obtain ⟨t212, A130, H⟩ := H
       replace H : (retargetref01_Binary.j1 kj6 a0 a1 a2 a3 (!t212)) = some (r1, r2) := H
       have A13 := Aside0.mk A130
       clear A130
       have H' := Aside0.mk H
       clear H
       go_wp2_with (first | (go_at_call 36; (with_reducible refine (retargetref01_Ok.calls kj6 a1 a2 true _ A11.out).mono ?_); rintro e w' ⟨rfl, ⟨nd, rfl⟩⟩; (try first | exact ⟨rfl, _, World.drewN_drewN _ _ _⟩ | exact ⟨rfl, _, Eq.trans (World.drewN_drewN _ _ _) (congrArg (World.drewN _) (Nat.add_assoc _ _ _))⟩)) | (go_at_call 36; (with_reducible refine (retargetref01_Ok.calls kj6 a1 a3 t212 _ A13.out).mono ?_); rintro e w' ⟨rfl, ⟨nd, rfl⟩⟩; (try first | exact ⟨rfl, _, World.drewN_drewN _ _ _⟩ | exact ⟨rfl, _, Eq.trans (World.drewN_drewN _ _ _) (congrArg (World.drewN _) (Nat.add_assoc _ _ _))⟩)))
       go_meet
       case rel => exact ⟨_, (!t212), (by first | rfl | (simp; done) | (simp [*]; done)), H', ⟨by have := HJ6.out; first | omega | exact Nat.le_refl _⟩, ⟨by repeat (first | (with_reducible first | exact HB.out | apply below_alloc | apply pw_below_drewN | apply below_drew1) | exact HB.out)⟩⟩
      ·replace c12 := Bool.eq_false_iff.mpr c12
       subst c12
       have H1 : (retargetref01_Binary.j1 kj6 a0 a1 a2 a3 true) = some (r1, r2) := by rw [if_neg (show ¬ (false = true) by decide)] at H; exact H
       clear H
       have H := H1
       clear H1
       have H' := Aside0.mk H
       clear H
       go_wp2_with (first | (go_at_call 36; (with_reducible refine (retargetref01_Ok.calls kj6 a1 a2 false _ A11.out).mono ?_); rintro e w' ⟨rfl, ⟨nd, rfl⟩⟩; (try first | exact ⟨rfl, _, World.drewN_drewN _ _ _⟩ | exact ⟨rfl, _, Eq.trans (World.drewN_drewN _ _ _) (congrArg (World.drewN _) (Nat.add_assoc _ _ _))⟩)))
       go_meet
       case rel => exact ⟨_, (true), (by first | rfl | (simp; done) | (simp [*]; done)), H', ⟨by have := HJ6.out; first | omega | exact Nat.le_refl _⟩, ⟨by repeat (first | (with_reducible first | exact HB.out | apply below_alloc | apply pw_below_drewN | apply below_drew1) | exact HB.out)⟩⟩
     case rest =>
      clear HC10
      try clear c1
      try clear p2
      try clear c4
      try clear c6
      try clear c8
      try clear c8b0
      try clear c9
      try clear c12
      try clear p2
      obtain ⟨kq, x35_9, rfl, HA, HJ9, HB⟩ := hcut
      cases kq with
      | zero => exact absurd HA.out (by simp [retargetref01_Binary.j1])
      | succ kj9 =>
       have H := HA.out
       clear HA
       simp only [retargetref01_Binary.j1] at H
       by_cases c14 : x35_9 = true
       ·subst c14
        have H1 : (some (0, 8)) = some (r1, r2) := by rw [if_pos rfl] at H; exact H
        clear H
        have H := H1
        clear H1
        simp only [Option.some.injEq, Prod.mk.injEq] at H
        obtain ⟨rfl, rfl⟩ := H
        go_wp2
        repeat (go_quiet (fail); try go_wp2)
        go_ret2
        exact ⟨by first | rfl | (simp [errW_none, errW_some] <;> rfl) | (simp [*, errW_none, errW_some] <;> rfl), by repeat (first | (with_reducible first | exact HB.out | apply below_alloc | apply pw_below_drewN | apply below_drew1) | exact HB.out)⟩
       ·replace c14 := Bool.eq_false_iff.mpr c14
        subst c14
        have H1 : ((retargetref01_Bits.f kj9 a1 a2).bind fun t213 => ((retargetref01_Bits.f kj9 a1 a3).bind fun t216 => (if 0 ≤ (wrap64 (a1 - 1)) then (if (wrap64 (a1 - 1)) < (t213.length : Int) then (if a0 = 5 then ((retargetref01_add.f kj9 t213 t216 0).bind fun t220 => ((retargetref01_Number.f kj9 t220).bind fun t223 => (some (t223, 0)))) else (if a0 = 6 then ((retargetref01_not.f kj9 t216).bind fun t224 => ((retargetref01_add.f kj9 t213 t224 1).bind fun t227 => ((retargetref01_Number.f kj9 t227).bind fun t230 => (some (t230, 0))))) else (if a0 = 7 then ((retargetref01_mul.f kj9 t213 t216).bind fun t231 => ((retargetref01_Number.f kj9 t231).bind fun t234 => (some (t234, 0)))) else (if a0 = 8 then (retargetref01_Binary.j2 kj9 a0 a1 a2 a3 t213 t216 (rd t213 (wrap64 (a1 - 1))) ([] : List Int) a0 (a0 == 8)) else (if a0 = 9 then (retargetref01_Binary.j2 kj9 a0 a1 a2 a3 t213 t216 (rd t213 (wrap64 (a1 - 1))) ([] : List Int) a0 (a0 == 9)) else (retargetref01_Binary.j2 kj9 a0 a1 a2 a3 t213 t216 (rd t213 (wrap64 (a1 - 1))) ([] : List Int) a0 (a0 == 10))))))) else (none)) else (none)))) = some (r1, r2) := by rw [if_neg (show ¬ (false = true) by decide)] at H; exact H
        clear H
        have H := H1
        clear H1
        replace H := Option.bind_eq_some_iff.mp H
        obtain ⟨t213, A150, H⟩ := H
        replace H : ((retargetref01_Bits.f kj9 a1 a3).bind fun t216 => (if 0 ≤ (wrap64 (a1 - 1)) then (if (wrap64 (a1 - 1)) < (t213.length : Int) then (if a0 = 5 then ((retargetref01_add.f kj9 t213 t216 0).bind fun t220 => ((retargetref01_Number.f kj9 t220).bind fun t223 => (some (t223, 0)))) else (if a0 = 6 then ((retargetref01_not.f kj9 t216).bind fun t224 => ((retargetref01_add.f kj9 t213 t224 1).bind fun t227 => ((retargetref01_Number.f kj9 t227).bind fun t230 => (some (t230, 0))))) else (if a0 = 7 then ((retargetref01_mul.f kj9 t213 t216).bind fun t231 => ((retargetref01_Number.f kj9 t231).bind fun t234 => (some (t234, 0)))) else (if a0 = 8 then (retargetref01_Binary.j2 kj9 a0 a1 a2 a3 t213 t216 (rd t213 (wrap64 (a1 - 1))) ([] : List Int) a0 (a0 == 8)) else (if a0 = 9 then (retargetref01_Binary.j2 kj9 a0 a1 a2 a3 t213 t216 (rd t213 (wrap64 (a1 - 1))) ([] : List Int) a0 (a0 == 9)) else (retargetref01_Binary.j2 kj9 a0 a1 a2 a3 t213 t216 (rd t213 (wrap64 (a1 - 1))) ([] : List Int) a0 (a0 == 10))))))) else (none)) else (none))) = some (r1, r2) := H
        have A15 := Aside0.mk A150
        clear A150
        replace H := Option.bind_eq_some_iff.mp H
        obtain ⟨t216, A160, H⟩ := H
        replace H : (if 0 ≤ (wrap64 (a1 - 1)) then (if (wrap64 (a1 - 1)) < (t213.length : Int) then (if a0 = 5 then ((retargetref01_add.f kj9 t213 t216 0).bind fun t220 => ((retargetref01_Number.f kj9 t220).bind fun t223 => (some (t223, 0)))) else (if a0 = 6 then ((retargetref01_not.f kj9 t216).bind fun t224 => ((retargetref01_add.f kj9 t213 t224 1).bind fun t227 => ((retargetref01_Number.f kj9 t227).bind fun t230 => (some (t230, 0))))) else (if a0 = 7 then ((retargetref01_mul.f kj9 t213 t216).bind fun t231 => ((retargetref01_Number.f kj9 t231).bind fun t234 => (some (t234, 0)))) else (if a0 = 8 then (retargetref01_Binary.j2 kj9 a0 a1 a2 a3 t213 t216 (rd t213 (wrap64 (a1 - 1))) ([] : List Int) a0 (a0 == 8)) else (if a0 = 9 then (retargetref01_Binary.j2 kj9 a0 a1 a2 a3 t213 t216 (rd t213 (wrap64 (a1 - 1))) ([] : List Int) a0 (a0 == 9)) else (retargetref01_Binary.j2 kj9 a0 a1 a2 a3 t213 t216 (rd t213 (wrap64 (a1 - 1))) ([] : List Int) a0 (a0 == 10))))))) else (none)) else (none)) = some (r1, r2) := H
        have A16 := Aside0.mk A160
        clear A160
        obtain ⟨ji17, hji17⟩ : ∃ j_ : Int, (wrap64 (a1 - 1)) = j_ := ⟨_, rfl⟩
        replace H : (if 0 ≤ (ji17) then (if (ji17) < (t213.length : Int) then (if a0 = 5 then ((retargetref01_add.f kj9 t213 t216 0).bind fun t220 => ((retargetref01_Number.f kj9 t220).bind fun t223 => (some (t223, 0)))) else (if a0 = 6 then ((retargetref01_not.f kj9 t216).bind fun t224 => ((retargetref01_add.f kj9 t213 t224 1).bind fun t227 => ((retargetref01_Number.f kj9 t227).bind fun t230 => (some (t230, 0))))) else (if a0 = 7 then ((retargetref01_mul.f kj9 t213 t216).bind fun t231 => ((retargetref01_Number.f kj9 t231).bind fun t234 => (some (t234, 0)))) else (if a0 = 8 then (retargetref01_Binary.j2 kj9 a0 a1 a2 a3 t213 t216 (rd t213 (ji17)) ([] : List Int) a0 (a0 == 8)) else (if a0 = 9 then (retargetref01_Binary.j2 kj9 a0 a1 a2 a3 t213 t216 (rd t213 (ji17)) ([] : List Int) a0 (a0 == 9)) else (retargetref01_Binary.j2 kj9 a0 a1 a2 a3 t213 t216 (rd t213 (ji17)) ([] : List Int) a0 (a0 == 10))))))) else (none)) else (none)) = some (r1, r2) := by first | (rw [hji17] at H; exact H) | (simp only [hji17] at H ⊢; exact H)
        (try rw [hji17] at A15)
        (try rw [hji17] at A16)
        have hji17w : (IntKind.i64.wrap (a1 - 1)) = ji17 := (i64_w _).trans hji17
        by_cases c18 : 0 ≤ (ji17)
        ·rw [if_pos c18] at H
         have c18b0 : decide (0 ≤ (ji17)) = true := decide_eq_true c18
         clear c18
         by_cases c19 : (ji17) < (t213.length : Int)
         ·rw [if_pos c19] at H
          have c19b0 : decide ((ji17) < (t213.length : Int)) = true := decide_eq_true c19
          clear c19
          by_cases c20 : a0 = 5
          ·rw [if_pos c20] at H
           have c20b0 : (a0 == 5) = true := beq_iff_eq.mpr c20
           have c20b1 : (a0 != 5) = false := bne_eq_false_iff_eq.mpr c20
           clear c20
           replace H := Option.bind_eq_some_iff.mp H
           obtain ⟨t220, A210, H⟩ := H
           replace H : ((retargetref01_Number.f kj9 t220).bind fun t223 => (some (t223, 0))) = some (r1, r2) := H
           have A21 := Aside0.mk A210
           clear A210
           replace H := Option.bind_eq_some_iff.mp H
           obtain ⟨t223, A220, H⟩ := H
           replace H : (some (t223, 0)) = some (r1, r2) := H
           have A22 := Aside0.mk A220
           clear A220
           simp only [Option.some.injEq, Prod.mk.injEq] at H
           obtain ⟨rfl, rfl⟩ := H
           go_wp2_with (first | (go_at_call 84; (with_reducible refine (retargetref01_Bits.calls kj9 a1 a2 t213 _ A15.out).mono ?_); rintro e w23 ⟨v214, rfl, ho0, hb⟩; have n0_ := Aside0.mk (Kd.R_lower ho0 (below_size (by repeat (first | (with_reducible first | exact HB.out | apply below_alloc | apply pw_below_drewN | apply below_drew1) | exact HB.out)))); have n1_ := Aside0.mk (below_step (by repeat (first | (with_reducible first | exact HB.out | apply below_alloc | apply pw_below_drewN | apply below_drew1) | exact HB.out)) hb); clear HB; have HO215 := n0_; have HB := n1_; clear n0_ n1_; (try clear hb); (try clear hb2); (try clear hk); (try clear hi); (try clear ho0)) | (go_at_call 84; (with_reducible refine (retargetref01_Bits.calls kj9 a1 a3 t216 _ A16.out).mono ?_); rintro e w24 ⟨v217, rfl, ho0, hb⟩; have n0_ := Aside0.mk (Kd.R_elder' (by (with_reducible repeat (first | apply Kd.R_alloc | apply Kd.R_drewN | apply Kd.R_drew)); exact HO215.out) (Kd.R_base ho0) hb); have n1_ := Aside0.mk (Kd.R_lower (Kd.R_new' ho0 (Kd.R_lt (by (with_reducible repeat (first | apply Kd.R_alloc | apply Kd.R_drewN | apply Kd.R_drew)); exact HO215.out))) (below_size (by repeat (first | (with_reducible first | exact HB.out | apply below_alloc | apply pw_below_drewN | apply below_drew1) | exact HB.out)))); have n2_ := Aside0.mk (below_step (by repeat (first | (with_reducible first | exact HB.out | apply below_alloc | apply pw_below_drewN | apply below_drew1) | exact HB.out)) hb); clear HO215; clear HB; have HO215 := n0_; have HO218 := n1_; have HB := n2_; clear n0_ n1_ n2_; (try clear hb); (try clear hb2); (try clear hk); (try clear hi); (try clear ho0); obtain ⟨Ao25, co25, eo25⟩ := Kd.R_slice HO215.out; subst eo25; have p219 : 0 ≤ ((ji17) : Int) := of_decide_eq_true (by first | (with_reducible assumption) | assumption); have q219 : (ji17) < (t213.length : Int) := of_decide_eq_true (by first | (with_reducible assumption) | assumption); obtain ⟨ad219, e219, hx219_0⟩ := Kd.at_int (Kd.R_reads' HO215.out).2.2 (ji17) p219 q219; cases e219; replace p219 := eq_true p219; replace q219 := eq_true q219; obtain ⟨Ao26, co26, eo26⟩ := Kd.R_slice HO218.out; subst eo26) | (go_at_call 86; (with_reducible refine (retargetref01_add.calls kj9 _ _ t213 _ _ t216 0 t220 _ ?side1 ?side2 ?side3 ?side4 A21.out).mono ?_); (case side1 => repeat (first | exact (Kd.R_reads' HO215.out).2.2 | (with_reducible refine Kd.C_alloc ?_ _) | (with_reducible refine Kd.C_drewN ?_ _) | (with_reducible refine Kd.C_drew ?_))); (case side2 => exact (Kd.R_reads' HO215.out).2.1); (case side3 => repeat (first | exact (Kd.R_reads' HO218.out).2.2 | (with_reducible refine Kd.C_alloc ?_ _) | (with_reducible refine Kd.C_drewN ?_ _) | (with_reducible refine Kd.C_drew ?_))); (case side4 => exact (Kd.R_reads' HO218.out).2.1); rintro e w27 ⟨v221, rfl, ho0, hb⟩; have n0_ := Aside0.mk (Kd.R_elder' (by (with_reducible repeat (first | apply Kd.R_alloc | apply Kd.R_drewN | apply Kd.R_drew)); exact HO215.out) (Kd.R_base ho0) hb); have n1_ := Aside0.mk (Kd.R_elder' (by (with_reducible repeat (first | apply Kd.R_alloc | apply Kd.R_drewN | apply Kd.R_drew)); exact HO218.out) (Kd.R_base ho0) hb); have n2_ := Aside0.mk (Kd.R_lower (Kd.R_new' (Kd.R_new' ho0 (Kd.R_lt (by (with_reducible repeat (first | apply Kd.R_alloc | apply Kd.R_drewN | apply Kd.R_drew)); exact HO215.out))) (Kd.R_lt (by (with_reducible repeat (first | apply Kd.R_alloc | apply Kd.R_drewN | apply Kd.R_drew)); exact HO218.out))) (below_size (by repeat (first | (with_reducible first | exact HB.out | apply below_alloc | apply pw_below_drewN | apply below_drew1) | exact HB.out)))); have n3_ := Aside0.mk (below_step (by repeat (first | (with_reducible first | exact HB.out | apply below_alloc | apply pw_below_drewN | apply below_drew1) | exact HB.out)) hb); clear HO215; clear HO218; clear HB; have HO215 := n0_; have HO218 := n1_; have HO222 := n2_; have HB := n3_; clear n0_ n1_ n2_ n3_; (try clear hb); (try clear hb2); (try clear hk); (try clear hi); (try clear ho0); obtain ⟨Ao28, co28, eo28⟩ := Kd.R_slice HO222.out; subst eo28) | (go_at_call 83; (with_reducible refine (retargetref01_Number.calls kj9 _ _ t220 t223 _ ?side1 ?side2 A22.out).mono ?_); (case side1 => repeat (first | exact (Kd.R_reads' HO222.out).2.2 | (with_reducible refine Kd.C_alloc ?_ _) | (with_reducible refine Kd.C_drewN ?_ _) | (with_reducible refine Kd.C_drew ?_))); (case side2 => exact (Kd.R_reads' HO222.out).2.1); rintro e w' ⟨rfl, ⟨nd, rfl⟩⟩; (try first | exact ⟨rfl, _, World.drewN_drewN _ _ _⟩ | exact ⟨rfl, _, Eq.trans (World.drewN_drewN _ _ _) (congrArg (World.drewN _) (Nat.add_assoc _ _ _))⟩)))
           go_ret2
           exact ⟨by first | rfl | (simp [errW_none, errW_some] <;> rfl) | (simp only [← hji17]; first | rfl | (simp [errW_none, errW_some] <;> rfl)) | (simp [*, errW_none, errW_some] <;> rfl), by repeat (first | (with_reducible first | exact HB.out | apply below_alloc | apply pw_below_drewN | apply below_drew1) | exact HB.out)⟩
          ·rw [if_neg c20] at H
           have c20b0 : (a0 == 5) = false := beq_eq_false_iff_ne.mpr c20
           have c20b1 : (a0 != 5) = true := bne_iff_ne.mpr c20
           by_cases c29 : a0 = 6
           ·rw [if_pos c29] at H
            have c29b0 : (a0 == 6) = true := beq_iff_eq.mpr c29
            have c29b1 : (a0 != 6) = false := bne_eq_false_iff_eq.mpr c29
            clear c29
            replace H := Option.bind_eq_some_iff.mp H
            obtain ⟨t224, A300, H⟩ := H
            replace H : ((retargetref01_add.f kj9 t213 t224 1).bind fun t227 => ((retargetref01_Number.f kj9 t227).bind fun t230 => (some (t230, 0)))) = some (r1, r2) := H
            have A30 := Aside0.mk A300
            clear A300
            replace H := Option.bind_eq_some_iff.mp H
            obtain ⟨t227, A310, H⟩ := H
            replace H : ((retargetref01_Number.f kj9 t227).bind fun t230 => (some (t230, 0))) = some (r1, r2) := H
            have A31 := Aside0.mk A310
            clear A310
            replace H := Option.bind_eq_some_iff.mp H
            obtain ⟨t230, A320, H⟩ := H
            replace H : (some (t230, 0)) = some (r1, r2) := H
            have A32 := Aside0.mk A320
            clear A320
            simp only [Option.some.injEq, Prod.mk.injEq] at H
            obtain ⟨rfl, rfl⟩ := H
            go_wp2_with (first | (go_at_call 84; (with_reducible refine (retargetref01_Bits.calls kj9 a1 a2 t213 _ A15.out).mono ?_); rintro e w33 ⟨v214, rfl, ho0, hb⟩; have n0_ := Aside0.mk (Kd.R_lower ho0 (below_size (by repeat (first | (with_reducible first | exact HB.out | apply below_alloc | apply pw_below_drewN | apply below_drew1) | exact HB.out)))); have n1_ := Aside0.mk (below_step (by repeat (first | (with_reducible first | exact HB.out | apply below_alloc | apply pw_below_drewN | apply below_drew1) | exact HB.out)) hb); clear HB; have HO215 := n0_; have HB := n1_; clear n0_ n1_; (try clear hb); (try clear hb2); (try clear hk); (try clear hi); (try clear ho0)) | (go_at_call 84; (with_reducible refine (retargetref01_Bits.calls kj9 a1 a3 t216 _ A16.out).mono ?_); rintro e w34 ⟨v217, rfl, ho0, hb⟩; have n0_ := Aside0.mk (Kd.R_elder' (by (with_reducible repeat (first | apply Kd.R_alloc | apply Kd.R_drewN | apply Kd.R_drew)); exact HO215.out) (Kd.R_base ho0) hb); have n1_ := Aside0.mk (Kd.R_lower (Kd.R_new' ho0 (Kd.R_lt (by (with_reducible repeat (first | apply Kd.R_alloc | apply Kd.R_drewN | apply Kd.R_drew)); exact HO215.out))) (below_size (by repeat (first | (with_reducible first | exact HB.out | apply below_alloc | apply pw_below_drewN | apply below_drew1) | exact HB.out)))); have n2_ := Aside0.mk (below_step (by repeat (first | (with_reducible first | exact HB.out | apply below_alloc | apply pw_below_drewN | apply below_drew1) | exact HB.out)) hb); clear HO215; clear HB; have HO215 := n0_; have HO218 := n1_; have HB := n2_; clear n0_ n1_ n2_; (try clear hb); (try clear hb2); (try clear hk); (try clear hi); (try clear ho0); obtain ⟨Ao35, co35, eo35⟩ := Kd.R_slice HO215.out; subst eo35; have p219 : 0 ≤ ((ji17) : Int) := of_decide_eq_true (by first | (with_reducible assumption) | assumption); have q219 : (ji17) < (t213.length : Int) := of_decide_eq_true (by first | (with_reducible assumption) | assumption); obtain ⟨ad219, e219, hx219_0⟩ := Kd.at_int (Kd.R_reads' HO215.out).2.2 (ji17) p219 q219; cases e219; replace p219 := eq_true p219; replace q219 := eq_true q219; obtain ⟨Ao36, co36, eo36⟩ := Kd.R_slice HO218.out; subst eo36) | (go_at_call 85; (with_reducible refine (retargetref01_not.calls kj9 _ _ t216 t224 _ ?side1 ?side2 A30.out).mono ?_); (case side1 => repeat (first | exact (Kd.R_reads' HO218.out).2.2 | (with_reducible refine Kd.C_alloc ?_ _) | (with_reducible refine Kd.C_drewN ?_ _) | (with_reducible refine Kd.C_drew ?_))); (case side2 => exact (Kd.R_reads' HO218.out).2.1); rintro e w37 ⟨v225, rfl, ho0, hb⟩; have n0_ := Aside0.mk (Kd.R_elder' (by (with_reducible repeat (first | apply Kd.R_alloc | apply Kd.R_drewN | apply Kd.R_drew)); exact HO215.out) (Kd.R_base ho0) hb); have n1_ := Aside0.mk (Kd.R_elder' (by (with_reducible repeat (first | apply Kd.R_alloc | apply Kd.R_drewN | apply Kd.R_drew)); exact HO218.out) (Kd.R_base ho0) hb); have n2_ := Aside0.mk (Kd.R_lower (Kd.R_new' (Kd.R_new' ho0 (Kd.R_lt (by (with_reducible repeat (first | apply Kd.R_alloc | apply Kd.R_drewN | apply Kd.R_drew)); exact HO215.out))) (Kd.R_lt (by (with_reducible repeat (first | apply Kd.R_alloc | apply Kd.R_drewN | apply Kd.R_drew)); exact HO218.out))) (below_size (by repeat (first | (with_reducible first | exact HB.out | apply below_alloc | apply pw_below_drewN | apply below_drew1) | exact HB.out)))); have n3_ := Aside0.mk (below_step (by repeat (first | (with_reducible first | exact HB.out | apply below_alloc | apply pw_below_drewN | apply below_drew1) | exact HB.out)) hb); clear HO215; clear HO218; clear HB; have HO215 := n0_; have HO218 := n1_; have HO226 := n2_; have HB := n3_; clear n0_ n1_ n2_ n3_; (try clear hb); (try clear hb2); (try clear hk); (try clear hi); (try clear ho0); obtain ⟨Ao38, co38, eo38⟩ := Kd.R_slice HO226.out; subst eo38) | (go_at_call 86; (with_reducible refine (retargetref01_add.calls kj9 _ _ t213 _ _ t224 1 t227 _ ?side1 ?side2 ?side3 ?side4 A31.out).mono ?_); (case side1 => repeat (first | exact (Kd.R_reads' HO215.out).2.2 | (with_reducible refine Kd.C_alloc ?_ _) | (with_reducible refine Kd.C_drewN ?_ _) | (with_reducible refine Kd.C_drew ?_))); (case side2 => exact (Kd.R_reads' HO215.out).2.1); (case side3 => repeat (first | exact (Kd.R_reads' HO226.out).2.2 | (with_reducible refine Kd.C_alloc ?_ _) | (with_reducible refine Kd.C_drewN ?_ _) | (with_reducible refine Kd.C_drew ?_))); (case side4 => exact (Kd.R_reads' HO226.out).2.1); rintro e w39 ⟨v228, rfl, ho0, hb⟩; have n0_ := Aside0.mk (Kd.R_elder' (by (with_reducible repeat (first | apply Kd.R_alloc | apply Kd.R_drewN | apply Kd.R_drew)); exact HO215.out) (Kd.R_base ho0) hb); have n1_ := Aside0.mk (Kd.R_elder' (by (with_reducible repeat (first | apply Kd.R_alloc | apply Kd.R_drewN | apply Kd.R_drew)); exact HO218.out) (Kd.R_base ho0) hb); have n2_ := Aside0.mk (Kd.R_elder' (by (with_reducible repeat (first | apply Kd.R_alloc | apply Kd.R_drewN | apply Kd.R_drew)); exact HO226.out) (Kd.R_base ho0) hb); have n3_ := Aside0.mk (Kd.R_lower (Kd.R_new' (Kd.R_new' (Kd.R_new' ho0 (Kd.R_lt (by (with_reducible repeat (first | apply Kd.R_alloc | apply Kd.R_drewN | apply Kd.R_drew)); exact HO215.out))) (Kd.R_lt (by (with_reducible repeat (first | apply Kd.R_alloc | apply Kd.R_drewN | apply Kd.R_drew)); exact HO218.out))) (Kd.R_lt (by (with_reducible repeat (first | apply Kd.R_alloc | apply Kd.R_drewN | apply Kd.R_drew)); exact HO226.out))) (below_size (by repeat (first | (with_reducible first | exact HB.out | apply below_alloc | apply pw_below_drewN | apply below_drew1) | exact HB.out)))); have n4_ := Aside0.mk (below_step (by repeat (first | (with_reducible first | exact HB.out | apply below_alloc | apply pw_below_drewN | apply below_drew1) | exact HB.out)) hb); clear HO215; clear HO218; clear HO226; clear HB; have HO215 := n0_; have HO218 := n1_; have HO226 := n2_; have HO229 := n3_; have HB := n4_; clear n0_ n1_ n2_ n3_ n4_; (try clear hb); (try clear hb2); (try clear hk); (try clear hi); (try clear ho0); obtain ⟨Ao40, co40, eo40⟩ := Kd.R_slice HO229.out; subst eo40) | (go_at_call 83; (with_reducible refine (retargetref01_Number.calls kj9 _ _ t227 t230 _ ?side1 ?side2 A32.out).mono ?_); (case side1 => repeat (first | exact (Kd.R_reads' HO229.out).2.2 | (with_reducible refine Kd.C_alloc ?_ _) | (with_reducible refine Kd.C_drewN ?_ _) | (with_reducible refine Kd.C_drew ?_))); (case side2 => exact (Kd.R_reads' HO229.out).2.1); rintro e w' ⟨rfl, ⟨nd, rfl⟩⟩; (try first | exact ⟨rfl, _, World.drewN_drewN _ _ _⟩ | exact ⟨rfl, _, Eq.trans (World.drewN_drewN _ _ _) (congrArg (World.drewN _) (Nat.add_assoc _ _ _))⟩)))
            go_ret2
            exact ⟨by first | rfl | (simp [errW_none, errW_some] <;> rfl) | (simp only [← hji17]; first | rfl | (simp [errW_none, errW_some] <;> rfl)) | (simp [*, errW_none, errW_some] <;> rfl), by repeat (first | (with_reducible first | exact HB.out | apply below_alloc | apply pw_below_drewN | apply below_drew1) | exact HB.out)⟩
           ·rw [if_neg c29] at H
            have c29b0 : (a0 == 6) = false := beq_eq_false_iff_ne.mpr c29
            have c29b1 : (a0 != 6) = true := bne_iff_ne.mpr c29
            by_cases c41 : a0 = 7
            ·rw [if_pos c41] at H
             have c41b0 : (a0 == 7) = true := beq_iff_eq.mpr c41
             have c41b1 : (a0 != 7) = false := bne_eq_false_iff_eq.mpr c41
             clear c41
             replace H := Option.bind_eq_some_iff.mp H
             obtain ⟨t231, A420, H⟩ := H
             replace H : ((retargetref01_Number.f kj9 t231).bind fun t234 => (some (t234, 0))) = some (r1, r2) := H
             have A42 := Aside0.mk A420
             clear A420
             replace H := Option.bind_eq_some_iff.mp H
             obtain ⟨t234, A430, H⟩ := H
             replace H : (some (t234, 0)) = some (r1, r2) := H
             have A43 := Aside0.mk A430
             clear A430
             simp only [Option.some.injEq, Prod.mk.injEq] at H
             obtain ⟨rfl, rfl⟩ := H
             go_wp2_with (first | (go_at_call 84; (with_reducible refine (retargetref01_Bits.calls kj9 a1 a2 t213 _ A15.out).mono ?_); rintro e w44 ⟨v214, rfl, ho0, hb⟩; have n0_ := Aside0.mk (Kd.R_lower ho0 (below_size (by repeat (first | (with_reducible first | exact HB.out | apply below_alloc | apply pw_below_drewN | apply below_drew1) | exact HB.out)))); have n1_ := Aside0.mk (below_step (by repeat (first | (with_reducible first | exact HB.out | apply below_alloc | apply pw_below_drewN | apply below_drew1) | exact HB.out)) hb); clear HB; have HO215 := n0_; have HB := n1_; clear n0_ n1_; (try clear hb); (try clear hb2); (try clear hk); (try clear hi); (try clear ho0)) | (go_at_call 84; (with_reducible refine (retargetref01_Bits.calls kj9 a1 a3 t216 _ A16.out).mono ?_); rintro e w45 ⟨v217, rfl, ho0, hb⟩; have n0_ := Aside0.mk (Kd.R_elder' (by (with_reducible repeat (first | apply Kd.R_alloc | apply Kd.R_drewN | apply Kd.R_drew)); exact HO215.out) (Kd.R_base ho0) hb); have n1_ := Aside0.mk (Kd.R_lower (Kd.R_new' ho0 (Kd.R_lt (by (with_reducible repeat (first | apply Kd.R_alloc | apply Kd.R_drewN | apply Kd.R_drew)); exact HO215.out))) (below_size (by repeat (first | (with_reducible first | exact HB.out | apply below_alloc | apply pw_below_drewN | apply below_drew1) | exact HB.out)))); have n2_ := Aside0.mk (below_step (by repeat (first | (with_reducible first | exact HB.out | apply below_alloc | apply pw_below_drewN | apply below_drew1) | exact HB.out)) hb); clear HO215; clear HB; have HO215 := n0_; have HO218 := n1_; have HB := n2_; clear n0_ n1_ n2_; (try clear hb); (try clear hb2); (try clear hk); (try clear hi); (try clear ho0); obtain ⟨Ao46, co46, eo46⟩ := Kd.R_slice HO215.out; subst eo46; have p219 : 0 ≤ ((ji17) : Int) := of_decide_eq_true (by first | (with_reducible assumption) | assumption); have q219 : (ji17) < (t213.length : Int) := of_decide_eq_true (by first | (with_reducible assumption) | assumption); obtain ⟨ad219, e219, hx219_0⟩ := Kd.at_int (Kd.R_reads' HO215.out).2.2 (ji17) p219 q219; cases e219; replace p219 := eq_true p219; replace q219 := eq_true q219; obtain ⟨Ao47, co47, eo47⟩ := Kd.R_slice HO218.out; subst eo47) | (go_at_call 89; (with_reducible refine (retargetref01_mul.calls kj9 (fun k_ => some k_ = (.slice (some ad219) t213.length co46 : Value).ownBlock) _ _ t213 _ _ t216 t231 _ ?side1 ?side2 ?side3 A42.out).mono ?_); (case side1 => exact Kd.R_V (Kd.R_tight rfl (HO215.out))); (case side2 => repeat (first | exact (Kd.R_reads' HO218.out).2.2 | (with_reducible refine Kd.C_alloc ?_ _) | (with_reducible refine Kd.C_drewN ?_ _) | (with_reducible refine Kd.C_drew ?_))); (case side3 => exact (Kd.R_reads' HO218.out).2.1); rintro e w48 ⟨v232, rfl, ho0, hb⟩; have n0_ := Aside0.mk (Kd.R_elder' (by (with_reducible repeat (first | apply Kd.R_alloc | apply Kd.R_drewN | apply Kd.R_drew)); exact HO215.out) (Kd.R_base ho0) hb); have n1_ := Aside0.mk (Kd.R_elder' (by (with_reducible repeat (first | apply Kd.R_alloc | apply Kd.R_drewN | apply Kd.R_drew)); exact HO218.out) (Kd.R_base ho0) hb); have n2_ := Aside0.mk (Kd.R_lower (Kd.R_new' (Kd.R_new' (Kd.R_mono (ok' := fun k_ => True) ho0 (fun _ hk_ => trivial)) (Kd.R_lt (by (with_reducible repeat (first | apply Kd.R_alloc | apply Kd.R_drewN | apply Kd.R_drew)); exact HO215.out))) (Kd.R_lt (by (with_reducible repeat (first | apply Kd.R_alloc | apply Kd.R_drewN | apply Kd.R_drew)); exact HO218.out))) (below_size (by repeat (first | (with_reducible first | exact HB.out | apply below_alloc | apply pw_below_drewN | apply below_drew1) | exact HB.out)))); have n3_ := Aside0.mk (below_step (by repeat (first | (with_reducible first | exact HB.out | apply below_alloc | apply pw_below_drewN | apply below_drew1) | exact HB.out)) hb); clear HO215; clear HO218; clear HB; have HO215 := n0_; have HO218 := n1_; have HO233 := n2_; have HB := n3_; clear n0_ n1_ n2_ n3_; (try clear hb); (try clear hb2); (try clear hk); (try clear hi); (try clear ho0); obtain ⟨Ao49, co49, eo49⟩ := Kd.R_slice HO233.out; subst eo49) | (go_at_call 83; (with_reducible refine (retargetref01_Number.calls kj9 _ _ t231 t234 _ ?side1 ?side2 A43.out).mono ?_); (case side1 => repeat (first | exact (Kd.R_reads' HO233.out).2.2 | (with_reducible refine Kd.C_alloc ?_ _) | (with_reducible refine Kd.C_drewN ?_ _) | (with_reducible refine Kd.C_drew ?_))); (case side2 => exact (Kd.R_reads' HO233.out).2.1); rintro e w' ⟨rfl, ⟨nd, rfl⟩⟩; (try first | exact ⟨rfl, _, World.drewN_drewN _ _ _⟩ | exact ⟨rfl, _, Eq.trans (World.drewN_drewN _ _ _) (congrArg (World.drewN _) (Nat.add_assoc _ _ _))⟩)))
             go_ret2
             exact ⟨by first | rfl | (simp [errW_none, errW_some] <;> rfl) | (simp only [← hji17]; first | rfl | (simp [errW_none, errW_some] <;> rfl)) | (simp [*, errW_none, errW_some] <;> rfl), by repeat (first | (with_reducible first | exact HB.out | apply below_alloc | apply pw_below_drewN | apply below_drew1) | exact HB.out)⟩
            ·rw [if_neg c41] at H
             have c41b0 : (a0 == 7) = false := beq_eq_false_iff_ne.mpr c41
             have c41b1 : (a0 != 7) = true := bne_iff_ne.mpr c41
             have HC50 := Aside0.mk H
             clear H
             go_upto_if 64 with (first | (go_at_call 84; (with_reducible refine (retargetref01_Bits.calls kj9 a1 a2 t213 _ A15.out).mono ?_); rintro e w51 ⟨v214, rfl, ho0, hb⟩; have n0_ := Aside0.mk (Kd.R_lower ho0 (below_size (by repeat (first | (with_reducible first | exact HB.out | apply below_alloc | apply pw_below_drewN | apply below_drew1) | exact HB.out)))); have n1_ := Aside0.mk (below_step (by repeat (first | (with_reducible first | exact HB.out | apply below_alloc | apply pw_below_drewN | apply below_drew1) | exact HB.out)) hb); clear HB; have HO215 := n0_; have HB := n1_; clear n0_ n1_; (try clear hb); (try clear hb2); (try clear hk); (try clear hi); (try clear ho0)) | (go_at_call 84; (with_reducible refine (retargetref01_Bits.calls kj9 a1 a3 t216 _ A16.out).mono ?_); rintro e w52 ⟨v217, rfl, ho0, hb⟩; have n0_ := Aside0.mk (Kd.R_elder' (by (with_reducible repeat (first | apply Kd.R_alloc | apply Kd.R_drewN | apply Kd.R_drew)); exact HO215.out) (Kd.R_base ho0) hb); have n1_ := Aside0.mk (Kd.R_lower (Kd.R_new' ho0 (Kd.R_lt (by (with_reducible repeat (first | apply Kd.R_alloc | apply Kd.R_drewN | apply Kd.R_drew)); exact HO215.out))) (below_size (by repeat (first | (with_reducible first | exact HB.out | apply below_alloc | apply pw_below_drewN | apply below_drew1) | exact HB.out)))); have n2_ := Aside0.mk (below_step (by repeat (first | (with_reducible first | exact HB.out | apply below_alloc | apply pw_below_drewN | apply below_drew1) | exact HB.out)) hb); clear HO215; clear HB; have HO215 := n0_; have HO218 := n1_; have HB := n2_; clear n0_ n1_ n2_; (try clear hb); (try clear hb2); (try clear hk); (try clear hi); (try clear ho0); obtain ⟨Ao53, co53, eo53⟩ := Kd.R_slice HO215.out; subst eo53; have p219 : 0 ≤ ((ji17) : Int) := of_decide_eq_true (by first | (with_reducible assumption) | assumption); have q219 : (ji17) < (t213.length : Int) := of_decide_eq_true (by first | (with_reducible assumption) | assumption); obtain ⟨ad219, e219, hx219_0⟩ := Kd.at_int (Kd.R_reads' HO215.out).2.2 (ji17) p219 q219; cases e219; replace p219 := eq_true p219; replace q219 := eq_true q219))
             repeat (go_quiet (first | (go_at_call 84; (with_reducible refine (retargetref01_Bits.calls kj9 a1 a2 t213 _ A15.out).mono ?_); rintro e w51 ⟨v214, rfl, ho0, hb⟩; have n0_ := Aside0.mk (Kd.R_lower ho0 (below_size (by repeat (first | (with_reducible first | exact HB.out | apply below_alloc | apply pw_below_drewN | apply below_drew1) | exact HB.out)))); have n1_ := Aside0.mk (below_step (by repeat (first | (with_reducible first | exact HB.out | apply below_alloc | apply pw_below_drewN | apply below_drew1) | exact HB.out)) hb); clear HB; have HO215 := n0_; have HB := n1_; clear n0_ n1_; (try clear hb); (try clear hb2); (try clear hk); (try clear hi); (try clear ho0)) | (go_at_call 84; (with_reducible refine (retargetref01_Bits.calls kj9 a1 a3 t216 _ A16.out).mono ?_); rintro e w52 ⟨v217, rfl, ho0, hb⟩; have n0_ := Aside0.mk (Kd.R_elder' (by (with_reducible repeat (first | apply Kd.R_alloc | apply Kd.R_drewN | apply Kd.R_drew)); exact HO215.out) (Kd.R_base ho0) hb); have n1_ := Aside0.mk (Kd.R_lower (Kd.R_new' ho0 (Kd.R_lt (by (with_reducible repeat (first | apply Kd.R_alloc | apply Kd.R_drewN | apply Kd.R_drew)); exact HO215.out))) (below_size (by repeat (first | (with_reducible first | exact HB.out | apply below_alloc | apply pw_below_drewN | apply below_drew1) | exact HB.out)))); have n2_ := Aside0.mk (below_step (by repeat (first | (with_reducible first | exact HB.out | apply below_alloc | apply pw_below_drewN | apply below_drew1) | exact HB.out)) hb); clear HO215; clear HB; have HO215 := n0_; have HO218 := n1_; have HB := n2_; clear n0_ n1_ n2_; (try clear hb); (try clear hb2); (try clear hk); (try clear hi); (try clear ho0); obtain ⟨Ao53, co53, eo53⟩ := Kd.R_slice HO215.out; subst eo53; have p219 : 0 ≤ ((ji17) : Int) := of_decide_eq_true (by first | (with_reducible assumption) | assumption); have q219 : (ji17) < (t213.length : Int) := of_decide_eq_true (by first | (with_reducible assumption) | assumption); obtain ⟨ad219, e219, hx219_0⟩ := Kd.at_int (Kd.R_reads' HO215.out).2.2 (ji17) p219 q219; cases e219; replace p219 := eq_true p219; replace q219 := eq_true q219)); go_upto_if 64 with (first | (go_at_call 84; (with_reducible refine (retargetref01_Bits.calls kj9 a1 a2 t213 _ A15.out).mono ?_); rintro e w51 ⟨v214, rfl, ho0, hb⟩; have n0_ := Aside0.mk (Kd.R_lower ho0 (below_size (by repeat (first | (with_reducible first | exact HB.out | apply below_alloc | apply pw_below_drewN | apply below_drew1) | exact HB.out)))); have n1_ := Aside0.mk (below_step (by repeat (first | (with_reducible first | exact HB.out | apply below_alloc | apply pw_below_drewN | apply below_drew1) | exact HB.out)) hb); clear HB; have HO215 := n0_; have HB := n1_; clear n0_ n1_; (try clear hb); (try clear hb2); (try clear hk); (try clear hi); (try clear ho0)) | (go_at_call 84; (with_reducible refine (retargetref01_Bits.calls kj9 a1 a3 t216 _ A16.out).mono ?_); rintro e w52 ⟨v217, rfl, ho0, hb⟩; have n0_ := Aside0.mk (Kd.R_elder' (by (with_reducible repeat (first | apply Kd.R_alloc | apply Kd.R_drewN | apply Kd.R_drew)); exact HO215.out) (Kd.R_base ho0) hb); have n1_ := Aside0.mk (Kd.R_lower (Kd.R_new' ho0 (Kd.R_lt (by (with_reducible repeat (first | apply Kd.R_alloc | apply Kd.R_drewN | apply Kd.R_drew)); exact HO215.out))) (below_size (by repeat (first | (with_reducible first | exact HB.out | apply below_alloc | apply pw_below_drewN | apply below_drew1) | exact HB.out)))); have n2_ := Aside0.mk (below_step (by repeat (first | (with_reducible first | exact HB.out | apply below_alloc | apply pw_below_drewN | apply below_drew1) | exact HB.out)) hb); clear HO215; clear HB; have HO215 := n0_; have HO218 := n1_; have HB := n2_; clear n0_ n1_ n2_; (try clear hb); (try clear hb2); (try clear hk); (try clear hi); (try clear ho0); obtain ⟨Ao53, co53, eo53⟩ := Kd.R_slice HO215.out; subst eo53; have p219 : 0 ≤ ((ji17) : Int) := of_decide_eq_true (by first | (with_reducible assumption) | assumption); have q219 : (ji17) < (t213.length : Int) := of_decide_eq_true (by first | (with_reducible assumption) | assumption); obtain ⟨ad219, e219, hx219_0⟩ := Kd.at_int (Kd.R_reads' HO215.out).2.2 (ji17) p219 q219; cases e219; replace p219 := eq_true p219; replace q219 := eq_true q219)))
             (try simp only [Act.put, List.setIfInBounds_toArray, List.set_cons_zero, List.set_cons_succ])
             go_cut [64] (fun v64 wc => ∃ (kq : Nat) (x64_49 : Bool), v64 = .bool x64_49 ∧ Aside0 (retargetref01_Binary.j2 kq a0 a1 a2 a3 t213 t216 (rd t213 (ji17)) ([] : List Int) a0 x64_49 = some (r1, r2)) ∧ Aside0 (kq ≤ kj9) ∧ Aside0 (Kd.R (Kd.int .i64) 3 wc w.heap.size (fun k_ => some k_ ≠ (v217 : Value).ownBlock ∧ some k_ ≠ ((.slice none 0 0) : Value).ownBlock) (.slice (some ad219) t213.length co53) t213) ∧ Aside0 (Kd.R (Kd.int .i64) 3 wc w.heap.size (fun k_ => some k_ ≠ ((.slice (some ad219) t213.length co53) : Value).ownBlock ∧ some k_ ≠ ((.slice none 0 0) : Value).ownBlock) v217 t216) ∧ Aside0 (Kd.R (Kd.int .i64) 3 wc w.heap.size (fun k_ => some k_ ≠ ((.slice (some ad219) t213.length co53) : Value).ownBlock ∧ some k_ ≠ (v217 : Value).ownBlock) (.slice none 0 0) ([] : List Int)) ∧ Aside0 (Below w.heap.size w wc))
             case first =>
              have H := HC50.out
              clear HC50
              by_cases c54 : a0 = 8
              ·rw [if_pos c54] at H
               have c54b0 : (a0 == 8) = true := beq_iff_eq.mpr c54
               have c54b1 : (a0 != 8) = false := bne_eq_false_iff_eq.mpr c54
               clear c54
               (first | rw [c54b0] | (simp only [i64_w, i32_w]; rw [c54b0]) | skip)
               have H' := Aside0.mk H
               clear H
               go_wp2
               repeat (go_quiet (fail); try go_wp2)
               go_meet
               case rel => exact ⟨_, ((a0 == 8)), (by first | rfl | (simp; done) | (simp [*]; done)), H', ⟨by have := HJ6.out; have := HJ9.out; first | omega | exact Nat.le_refl _⟩, ⟨by (with_reducible repeat (first | apply Kd.R_alloc | apply Kd.R_drewN | apply Kd.R_drew)); exact Kd.R_mono HO215.out (fun _ hk => ⟨hk.2, (by simp [Value.ownBlock])⟩)⟩, ⟨by (with_reducible repeat (first | apply Kd.R_alloc | apply Kd.R_drewN | apply Kd.R_drew)); exact Kd.R_mono HO218.out (fun _ hk => ⟨hk.2, (by simp [Value.ownBlock])⟩)⟩, ⟨by first | exact Kd.R_nil _ _ _ _ _ | exact Kd.N_nil _ _ _ _ _ | exact Kd.V_nil _ _ _ _ _ | exact Kd.Q_nil _ _ _ _ _ | exact Kd.S_nil _ _ _ _ _⟩, ⟨by repeat (first | (with_reducible first | exact HB.out | apply below_alloc | apply pw_below_drewN | apply below_drew1) | exact HB.out)⟩⟩
              ·rw [if_neg c54] at H
               have c54b0 : (a0 == 8) = false := beq_eq_false_iff_ne.mpr c54
               have c54b1 : (a0 != 8) = true := bne_iff_ne.mpr c54
               (first | rw [c54b0] | (simp only [i64_w, i32_w]; rw [c54b0]) | skip)
               by_cases c55 : a0 = 9
               ·rw [if_pos c55] at H
                have c55b0 : (a0 == 9) = true := beq_iff_eq.mpr c55
                have c55b1 : (a0 != 9) = false := bne_eq_false_iff_eq.mpr c55
                clear c55
                have H' := Aside0.mk H
                clear H
                go_wp2
                repeat (go_quiet (fail); try go_wp2)
                go_meet
                case rel => exact ⟨_, ((a0 == 9)), (by first | rfl | (simp; done) | (simp [*]; done)), H', ⟨by have := HJ6.out; have := HJ9.out; first | omega | exact Nat.le_refl _⟩, ⟨by (with_reducible repeat (first | apply Kd.R_alloc | apply Kd.R_drewN | apply Kd.R_drew)); exact Kd.R_mono HO215.out (fun _ hk => ⟨hk.2, (by simp [Value.ownBlock])⟩)⟩, ⟨by (with_reducible repeat (first | apply Kd.R_alloc | apply Kd.R_drewN | apply Kd.R_drew)); exact Kd.R_mono HO218.out (fun _ hk => ⟨hk.2, (by simp [Value.ownBlock])⟩)⟩, ⟨by first | exact Kd.R_nil _ _ _ _ _ | exact Kd.N_nil _ _ _ _ _ | exact Kd.V_nil _ _ _ _ _ | exact Kd.Q_nil _ _ _ _ _ | exact Kd.S_nil _ _ _ _ _⟩, ⟨by repeat (first | (with_reducible first | exact HB.out | apply below_alloc | apply pw_below_drewN | apply below_drew1) | exact HB.out)⟩⟩
               ·rw [if_neg c55] at H
                have c55b0 : (a0 == 9) = false := beq_eq_false_iff_ne.mpr c55
                have c55b1 : (a0 != 9) = true := bne_iff_ne.mpr c55
                have H' := Aside0.mk H
                clear H
                go_wp2
                repeat (go_quiet (fail); try go_wp2)
                go_meet
                case rel => exact ⟨_, ((a0 == 10)), (by first | rfl | (simp; done) | (simp [*]; done)), H', ⟨by have := HJ6.out; have := HJ9.out; first | omega | exact Nat.le_refl _⟩, ⟨by (with_reducible repeat (first | apply Kd.R_alloc | apply Kd.R_drewN | apply Kd.R_drew)); exact Kd.R_mono HO215.out (fun _ hk => ⟨hk.2, (by simp [Value.ownBlock])⟩)⟩, ⟨by (with_reducible repeat (first | apply Kd.R_alloc | apply Kd.R_drewN | apply Kd.R_drew)); exact Kd.R_mono HO218.out (fun _ hk => ⟨hk.2, (by simp [Value.ownBlock])⟩)⟩, ⟨by first | exact Kd.R_nil _ _ _ _ _ | exact Kd.N_nil _ _ _ _ _ | exact Kd.V_nil _ _ _ _ _ | exact Kd.Q_nil _ _ _ _ _ | exact Kd.S_nil _ _ _ _ _⟩, ⟨by repeat (first | (with_reducible first | exact HB.out | apply below_alloc | apply pw_below_drewN | apply below_drew1) | exact HB.out)⟩⟩
             case rest =>
              clear HC50
              try clear c1
              try clear c2
              try clear p2
              try clear q2
              try clear hx2
              try clear c4
              try clear c5
              try clear c6
              try clear p6
              try clear c8
              try clear c8b0
              try clear c9
              try clear c12
              try clear c14
              try clear c18
              try clear c18b0
              try clear c19
              try clear c19b0
              try clear c20
              try clear c20b0
              try clear c20b1
              try clear p21
              try clear q21
              try clear hx21
              try clear c29
              try clear c29b0
              try clear c29b1
              try clear c41
              try clear c41b0
              try clear c41b1
              try clear c48
              try clear c54
              try clear c54b0
              try clear c54b1
              try clear c55
              try clear c55b0
              try clear c55b1
              try clear hx219_0
              try clear p2
              try clear p219
              try clear q219
              obtain ⟨kq, x64_49, rfl, HA, HJ49, HO_10, HO_11, HO_13, HB⟩ := hcut
              cases kq with
              | zero => exact absurd HA.out (by simp [retargetref01_Binary.j2])
              | succ kj49 =>
               have H := HA.out
               clear HA
               simp only [retargetref01_Binary.j2] at H
               by_cases c56 : x64_49 = true
               ·subst c56
                have H1 : (retargetref01_Binary.l0 kj49 a0 a1 t213 t216 ([] : List Int) 0) = some (r1, r2) := by rw [if_pos rfl] at H; exact H
                clear H
                have H := H1
                clear H1
                have H' := Aside0.mk H
                clear H
                go_wp2
                repeat (go_quiet (fail); try go_wp2)
                go_loopg [13, 14] kj49 (fun kq v13 v14 w' => ∃ (x13_4 : List Int) (x14_4 : Int), v14 = .int .i64 x14_4 ∧ Aside0 (retargetref01_Binary.l0 kq a0 a1 t213 t216 x13_4 x14_4 = some (r1, r2)) ∧ Aside0 (kq ≤ kj49) ∧ Aside0 (Kd.R (Kd.int .i64) 3 w' w.heap.size (fun k_ => some k_ ≠ (v217 : Value).ownBlock ∧ some k_ ≠ (v13 : Value).ownBlock) (.slice (some ad219) t213.length co53) t213) ∧ Aside0 (Kd.R (Kd.int .i64) 3 w' w.heap.size (fun k_ => some k_ ≠ ((.slice (some ad219) t213.length co53) : Value).ownBlock ∧ some k_ ≠ (v13 : Value).ownBlock) v217 t216) ∧ Aside0 (Kd.R (Kd.int .i64) 3 w' w.heap.size (fun k_ => some k_ ≠ ((.slice (some ad219) t213.length co53) : Value).ownBlock ∧ some k_ ≠ (v217 : Value).ownBlock) v13 x13_4) ∧ Aside0 (Below w.heap.size w w'))
                case atStart => exact ⟨(([] : List Int)), (0), (by first | rfl | (simp; done) | (simp [*]; done)), H', ⟨Nat.le_refl _⟩, ⟨by (with_reducible repeat (first | apply Kd.R_alloc | apply Kd.R_drewN | apply Kd.R_drew)); exact HO_10.out⟩, ⟨by (with_reducible repeat (first | apply Kd.R_alloc | apply Kd.R_drewN | apply Kd.R_drew)); exact HO_11.out⟩, ⟨by (with_reducible repeat (first | apply Kd.R_alloc | apply Kd.R_drewN | apply Kd.R_drew)); exact HO_13.out⟩, ⟨by repeat (first | (with_reducible first | exact HB.out | apply below_alloc | apply pw_below_drewN | apply below_drew1) | exact HB.out)⟩⟩
                case round =>
                 clear H'
                 try clear c1
                 try clear c2
                 try clear p2
                 try clear q2
                 try clear hx2
                 try clear c4
                 try clear c5
                 try clear c6
                 try clear p6
                 try clear c8
                 try clear c8b0
                 try clear c9
                 try clear c12
                 try clear c14
                 try clear c18
                 try clear c18b0
                 try clear c19
                 try clear c19b0
                 try clear c20
                 try clear c20b0
                 try clear c20b1
                 try clear p21
                 try clear q21
                 try clear hx21
                 try clear c29
                 try clear c29b0
                 try clear c29b1
                 try clear c41
                 try clear c41b0
                 try clear c41b1
                 try clear c48
                 try clear c54
                 try clear c54b0
                 try clear c54b1
                 try clear c55
                 try clear c55b0
                 try clear c55b1
                 try clear c56
                 try clear hx219_0
                 try clear p2
                 try clear p21
                 try clear p219
                 try clear p6
                 try clear q2
                 try clear q21
                 try clear q219
                 obtain ⟨x13_4, x14_4, rfl, HA, HK4, HO_10, HO_11, HO_13, HB⟩ := hrel
                 cases gk with
                 | zero => exact absurd HA.out (by simp [retargetref01_Binary.l0])
                 | succ k4 =>
                  have H := HA.out
                  clear HA
                  simp only [retargetref01_Binary.l0] at H
                  by_cases c57 : x14_4 < a1
                  ·rw [if_pos c57] at H
                   have c57b0 : decide (x14_4 < a1) = true := decide_eq_true c57
                   clear c57
                   by_cases c58 : 0 ≤ x14_4
                   ·rw [if_pos c58] at H
                    have c58b0 : decide (0 ≤ x14_4) = true := decide_eq_true c58
                    clear c58
                    by_cases c59 : x14_4 < (t213.length : Int)
                    ·rw [if_pos c59] at H
                     have c59b0 : decide (x14_4 < (t213.length : Int)) = true := decide_eq_true c59
                     clear c59
                     by_cases c60 : x14_4 < (t216.length : Int)
                     ·rw [if_pos c60] at H
                      have c60b0 : decide (x14_4 < (t216.length : Int)) = true := decide_eq_true c60
                      clear c60
                      by_cases c61 : a0 = 8
                      ·rw [if_pos c61] at H
                       have c61b0 : (a0 == 8) = true := beq_iff_eq.mpr c61
                       have c61b1 : (a0 != 8) = false := bne_eq_false_iff_eq.mpr c61
                       clear c61
                       by_cases c62 : (wrap64 ((rd t213 x14_4) + (rd t216 x14_4))) = 2
                       ·rw [if_pos c62] at H
                        have c62b0 : ((wrap64 ((rd t213 x14_4) + (rd t216 x14_4))) == 2) = true := beq_iff_eq.mpr c62
                        have c62b1 : ((wrap64 ((rd t213 x14_4) + (rd t216 x14_4))) != 2) = false := bne_eq_false_iff_eq.mpr c62
                        clear c62
                        by_cases c63 : x13_4.length < 17592186044416
                        ·rw [if_pos c63] at H
                         have LMc63 := Aside0.mk c63
                         clear c63
                         obtain ⟨y237, hy237⟩ : ∃ y_ : List Int, y_ = (x13_4 ++ [1]) := ⟨_, rfl⟩
                         replace H : (retargetref01_Binary.l0 k4 a0 a1 t213 t216 y237 (wrap64 (x14_4 + 1))) = some (r1, r2) := by first | (rw [hy237]; with_reducible exact H) | (have H2_ := (Option.bind_some _ _).symm.trans H; rw [hy237]; with_reducible exact H2_) | (have H2_ := (Option.bind_some _ _).symm.trans H; with_reducible exact H2_) | with_reducible exact H | (rw [hy237]; exact H) | exact H
                         have Ny237 := Aside0.mk hy237
                         clear hy237
                         have H' := Aside0.mk H
                         clear H
                         have p235 : 0 ≤ (x14_4 : Int) := of_decide_eq_true (by first | (with_reducible assumption) | assumption)
                         have q235 : x14_4 < (t213.length : Int) := of_decide_eq_true (by first | (with_reducible assumption) | assumption)
                         obtain ⟨ad235, e235, hx235_0⟩ := Kd.at_int (Kd.R_reads' HO_10.out).2.2 x14_4 p235 q235
                         obtain rfl : ad219 = ad235 := (by injection e235)
                         replace p235 := eq_true p235
                         replace q235 := eq_true q235
                         obtain ⟨Ao64, co64, eo64⟩ := Kd.R_slice HO_11.out
                         subst eo64
                         have p236 : 0 ≤ (x14_4 : Int) := of_decide_eq_true (by first | (with_reducible assumption) | assumption)
                         have q236 : x14_4 < (t216.length : Int) := of_decide_eq_true (by first | (with_reducible assumption) | assumption)
                         obtain ⟨ad236, e236, hx236_0⟩ := Kd.at_int (Kd.R_reads' HO_11.out).2.2 x14_4 p236 q236
                         cases e236
                         replace p236 := eq_true p236
                         replace q236 := eq_true q236
                         go_wp2_with (first | ((with_reducible refine gate_builtin (b := .append) (xs := #[.tmp 104, .tmp 106]) rfl ?_); at_builtin; refine Kd.R_append (Kd.int .i64) (w0 := w) w.heap.size rfl (.tmp 104) (.tmp 106) 124 3 (.int .i64 0) 8 rfl Try.underlying124 info3 rfl (by decide) (by omega) u13 x13_4 1 [.int .i64 1] (fun k_ => some k_ ≠ (.slice (some ad219) t213.length co53 : Value).ownBlock ∧ some k_ ≠ (.slice (some ad236) t216.length co64 : Value).ownBlock) (fun _ => False) rfl rfl ?aP (fun _ hk => hk.elim) ?aF ?aO ?aB ?aS ?aL ?_; (case aP => exact rfl); (case aB => exact (by repeat (first | (with_reducible first | exact HB.out | apply below_alloc | apply pw_below_drewN | apply below_drew1) | exact HB.out))); (case aF => exact (fun k_ hk => ⟨Kd.fresh' (Kd.R_lt (by (with_reducible repeat (first | apply Kd.R_alloc | apply Kd.R_drewN | apply Kd.R_drew)); exact HO_10.out)) k_ hk, Kd.fresh' (Kd.R_lt (by (with_reducible repeat (first | apply Kd.R_alloc | apply Kd.R_drewN | apply Kd.R_drew)); exact HO_11.out)) k_ hk⟩)); (case aO => exact (by (with_reducible repeat (first | apply Kd.R_alloc | apply Kd.R_drewN | apply Kd.R_drew)); exact HO_13.out)); (case aS => exact (below_size (by repeat (first | (with_reducible first | exact HB.out | apply below_alloc | apply pw_below_drewN | apply below_drew1) | exact HB.out)))); (case aL => have := LMc63.out; omega); intro v238 w65 ho hb hg hat; rw [← Ny237.out] at ho; have n0_ := Aside0.mk (Kd.R_after (ok := (fun k_ => some k_ ≠ (.slice (some ad236) t216.length co64 : Value).ownBlock)) (by (with_reducible repeat (first | apply Kd.R_alloc | apply Kd.R_drewN | apply Kd.R_drew)); exact HO_10.out) hg hat); have n1_ := Aside0.mk (Kd.R_after (ok := (fun k_ => some k_ ≠ (.slice (some ad219) t213.length co53 : Value).ownBlock)) (by (with_reducible repeat (first | apply Kd.R_alloc | apply Kd.R_drewN | apply Kd.R_drew)); exact HO_11.out) hg hat); have n2_ := Aside0.mk (hb); have n3_ := Aside0.mk (ho); clear HO_10; clear HO_11; clear HB; clear HO_13; have HO_10 := n0_; have HO_11 := n1_; have HB := n2_; have HO239 := n3_; clear n0_ n1_ n2_ n3_; clear ho hb hg hat))
                         repeat (go_quiet (first | ((with_reducible refine gate_builtin (b := .append) (xs := #[.tmp 104, .tmp 106]) rfl ?_); at_builtin; refine Kd.R_append (Kd.int .i64) (w0 := w) w.heap.size rfl (.tmp 104) (.tmp 106) 124 3 (.int .i64 0) 8 rfl Try.underlying124 info3 rfl (by decide) (by omega) u13 x13_4 1 [.int .i64 1] (fun k_ => some k_ ≠ (.slice (some ad219) t213.length co53 : Value).ownBlock ∧ some k_ ≠ (.slice (some ad236) t216.length co64 : Value).ownBlock) (fun _ => False) rfl rfl ?aP (fun _ hk => hk.elim) ?aF ?aO ?aB ?aS ?aL ?_; (case aP => exact rfl); (case aB => exact (by repeat (first | (with_reducible first | exact HB.out | apply below_alloc | apply pw_below_drewN | apply below_drew1) | exact HB.out))); (case aF => exact (fun k_ hk => ⟨Kd.fresh' (Kd.R_lt (by (with_reducible repeat (first | apply Kd.R_alloc | apply Kd.R_drewN | apply Kd.R_drew)); exact HO_10.out)) k_ hk, Kd.fresh' (Kd.R_lt (by (with_reducible repeat (first | apply Kd.R_alloc | apply Kd.R_drewN | apply Kd.R_drew)); exact HO_11.out)) k_ hk⟩)); (case aO => exact (by (with_reducible repeat (first | apply Kd.R_alloc | apply Kd.R_drewN | apply Kd.R_drew)); exact HO_13.out)); (case aS => exact (below_size (by repeat (first | (with_reducible first | exact HB.out | apply below_alloc | apply pw_below_drewN | apply below_drew1) | exact HB.out)))); (case aL => have := LMc63.out; omega); intro v238 w65 ho hb hg hat; rw [← Ny237.out] at ho; have n0_ := Aside0.mk (Kd.R_after (ok := (fun k_ => some k_ ≠ (.slice (some ad236) t216.length co64 : Value).ownBlock)) (by (with_reducible repeat (first | apply Kd.R_alloc | apply Kd.R_drewN | apply Kd.R_drew)); exact HO_10.out) hg hat); have n1_ := Aside0.mk (Kd.R_after (ok := (fun k_ => some k_ ≠ (.slice (some ad219) t213.length co53 : Value).ownBlock)) (by (with_reducible repeat (first | apply Kd.R_alloc | apply Kd.R_drewN | apply Kd.R_drew)); exact HO_11.out) hg hat); have n2_ := Aside0.mk (hb); have n3_ := Aside0.mk (ho); clear HO_10; clear HO_11; clear HB; clear HO_13; have HO_10 := n0_; have HO_11 := n1_; have HB := n2_; have HO239 := n3_; clear n0_ n1_ n2_ n3_; clear ho hb hg hat)); try go_wp2_with (first | ((with_reducible refine gate_builtin (b := .append) (xs := #[.tmp 104, .tmp 106]) rfl ?_); at_builtin; refine Kd.R_append (Kd.int .i64) (w0 := w) w.heap.size rfl (.tmp 104) (.tmp 106) 124 3 (.int .i64 0) 8 rfl Try.underlying124 info3 rfl (by decide) (by omega) u13 x13_4 1 [.int .i64 1] (fun k_ => some k_ ≠ (.slice (some ad219) t213.length co53 : Value).ownBlock ∧ some k_ ≠ (.slice (some ad236) t216.length co64 : Value).ownBlock) (fun _ => False) rfl rfl ?aP (fun _ hk => hk.elim) ?aF ?aO ?aB ?aS ?aL ?_; (case aP => exact rfl); (case aB => exact (by repeat (first | (with_reducible first | exact HB.out | apply below_alloc | apply pw_below_drewN | apply below_drew1) | exact HB.out))); (case aF => exact (fun k_ hk => ⟨Kd.fresh' (Kd.R_lt (by (with_reducible repeat (first | apply Kd.R_alloc | apply Kd.R_drewN | apply Kd.R_drew)); exact HO_10.out)) k_ hk, Kd.fresh' (Kd.R_lt (by (with_reducible repeat (first | apply Kd.R_alloc | apply Kd.R_drewN | apply Kd.R_drew)); exact HO_11.out)) k_ hk⟩)); (case aO => exact (by (with_reducible repeat (first | apply Kd.R_alloc | apply Kd.R_drewN | apply Kd.R_drew)); exact HO_13.out)); (case aS => exact (below_size (by repeat (first | (with_reducible first | exact HB.out | apply below_alloc | apply pw_below_drewN | apply below_drew1) | exact HB.out)))); (case aL => have := LMc63.out; omega); intro v238 w65 ho hb hg hat; rw [← Ny237.out] at ho; have n0_ := Aside0.mk (Kd.R_after (ok := (fun k_ => some k_ ≠ (.slice (some ad236) t216.length co64 : Value).ownBlock)) (by (with_reducible repeat (first | apply Kd.R_alloc | apply Kd.R_drewN | apply Kd.R_drew)); exact HO_10.out) hg hat); have n1_ := Aside0.mk (Kd.R_after (ok := (fun k_ => some k_ ≠ (.slice (some ad219) t213.length co53 : Value).ownBlock)) (by (with_reducible repeat (first | apply Kd.R_alloc | apply Kd.R_drewN | apply Kd.R_drew)); exact HO_11.out) hg hat); have n2_ := Aside0.mk (hb); have n3_ := Aside0.mk (ho); clear HO_10; clear HO_11; clear HB; clear HO_13; have HO_10 := n0_; have HO_11 := n1_; have HB := n2_; have HO239 := n3_; clear n0_ n1_ n2_ n3_; clear ho hb hg hat)))
                         go_roundg k4
                         case measure => have := HJ6.out; have := HJ9.out; have := HJ49.out; have := HK4.out; omega
                         case rel => exact ⟨(y237), (wrap64 (x14_4 + 1)), (by first | rfl | (simp; done) | (simp [*]; done)), H', ⟨by have := HJ6.out; have := HJ9.out; have := HJ49.out; have := HK4.out; omega⟩, ⟨by (with_reducible repeat (first | apply Kd.R_alloc | apply Kd.R_drewN | apply Kd.R_drew)); exact HO_10.out⟩, ⟨by (with_reducible repeat (first | apply Kd.R_alloc | apply Kd.R_drewN | apply Kd.R_drew)); exact HO_11.out⟩, ⟨by (with_reducible repeat (first | apply Kd.R_alloc | apply Kd.R_drewN | apply Kd.R_drew)); exact HO239.out⟩, ⟨by repeat (first | (with_reducible first | exact HB.out | apply below_alloc | apply pw_below_drewN | apply below_drew1) | exact HB.out)⟩⟩
                        ·rw [if_neg c63] at H
                         exact absurd H (by simp)
                       ·rw [if_neg c62] at H
                        have c62b0 : ((wrap64 ((rd t213 x14_4) + (rd t216 x14_4))) == 2) = false := beq_eq_false_iff_ne.mpr c62
                        have c62b1 : ((wrap64 ((rd t213 x14_4) + (rd t216 x14_4))) != 2) = true := bne_iff_ne.mpr c62
                        by_cases c66 : a0 = 9
                        ·rw [if_pos c66] at H
                         have c66b0 : (a0 == 9) = true := beq_iff_eq.mpr c66
                         have c66b1 : (a0 != 9) = false := bne_eq_false_iff_eq.mpr c66
                         clear c66
                         by_cases c67 : (wrap64 ((rd t213 x14_4) + (rd t216 x14_4))) > 0
                         ·rw [if_pos c67] at H
                          have c67b0 : decide (0 < (wrap64 ((rd t213 x14_4) + (rd t216 x14_4)))) = true := decide_eq_true c67
                          clear c67
                          by_cases c68 : x13_4.length < 17592186044416
                          ·rw [if_pos c68] at H
                           have LMc68 := Aside0.mk c68
                           clear c68
                           obtain ⟨y240, hy240⟩ : ∃ y_ : List Int, y_ = (x13_4 ++ [1]) := ⟨_, rfl⟩
                           replace H : (retargetref01_Binary.l0 k4 a0 a1 t213 t216 y240 (wrap64 (x14_4 + 1))) = some (r1, r2) := by first | (rw [hy240]; with_reducible exact H) | (have H2_ := (Option.bind_some _ _).symm.trans H; rw [hy240]; with_reducible exact H2_) | (have H2_ := (Option.bind_some _ _).symm.trans H; with_reducible exact H2_) | with_reducible exact H | (rw [hy240]; exact H) | exact H
                           have Ny240 := Aside0.mk hy240
                           clear hy240
                           have H' := Aside0.mk H
                           clear H
                           have p235 : 0 ≤ (x14_4 : Int) := of_decide_eq_true (by first | (with_reducible assumption) | assumption)
                           have q235 : x14_4 < (t213.length : Int) := of_decide_eq_true (by first | (with_reducible assumption) | assumption)
                           obtain ⟨ad235, e235, hx235_0⟩ := Kd.at_int (Kd.R_reads' HO_10.out).2.2 x14_4 p235 q235
                           obtain rfl : ad219 = ad235 := (by injection e235)
                           replace p235 := eq_true p235
                           replace q235 := eq_true q235
                           obtain ⟨Ao69, co69, eo69⟩ := Kd.R_slice HO_11.out
                           subst eo69
                           have p236 : 0 ≤ (x14_4 : Int) := of_decide_eq_true (by first | (with_reducible assumption) | assumption)
                           have q236 : x14_4 < (t216.length : Int) := of_decide_eq_true (by first | (with_reducible assumption) | assumption)
                           obtain ⟨ad236, e236, hx236_0⟩ := Kd.at_int (Kd.R_reads' HO_11.out).2.2 x14_4 p236 q236
                           cases e236
                           replace p236 := eq_true p236
                           replace q236 := eq_true q236
                           go_wp2_with (first | ((with_reducible refine gate_builtin (b := .append) (xs := #[.tmp 104, .tmp 106]) rfl ?_); at_builtin; refine Kd.R_append (Kd.int .i64) (w0 := w) w.heap.size rfl (.tmp 104) (.tmp 106) 124 3 (.int .i64 0) 8 rfl Try.underlying124 info3 rfl (by decide) (by omega) u13 x13_4 1 [.int .i64 1] (fun k_ => some k_ ≠ (.slice (some ad219) t213.length co53 : Value).ownBlock ∧ some k_ ≠ (.slice (some ad236) t216.length co69 : Value).ownBlock) (fun _ => False) rfl rfl ?aP (fun _ hk => hk.elim) ?aF ?aO ?aB ?aS ?aL ?_; (case aP => exact rfl); (case aB => exact (by repeat (first | (with_reducible first | exact HB.out | apply below_alloc | apply pw_below_drewN | apply below_drew1) | exact HB.out))); (case aF => exact (fun k_ hk => ⟨Kd.fresh' (Kd.R_lt (by (with_reducible repeat (first | apply Kd.R_alloc | apply Kd.R_drewN | apply Kd.R_drew)); exact HO_10.out)) k_ hk, Kd.fresh' (Kd.R_lt (by (with_reducible repeat (first | apply Kd.R_alloc | apply Kd.R_drewN | apply Kd.R_drew)); exact HO_11.out)) k_ hk⟩)); (case aO => exact (by (with_reducible repeat (first | apply Kd.R_alloc | apply Kd.R_drewN | apply Kd.R_drew)); exact HO_13.out)); (case aS => exact (below_size (by repeat (first | (with_reducible first | exact HB.out | apply below_alloc | apply pw_below_drewN | apply below_drew1) | exact HB.out)))); (case aL => have := LMc68.out; omega); intro v241 w70 ho hb hg hat; rw [← Ny240.out] at ho; have n0_ := Aside0.mk (Kd.R_after (ok := (fun k_ => some k_ ≠ (.slice (some ad236) t216.length co69 : Value).ownBlock)) (by (with_reducible repeat (first | apply Kd.R_alloc | apply Kd.R_drewN | apply Kd.R_drew)); exact HO_10.out) hg hat); have n1_ := Aside0.mk (Kd.R_after (ok := (fun k_ => some k_ ≠ (.slice (some ad219) t213.length co53 : Value).ownBlock)) (by (with_reducible repeat (first | apply Kd.R_alloc | apply Kd.R_drewN | apply Kd.R_drew)); exact HO_11.out) hg hat); have n2_ := Aside0.mk (hb); have n3_ := Aside0.mk (ho); clear HO_10; clear HO_11; clear HB; clear HO_13; have HO_10 := n0_; have HO_11 := n1_; have HB := n2_; have HO242 := n3_; clear n0_ n1_ n2_ n3_; clear ho hb hg hat))
                           repeat (go_quiet (first | ((with_reducible refine gate_builtin (b := .append) (xs := #[.tmp 104, .tmp 106]) rfl ?_); at_builtin; refine Kd.R_append (Kd.int .i64) (w0 := w) w.heap.size rfl (.tmp 104) (.tmp 106) 124 3 (.int .i64 0) 8 rfl Try.underlying124 info3 rfl (by decide) (by omega) u13 x13_4 1 [.int .i64 1] (fun k_ => some k_ ≠ (.slice (some ad219) t213.length co53 : Value).ownBlock ∧ some k_ ≠ (.slice (some ad236) t216.length co69 : Value).ownBlock) (fun _ => False) rfl rfl ?aP (fun _ hk => hk.elim) ?aF ?aO ?aB ?aS ?aL ?_; (case aP => exact rfl); (case aB => exact (by repeat (first | (with_reducible first | exact HB.out | apply below_alloc | apply pw_below_drewN | apply below_drew1) | exact HB.out))); (case aF => exact (fun k_ hk => ⟨Kd.fresh' (Kd.R_lt (by (with_reducible repeat (first | apply Kd.R_alloc | apply Kd.R_drewN | apply Kd.R_drew)); exact HO_10.out)) k_ hk, Kd.fresh' (Kd.R_lt (by (with_reducible repeat (first | apply Kd.R_alloc | apply Kd.R_drewN | apply Kd.R_drew)); exact HO_11.out)) k_ hk⟩)); (case aO => exact (by (with_reducible repeat (first | apply Kd.R_alloc | apply Kd.R_drewN | apply Kd.R_drew)); exact HO_13.out)); (case aS => exact (below_size (by repeat (first | (with_reducible first | exact HB.out | apply below_alloc | apply pw_below_drewN | apply below_drew1) | exact HB.out)))); (case aL => have := LMc68.out; omega); intro v241 w70 ho hb hg hat; rw [← Ny240.out] at ho; have n0_ := Aside0.mk (Kd.R_after (ok := (fun k_ => some k_ ≠ (.slice (some ad236) t216.length co69 : Value).ownBlock)) (by (with_reducible repeat (first | apply Kd.R_alloc | apply Kd.R_drewN | apply Kd.R_drew)); exact HO_10.out) hg hat); have n1_ := Aside0.mk (Kd.R_after (ok := (fun k_ => some k_ ≠ (.slice (some ad219) t213.length co53 : Value).ownBlock)) (by (with_reducible repeat (first | apply Kd.R_alloc | apply Kd.R_drewN | apply Kd.R_drew)); exact HO_11.out) hg hat); have n2_ := Aside0.mk (hb); have n3_ := Aside0.mk (ho); clear HO_10; clear HO_11; clear HB; clear HO_13; have HO_10 := n0_; have HO_11 := n1_; have HB := n2_; have HO242 := n3_; clear n0_ n1_ n2_ n3_; clear ho hb hg hat)); try go_wp2_with (first | ((with_reducible refine gate_builtin (b := .append) (xs := #[.tmp 104, .tmp 106]) rfl ?_); at_builtin; refine Kd.R_append (Kd.int .i64) (w0 := w) w.heap.size rfl (.tmp 104) (.tmp 106) 124 3 (.int .i64 0) 8 rfl Try.underlying124 info3 rfl (by decide) (by omega) u13 x13_4 1 [.int .i64 1] (fun k_ => some k_ ≠ (.slice (some ad219) t213.length co53 : Value).ownBlock ∧ some k_ ≠ (.slice (some ad236) t216.length co69 : Value).ownBlock) (fun _ => False) rfl rfl ?aP (fun _ hk => hk.elim) ?aF ?aO ?aB ?aS ?aL ?_; (case aP => exact rfl); (case aB => exact (by repeat (first | (with_reducible first | exact HB.out | apply below_alloc | apply pw_below_drewN | apply below_drew1) | exact HB.out))); (case aF => exact (fun k_ hk => ⟨Kd.fresh' (Kd.R_lt (by (with_reducible repeat (first | apply Kd.R_alloc | apply Kd.R_drewN | apply Kd.R_drew)); exact HO_10.out)) k_ hk, Kd.fresh' (Kd.R_lt (by (with_reducible repeat (first | apply Kd.R_alloc | apply Kd.R_drewN | apply Kd.R_drew)); exact HO_11.out)) k_ hk⟩)); (case aO => exact (by (with_reducible repeat (first | apply Kd.R_alloc | apply Kd.R_drewN | apply Kd.R_drew)); exact HO_13.out)); (case aS => exact (below_size (by repeat (first | (with_reducible first | exact HB.out | apply below_alloc | apply pw_below_drewN | apply below_drew1) | exact HB.out)))); (case aL => have := LMc68.out; omega); intro v241 w70 ho hb hg hat; rw [← Ny240.out] at ho; have n0_ := Aside0.mk (Kd.R_after (ok := (fun k_ => some k_ ≠ (.slice (some ad236) t216.length co69 : Value).ownBlock)) (by (with_reducible repeat (first | apply Kd.R_alloc | apply Kd.R_drewN | apply Kd.R_drew)); exact HO_10.out) hg hat); have n1_ := Aside0.mk (Kd.R_after (ok := (fun k_ => some k_ ≠ (.slice (some ad219) t213.length co53 : Value).ownBlock)) (by (with_reducible repeat (first | apply Kd.R_alloc | apply Kd.R_drewN | apply Kd.R_drew)); exact HO_11.out) hg hat); have n2_ := Aside0.mk (hb); have n3_ := Aside0.mk (ho); clear HO_10; clear HO_11; clear HB; clear HO_13; have HO_10 := n0_; have HO_11 := n1_; have HB := n2_; have HO242 := n3_; clear n0_ n1_ n2_ n3_; clear ho hb hg hat)))
                           go_roundg k4
                           case measure => have := HJ6.out; have := HJ9.out; have := HJ49.out; have := HK4.out; omega
                           case rel => exact ⟨(y240), (wrap64 (x14_4 + 1)), (by first | rfl | (simp; done) | (simp [*]; done)), H', ⟨by have := HJ6.out; have := HJ9.out; have := HJ49.out; have := HK4.out; omega⟩, ⟨by (with_reducible repeat (first | apply Kd.R_alloc | apply Kd.R_drewN | apply Kd.R_drew)); exact HO_10.out⟩, ⟨by (with_reducible repeat (first | apply Kd.R_alloc | apply Kd.R_drewN | apply Kd.R_drew)); exact HO_11.out⟩, ⟨by (with_reducible repeat (first | apply Kd.R_alloc | apply Kd.R_drewN | apply Kd.R_drew)); exact HO242.out⟩, ⟨by repeat (first | (with_reducible first | exact HB.out | apply below_alloc | apply pw_below_drewN | apply below_drew1) | exact HB.out)⟩⟩
                          ·rw [if_neg c68] at H
                           exact absurd H (by simp)
                         ·rw [if_neg c67] at H
                          have c67b0 : decide (0 < (wrap64 ((rd t213 x14_4) + (rd t216 x14_4)))) = false := decide_eq_false c67
                          clear c67
                          by_cases c71 : a0 = 10
                          ·rw [if_pos c71] at H
                           have c71b0 : (a0 == 10) = true := beq_iff_eq.mpr c71
                           have c71b1 : (a0 != 10) = false := bne_eq_false_iff_eq.mpr c71
                           clear c71
                           by_cases c72 : (wrap64 ((rd t213 x14_4) + (rd t216 x14_4))) = 1
                           ·rw [if_pos c72] at H
                            have c72b0 : ((wrap64 ((rd t213 x14_4) + (rd t216 x14_4))) == 1) = true := beq_iff_eq.mpr c72
                            have c72b1 : ((wrap64 ((rd t213 x14_4) + (rd t216 x14_4))) != 1) = false := bne_eq_false_iff_eq.mpr c72
                            clear c72
                            by_cases c73 : x13_4.length < 17592186044416
                            ·rw [if_pos c73] at H
                             have LMc73 := Aside0.mk c73
                             clear c73
                             obtain ⟨y243, hy243⟩ : ∃ y_ : List Int, y_ = (x13_4 ++ [1]) := ⟨_, rfl⟩
                             replace H : (retargetref01_Binary.l0 k4 a0 a1 t213 t216 y243 (wrap64 (x14_4 + 1))) = some (r1, r2) := by first | (rw [hy243]; with_reducible exact H) | (have H2_ := (Option.bind_some _ _).symm.trans H; rw [hy243]; with_reducible exact H2_) | (have H2_ := (Option.bind_some _ _).symm.trans H; with_reducible exact H2_) | with_reducible exact H | (rw [hy243]; exact H) | exact H
                             have Ny243 := Aside0.mk hy243
                             clear hy243
                             have H' := Aside0.mk H
                             clear H
                             have p235 : 0 ≤ (x14_4 : Int) := of_decide_eq_true (by first | (with_reducible assumption) | assumption)
                             have q235 : x14_4 < (t213.length : Int) := of_decide_eq_true (by first | (with_reducible assumption) | assumption)
                             obtain ⟨ad235, e235, hx235_0⟩ := Kd.at_int (Kd.R_reads' HO_10.out).2.2 x14_4 p235 q235
                             obtain rfl : ad219 = ad235 := (by injection e235)
                             replace p235 := eq_true p235
                             replace q235 := eq_true q235
                             obtain ⟨Ao74, co74, eo74⟩ := Kd.R_slice HO_11.out
                             subst eo74
                             have p236 : 0 ≤ (x14_4 : Int) := of_decide_eq_true (by first | (with_reducible assumption) | assumption)
                             have q236 : x14_4 < (t216.length : Int) := of_decide_eq_true (by first | (with_reducible assumption) | assumption)
                             obtain ⟨ad236, e236, hx236_0⟩ := Kd.at_int (Kd.R_reads' HO_11.out).2.2 x14_4 p236 q236
                             cases e236
                             replace p236 := eq_true p236
                             replace q236 := eq_true q236
                             go_wp2_with (first | ((with_reducible refine gate_builtin (b := .append) (xs := #[.tmp 104, .tmp 106]) rfl ?_); at_builtin; refine Kd.R_append (Kd.int .i64) (w0 := w) w.heap.size rfl (.tmp 104) (.tmp 106) 124 3 (.int .i64 0) 8 rfl Try.underlying124 info3 rfl (by decide) (by omega) u13 x13_4 1 [.int .i64 1] (fun k_ => some k_ ≠ (.slice (some ad219) t213.length co53 : Value).ownBlock ∧ some k_ ≠ (.slice (some ad236) t216.length co74 : Value).ownBlock) (fun _ => False) rfl rfl ?aP (fun _ hk => hk.elim) ?aF ?aO ?aB ?aS ?aL ?_; (case aP => exact rfl); (case aB => exact (by repeat (first | (with_reducible first | exact HB.out | apply below_alloc | apply pw_below_drewN | apply below_drew1) | exact HB.out))); (case aF => exact (fun k_ hk => ⟨Kd.fresh' (Kd.R_lt (by (with_reducible repeat (first | apply Kd.R_alloc | apply Kd.R_drewN | apply Kd.R_drew)); exact HO_10.out)) k_ hk, Kd.fresh' (Kd.R_lt (by (with_reducible repeat (first | apply Kd.R_alloc | apply Kd.R_drewN | apply Kd.R_drew)); exact HO_11.out)) k_ hk⟩)); (case aO => exact (by (with_reducible repeat (first | apply Kd.R_alloc | apply Kd.R_drewN | apply Kd.R_drew)); exact HO_13.out)); (case aS => exact (below_size (by repeat (first | (with_reducible first | exact HB.out | apply below_alloc | apply pw_below_drewN | apply below_drew1) | exact HB.out)))); (case aL => have := LMc73.out; omega); intro v244 w75 ho hb hg hat; rw [← Ny243.out] at ho; have n0_ := Aside0.mk (Kd.R_after (ok := (fun k_ => some k_ ≠ (.slice (some ad236) t216.length co74 : Value).ownBlock)) (by (with_reducible repeat (first | apply Kd.R_alloc | apply Kd.R_drewN | apply Kd.R_drew)); exact HO_10.out) hg hat); have n1_ := Aside0.mk (Kd.R_after (ok := (fun k_ => some k_ ≠ (.slice (some ad219) t213.length co53 : Value).ownBlock)) (by (with_reducible repeat (first | apply Kd.R_alloc | apply Kd.R_drewN | apply Kd.R_drew)); exact HO_11.out) hg hat); have n2_ := Aside0.mk (hb); have n3_ := Aside0.mk (ho); clear HO_10; clear HO_11; clear HB; clear HO_13; have HO_10 := n0_; have HO_11 := n1_; have HB := n2_; have HO245 := n3_; clear n0_ n1_ n2_ n3_; clear ho hb hg hat))
                             repeat (go_quiet (first | ((with_reducible refine gate_builtin (b := .append) (xs := #[.tmp 104, .tmp 106]) rfl ?_); at_builtin; refine Kd.R_append (Kd.int .i64) (w0 := w) w.heap.size rfl (.tmp 104) (.tmp 106) 124 3 (.int .i64 0) 8 rfl Try.underlying124 info3 rfl (by decide) (by omega) u13 x13_4 1 [.int .i64 1] (fun k_ => some k_ ≠ (.slice (some ad219) t213.length co53 : Value).ownBlock ∧ some k_ ≠ (.slice (some ad236) t216.length co74 : Value).ownBlock) (fun _ => False) rfl rfl ?aP (fun _ hk => hk.elim) ?aF ?aO ?aB ?aS ?aL ?_; (case aP => exact rfl); (case aB => exact (by repeat (first | (with_reducible first | exact HB.out | apply below_alloc | apply pw_below_drewN | apply below_drew1) | exact HB.out))); (case aF => exact (fun k_ hk => ⟨Kd.fresh' (Kd.R_lt (by (with_reducible repeat (first | apply Kd.R_alloc | apply Kd.R_drewN | apply Kd.R_drew)); exact HO_10.out)) k_ hk, Kd.fresh' (Kd.R_lt (by (with_reducible repeat (first | apply Kd.R_alloc | apply Kd.R_drewN | apply Kd.R_drew)); exact HO_11.out)) k_ hk⟩)); (case aO => exact (by (with_reducible repeat (first | apply Kd.R_alloc | apply Kd.R_drewN | apply Kd.R_drew)); exact HO_13.out)); (case aS => exact (below_size (by repeat (first | (with_reducible first | exact HB.out | apply below_alloc | apply pw_below_drewN | apply below_drew1) | exact HB.out)))); (case aL => have := LMc73.out; omega); intro v244 w75 ho hb hg hat; rw [← Ny243.out] at ho; have n0_ := Aside0.mk (Kd.R_after (ok := (fun k_ => some k_ ≠ (.slice (some ad236) t216.length co74 : Value).ownBlock)) (by (with_reducible repeat (first | apply Kd.R_alloc | apply Kd.R_drewN | apply Kd.R_drew)); exact HO_10.out) hg hat); have n1_ := Aside0.mk (Kd.R_after (ok := (fun k_ => some k_ ≠ (.slice (some ad219) t213.length co53 : Value).ownBlock)) (by (with_reducible repeat (first | apply Kd.R_alloc | apply Kd.R_drewN | apply Kd.R_drew)); exact HO_11.out) hg hat); have n2_ := Aside0.mk (hb); have n3_ := Aside0.mk (ho); clear HO_10; clear HO_11; clear HB; clear HO_13; have HO_10 := n0_; have HO_11 := n1_; have HB := n2_; have HO245 := n3_; clear n0_ n1_ n2_ n3_; clear ho hb hg hat)); try go_wp2_with (first | ((with_reducible refine gate_builtin (b := .append) (xs := #[.tmp 104, .tmp 106]) rfl ?_); at_builtin; refine Kd.R_append (Kd.int .i64) (w0 := w) w.heap.size rfl (.tmp 104) (.tmp 106) 124 3 (.int .i64 0) 8 rfl Try.underlying124 info3 rfl (by decide) (by omega) u13 x13_4 1 [.int .i64 1] (fun k_ => some k_ ≠ (.slice (some ad219) t213.length co53 : Value).ownBlock ∧ some k_ ≠ (.slice (some ad236) t216.length co74 : Value).ownBlock) (fun _ => False) rfl rfl ?aP (fun _ hk => hk.elim) ?aF ?aO ?aB ?aS ?aL ?_; (case aP => exact rfl); (case aB => exact (by repeat (first | (with_reducible first | exact HB.out | apply below_alloc | apply pw_below_drewN | apply below_drew1) | exact HB.out))); (case aF => exact (fun k_ hk => ⟨Kd.fresh' (Kd.R_lt (by (with_reducible repeat (first | apply Kd.R_alloc | apply Kd.R_drewN | apply Kd.R_drew)); exact HO_10.out)) k_ hk, Kd.fresh' (Kd.R_lt (by (with_reducible repeat (first | apply Kd.R_alloc | apply Kd.R_drewN | apply Kd.R_drew)); exact HO_11.out)) k_ hk⟩)); (case aO => exact (by (with_reducible repeat (first | apply Kd.R_alloc | apply Kd.R_drewN | apply Kd.R_drew)); exact HO_13.out)); (case aS => exact (below_size (by repeat (first | (with_reducible first | exact HB.out | apply below_alloc | apply pw_below_drewN | apply below_drew1) | exact HB.out)))); (case aL => have := LMc73.out; omega); intro v244 w75 ho hb hg hat; rw [← Ny243.out] at ho; have n0_ := Aside0.mk (Kd.R_after (ok := (fun k_ => some k_ ≠ (.slice (some ad236) t216.length co74 : Value).ownBlock)) (by (with_reducible repeat (first | apply Kd.R_alloc | apply Kd.R_drewN | apply Kd.R_drew)); exact HO_10.out) hg hat); have n1_ := Aside0.mk (Kd.R_after (ok := (fun k_ => some k_ ≠ (.slice (some ad219) t213.length co53 : Value).ownBlock)) (by (with_reducible repeat (first | apply Kd.R_alloc | apply Kd.R_drewN | apply Kd.R_drew)); exact HO_11.out) hg hat); have n2_ := Aside0.mk (hb); have n3_ := Aside0.mk (ho); clear HO_10; clear HO_11; clear HB; clear HO_13; have HO_10 := n0_; have HO_11 := n1_; have HB := n2_; have HO245 := n3_; clear n0_ n1_ n2_ n3_; clear ho hb hg hat)))
                             go_roundg k4
                             case measure => have := HJ6.out; have := HJ9.out; have := HJ49.out; have := HK4.out; omega
                             case rel => exact ⟨(y243), (wrap64 (x14_4 + 1)), (by first | rfl | (simp; done) | (simp [*]; done)), H', ⟨by have := HJ6.out; have := HJ9.out; have := HJ49.out; have := HK4.out; omega⟩, ⟨by (with_reducible repeat (first | apply Kd.R_alloc | apply Kd.R_drewN | apply Kd.R_drew)); exact HO_10.out⟩, ⟨by (with_reducible repeat (first | apply Kd.R_alloc | apply Kd.R_drewN | apply Kd.R_drew)); exact HO_11.out⟩, ⟨by (with_reducible repeat (first | apply Kd.R_alloc | apply Kd.R_drewN | apply Kd.R_drew)); exact HO245.out⟩, ⟨by repeat (first | (with_reducible first | exact HB.out | apply below_alloc | apply pw_below_drewN | apply below_drew1) | exact HB.out)⟩⟩
                            ·rw [if_neg c73] at H
                             exact absurd H (by simp)
                           ·rw [if_neg c72] at H
                            have c72b0 : ((wrap64 ((rd t213 x14_4) + (rd t216 x14_4))) == 1) = false := beq_eq_false_iff_ne.mpr c72
                            have c72b1 : ((wrap64 ((rd t213 x14_4) + (rd t216 x14_4))) != 1) = true := bne_iff_ne.mpr c72
                            by_cases c76 : x13_4.length < 17592186044416
                            ·rw [if_pos c76] at H
                             have LMc76 := Aside0.mk c76
                             clear c76
                             obtain ⟨y246, hy246⟩ : ∃ y_ : List Int, y_ = (x13_4 ++ [0]) := ⟨_, rfl⟩
                             replace H : (retargetref01_Binary.l0 k4 a0 a1 t213 t216 y246 (wrap64 (x14_4 + 1))) = some (r1, r2) := by first | (rw [hy246]; with_reducible exact H) | (have H2_ := (Option.bind_some _ _).symm.trans H; rw [hy246]; with_reducible exact H2_) | (have H2_ := (Option.bind_some _ _).symm.trans H; with_reducible exact H2_) | with_reducible exact H | (rw [hy246]; exact H) | exact H
                             have Ny246 := Aside0.mk hy246
                             clear hy246
                             have H' := Aside0.mk H
                             clear H
                             have p235 : 0 ≤ (x14_4 : Int) := of_decide_eq_true (by first | (with_reducible assumption) | assumption)
                             have q235 : x14_4 < (t213.length : Int) := of_decide_eq_true (by first | (with_reducible assumption) | assumption)
                             obtain ⟨ad235, e235, hx235_0⟩ := Kd.at_int (Kd.R_reads' HO_10.out).2.2 x14_4 p235 q235
                             obtain rfl : ad219 = ad235 := (by injection e235)
                             replace p235 := eq_true p235
                             replace q235 := eq_true q235
                             obtain ⟨Ao77, co77, eo77⟩ := Kd.R_slice HO_11.out
                             subst eo77
                             have p236 : 0 ≤ (x14_4 : Int) := of_decide_eq_true (by first | (with_reducible assumption) | assumption)
                             have q236 : x14_4 < (t216.length : Int) := of_decide_eq_true (by first | (with_reducible assumption) | assumption)
                             obtain ⟨ad236, e236, hx236_0⟩ := Kd.at_int (Kd.R_reads' HO_11.out).2.2 x14_4 p236 q236
                             cases e236
                             replace p236 := eq_true p236
                             replace q236 := eq_true q236
                             go_wp2_with (first | ((with_reducible refine gate_builtin (b := .append) (xs := #[.tmp 104, .tmp 106]) rfl ?_); at_builtin; refine Kd.R_append (Kd.int .i64) (w0 := w) w.heap.size rfl (.tmp 104) (.tmp 106) 124 3 (.int .i64 0) 8 rfl Try.underlying124 info3 rfl (by decide) (by omega) u13 x13_4 0 [.int .i64 0] (fun k_ => some k_ ≠ (.slice (some ad219) t213.length co53 : Value).ownBlock ∧ some k_ ≠ (.slice (some ad236) t216.length co77 : Value).ownBlock) (fun _ => False) rfl rfl ?aP (fun _ hk => hk.elim) ?aF ?aO ?aB ?aS ?aL ?_; (case aP => exact rfl); (case aB => exact (by repeat (first | (with_reducible first | exact HB.out | apply below_alloc | apply pw_below_drewN | apply below_drew1) | exact HB.out))); (case aF => exact (fun k_ hk => ⟨Kd.fresh' (Kd.R_lt (by (with_reducible repeat (first | apply Kd.R_alloc | apply Kd.R_drewN | apply Kd.R_drew)); exact HO_10.out)) k_ hk, Kd.fresh' (Kd.R_lt (by (with_reducible repeat (first | apply Kd.R_alloc | apply Kd.R_drewN | apply Kd.R_drew)); exact HO_11.out)) k_ hk⟩)); (case aO => exact (by (with_reducible repeat (first | apply Kd.R_alloc | apply Kd.R_drewN | apply Kd.R_drew)); exact HO_13.out)); (case aS => exact (below_size (by repeat (first | (with_reducible first | exact HB.out | apply below_alloc | apply pw_below_drewN | apply below_drew1) | exact HB.out)))); (case aL => have := LMc76.out; omega); intro v247 w78 ho hb hg hat; rw [← Ny246.out] at ho; have n0_ := Aside0.mk (Kd.R_after (ok := (fun k_ => some k_ ≠ (.slice (some ad236) t216.length co77 : Value).ownBlock)) (by (with_reducible repeat (first | apply Kd.R_alloc | apply Kd.R_drewN | apply Kd.R_drew)); exact HO_10.out) hg hat); have n1_ := Aside0.mk (Kd.R_after (ok := (fun k_ => some k_ ≠ (.slice (some ad219) t213.length co53 : Value).ownBlock)) (by (with_reducible repeat (first | apply Kd.R_alloc | apply Kd.R_drewN | apply Kd.R_drew)); exact HO_11.out) hg hat); have n2_ := Aside0.mk (hb); have n3_ := Aside0.mk (ho); clear HO_10; clear HO_11; clear HB; clear HO_13; have HO_10 := n0_; have HO_11 := n1_; have HB := n2_; have HO248 := n3_; clear n0_ n1_ n2_ n3_; clear ho hb hg hat))
                             repeat (go_quiet (first | ((with_reducible refine gate_builtin (b := .append) (xs := #[.tmp 104, .tmp 106]) rfl ?_); at_builtin; refine Kd.R_append (Kd.int .i64) (w0 := w) w.heap.size rfl (.tmp 104) (.tmp 106) 124 3 (.int .i64 0) 8 rfl Try.underlying124 info3 rfl (by decide) (by omega) u13 x13_4 0 [.int .i64 0] (fun k_ => some k_ ≠ (.slice (some ad219) t213.length co53 : Value).ownBlock ∧ some k_ ≠ (.slice (some ad236) t216.length co77 : Value).ownBlock) (fun _ => False) rfl rfl ?aP (fun _ hk => hk.elim) ?aF ?aO ?aB ?aS ?aL ?_; (case aP => exact rfl); (case aB => exact (by repeat (first | (with_reducible first | exact HB.out | apply below_alloc | apply pw_below_drewN | apply below_drew1) | exact HB.out))); (case aF => exact (fun k_ hk => ⟨Kd.fresh' (Kd.R_lt (by (with_reducible repeat (first | apply Kd.R_alloc | apply Kd.R_drewN | apply Kd.R_drew)); exact HO_10.out)) k_ hk, Kd.fresh' (Kd.R_lt (by (with_reducible repeat (first | apply Kd.R_alloc | apply Kd.R_drewN | apply Kd.R_drew)); exact HO_11.out)) k_ hk⟩)); (case aO => exact (by (with_reducible repeat (first | apply Kd.R_alloc | apply Kd.R_drewN | apply Kd.R_drew)); exact HO_13.out)); (case aS => exact (below_size (by repeat (first | (with_reducible first | exact HB.out | apply below_alloc | apply pw_below_drewN | apply below_drew1) | exact HB.out)))); (case aL => have := LMc76.out; omega); intro v247 w78 ho hb hg hat; rw [← Ny246.out] at ho; have n0_ := Aside0.mk (Kd.R_after (ok := (fun k_ => some k_ ≠ (.slice (some ad236) t216.length co77 : Value).ownBlock)) (by (with_reducible repeat (first | apply Kd.R_alloc | apply Kd.R_drewN | apply Kd.R_drew)); exact HO_10.out) hg hat); have n1_ := Aside0.mk (Kd.R_after (ok := (fun k_ => some k_ ≠ (.slice (some ad219) t213.length co53 : Value).ownBlock)) (by (with_reducible repeat (first | apply Kd.R_alloc | apply Kd.R_drewN | apply Kd.R_drew)); exact HO_11.out) hg hat); have n2_ := Aside0.mk (hb); have n3_ := Aside0.mk (ho); clear HO_10; clear HO_11; clear HB; clear HO_13; have HO_10 := n0_; have HO_11 := n1_; have HB := n2_; have HO248 := n3_; clear n0_ n1_ n2_ n3_; clear ho hb hg hat)); try go_wp2_with (first | ((with_reducible refine gate_builtin (b := .append) (xs := #[.tmp 104, .tmp 106]) rfl ?_); at_builtin; refine Kd.R_append (Kd.int .i64) (w0 := w) w.heap.size rfl (.tmp 104) (.tmp 106) 124 3 (.int .i64 0) 8 rfl Try.underlying124 info3 rfl (by decide) (by omega) u13 x13_4 0 [.int .i64 0] (fun k_ => some k_ ≠ (.slice (some ad219) t213.length co53 : Value).ownBlock ∧ some k_ ≠ (.slice (some ad236) t216.length co77 : Value).ownBlock) (fun _ => False) rfl rfl ?aP (fun _ hk => hk.elim) ?aF ?aO ?aB ?aS ?aL ?_; (case aP => exact rfl); (case aB => exact (by repeat (first | (with_reducible first | exact HB.out | apply below_alloc | apply pw_below_drewN | apply below_drew1) | exact HB.out))); (case aF => exact (fun k_ hk => ⟨Kd.fresh' (Kd.R_lt (by (with_reducible repeat (first | apply Kd.R_alloc | apply Kd.R_drewN | apply Kd.R_drew)); exact HO_10.out)) k_ hk, Kd.fresh' (Kd.R_lt (by (with_reducible repeat (first | apply Kd.R_alloc | apply Kd.R_drewN | apply Kd.R_drew)); exact HO_11.out)) k_ hk⟩)); (case aO => exact (by (with_reducible repeat (first | apply Kd.R_alloc | apply Kd.R_drewN | apply Kd.R_drew)); exact HO_13.out)); (case aS => exact (below_size (by repeat (first | (with_reducible first | exact HB.out | apply below_alloc | apply pw_below_drewN | apply below_drew1) | exact HB.out)))); (case aL => have := LMc76.out; omega); intro v247 w78 ho hb hg hat; rw [← Ny246.out] at ho; have n0_ := Aside0.mk (Kd.R_after (ok := (fun k_ => some k_ ≠ (.slice (some ad236) t216.length co77 : Value).ownBlock)) (by (with_reducible repeat (first | apply Kd.R_alloc | apply Kd.R_drewN | apply Kd.R_drew)); exact HO_10.out) hg hat); have n1_ := Aside0.mk (Kd.R_after (ok := (fun k_ => some k_ ≠ (.slice (some ad219) t213.length co53 : Value).ownBlock)) (by (with_reducible repeat (first | apply Kd.R_alloc | apply Kd.R_drewN | apply Kd.R_drew)); exact HO_11.out) hg hat); have n2_ := Aside0.mk (hb); have n3_ := Aside0.mk (ho); clear HO_10; clear HO_11; clear HB; clear HO_13; have HO_10 := n0_; have HO_11 := n1_; have HB := n2_; have HO248 := n3_; clear n0_ n1_ n2_ n3_; clear ho hb hg hat)))
                             go_roundg k4
                             case measure => have := HJ6.out; have := HJ9.out; have := HJ49.out; have := HK4.out; omega
                             case rel => exact ⟨(y246), (wrap64 (x14_4 + 1)), (by first | rfl | (simp; done) | (simp [*]; done)), H', ⟨by have := HJ6.out; have := HJ9.out; have := HJ49.out; have := HK4.out; omega⟩, ⟨by (with_reducible repeat (first | apply Kd.R_alloc | apply Kd.R_drewN | apply Kd.R_drew)); exact HO_10.out⟩, ⟨by (with_reducible repeat (first | apply Kd.R_alloc | apply Kd.R_drewN | apply Kd.R_drew)); exact HO_11.out⟩, ⟨by (with_reducible repeat (first | apply Kd.R_alloc | apply Kd.R_drewN | apply Kd.R_drew)); exact HO248.out⟩, ⟨by repeat (first | (with_reducible first | exact HB.out | apply below_alloc | apply pw_below_drewN | apply below_drew1) | exact HB.out)⟩⟩
                            ·rw [if_neg c76] at H
                             exact absurd H (by simp)
                          ·rw [if_neg c71] at H
                           have c71b0 : (a0 == 10) = false := beq_eq_false_iff_ne.mpr c71
                           have c71b1 : (a0 != 10) = true := bne_iff_ne.mpr c71
                           by_cases c79 : x13_4.length < 17592186044416
                           ·rw [if_pos c79] at H
                            have LMc79 := Aside0.mk c79
                            clear c79
                            obtain ⟨y249, hy249⟩ : ∃ y_ : List Int, y_ = (x13_4 ++ [0]) := ⟨_, rfl⟩
                            replace H : (retargetref01_Binary.l0 k4 a0 a1 t213 t216 y249 (wrap64 (x14_4 + 1))) = some (r1, r2) := by first | (rw [hy249]; with_reducible exact H) | (have H2_ := (Option.bind_some _ _).symm.trans H; rw [hy249]; with_reducible exact H2_) | (have H2_ := (Option.bind_some _ _).symm.trans H; with_reducible exact H2_) | with_reducible exact H | (rw [hy249]; exact H) | exact H
                            have Ny249 := Aside0.mk hy249
                            clear hy249
                            have H' := Aside0.mk H
                            clear H
                            have p235 : 0 ≤ (x14_4 : Int) := of_decide_eq_true (by first | (with_reducible assumption) | assumption)
                            have q235 : x14_4 < (t213.length : Int) := of_decide_eq_true (by first | (with_reducible assumption) | assumption)
                            obtain ⟨ad235, e235, hx235_0⟩ := Kd.at_int (Kd.R_reads' HO_10.out).2.2 x14_4 p235 q235
                            obtain rfl : ad219 = ad235 := (by injection e235)
                            replace p235 := eq_true p235
                            replace q235 := eq_true q235
                            obtain ⟨Ao80, co80, eo80⟩ := Kd.R_slice HO_11.out
                            subst eo80
                            have p236 : 0 ≤ (x14_4 : Int) := of_decide_eq_true (by first | (with_reducible assumption) | assumption)
                            have q236 : x14_4 < (t216.length : Int) := of_decide_eq_true (by first | (with_reducible assumption) | assumption)
                            obtain ⟨ad236, e236, hx236_0⟩ := Kd.at_int (Kd.R_reads' HO_11.out).2.2 x14_4 p236 q236
                            cases e236
                            replace p236 := eq_true p236
                            replace q236 := eq_true q236
                            go_wp2_with (first | ((with_reducible refine gate_builtin (b := .append) (xs := #[.tmp 104, .tmp 106]) rfl ?_); at_builtin; refine Kd.R_append (Kd.int .i64) (w0 := w) w.heap.size rfl (.tmp 104) (.tmp 106) 124 3 (.int .i64 0) 8 rfl Try.underlying124 info3 rfl (by decide) (by omega) u13 x13_4 0 [.int .i64 0] (fun k_ => some k_ ≠ (.slice (some ad219) t213.length co53 : Value).ownBlock ∧ some k_ ≠ (.slice (some ad236) t216.length co80 : Value).ownBlock) (fun _ => False) rfl rfl ?aP (fun _ hk => hk.elim) ?aF ?aO ?aB ?aS ?aL ?_; (case aP => exact rfl); (case aB => exact (by repeat (first | (with_reducible first | exact HB.out | apply below_alloc | apply pw_below_drewN | apply below_drew1) | exact HB.out))); (case aF => exact (fun k_ hk => ⟨Kd.fresh' (Kd.R_lt (by (with_reducible repeat (first | apply Kd.R_alloc | apply Kd.R_drewN | apply Kd.R_drew)); exact HO_10.out)) k_ hk, Kd.fresh' (Kd.R_lt (by (with_reducible repeat (first | apply Kd.R_alloc | apply Kd.R_drewN | apply Kd.R_drew)); exact HO_11.out)) k_ hk⟩)); (case aO => exact (by (with_reducible repeat (first | apply Kd.R_alloc | apply Kd.R_drewN | apply Kd.R_drew)); exact HO_13.out)); (case aS => exact (below_size (by repeat (first | (with_reducible first | exact HB.out | apply below_alloc | apply pw_below_drewN | apply below_drew1) | exact HB.out)))); (case aL => have := LMc79.out; omega); intro v250 w81 ho hb hg hat; rw [← Ny249.out] at ho; have n0_ := Aside0.mk (Kd.R_after (ok := (fun k_ => some k_ ≠ (.slice (some ad236) t216.length co80 : Value).ownBlock)) (by (with_reducible repeat (first | apply Kd.R_alloc | apply Kd.R_drewN | apply Kd.R_drew)); exact HO_10.out) hg hat); have n1_ := Aside0.mk (Kd.R_after (ok := (fun k_ => some k_ ≠ (.slice (some ad219) t213.length co53 : Value).ownBlock)) (by (with_reducible repeat (first | apply Kd.R_alloc | apply Kd.R_drewN | apply Kd.R_drew)); exact HO_11.out) hg hat); have n2_ := Aside0.mk (hb); have n3_ := Aside0.mk (ho); clear HO_10; clear HO_11; clear HB; clear HO_13; have HO_10 := n0_; have HO_11 := n1_; have HB := n2_; have HO251 := n3_; clear n0_ n1_ n2_ n3_; clear ho hb hg hat))
                            repeat (go_quiet (first | ((with_reducible refine gate_builtin (b := .append) (xs := #[.tmp 104, .tmp 106]) rfl ?_); at_builtin; refine Kd.R_append (Kd.int .i64) (w0 := w) w.heap.size rfl (.tmp 104) (.tmp 106) 124 3 (.int .i64 0) 8 rfl Try.underlying124 info3 rfl (by decide) (by omega) u13 x13_4 0 [.int .i64 0] (fun k_ => some k_ ≠ (.slice (some ad219) t213.length co53 : Value).ownBlock ∧ some k_ ≠ (.slice (some ad236) t216.length co80 : Value).ownBlock) (fun _ => False) rfl rfl ?aP (fun _ hk => hk.elim) ?aF ?aO ?aB ?aS ?aL ?_; (case aP => exact rfl); (case aB => exact (by repeat (first | (with_reducible first | exact HB.out | apply below_alloc | apply pw_below_drewN | apply below_drew1) | exact HB.out))); (case aF => exact (fun k_ hk => ⟨Kd.fresh' (Kd.R_lt (by (with_reducible repeat (first | apply Kd.R_alloc | apply Kd.R_drewN | apply Kd.R_drew)); exact HO_10.out)) k_ hk, Kd.fresh' (Kd.R_lt (by (with_reducible repeat (first | apply Kd.R_alloc | apply Kd.R_drewN | apply Kd.R_drew)); exact HO_11.out)) k_ hk⟩)); (case aO => exact (by (with_reducible repeat (first | apply Kd.R_alloc | apply Kd.R_drewN | apply Kd.R_drew)); exact HO_13.out)); (case aS => exact (below_size (by repeat (first | (with_reducible first | exact HB.out | apply below_alloc | apply pw_below_drewN | apply below_drew1) | exact HB.out)))); (case aL => have := LMc79.out; omega); intro v250 w81 ho hb hg hat; rw [← Ny249.out] at ho; have n0_ := Aside0.mk (Kd.R_after (ok := (fun k_ => some k_ ≠ (.slice (some ad236) t216.length co80 : Value).ownBlock)) (by (with_reducible repeat (first | apply Kd.R_alloc | apply Kd.R_drewN | apply Kd.R_drew)); exact HO_10.out) hg hat); have n1_ := Aside0.mk (Kd.R_after (ok := (fun k_ => some k_ ≠ (.slice (some ad219) t213.length co53 : Value).ownBlock)) (by (with_reducible repeat (first | apply Kd.R_alloc | apply Kd.R_drewN | apply Kd.R_drew)); exact HO_11.out) hg hat); have n2_ := Aside0.mk (hb); have n3_ := Aside0.mk (ho); clear HO_10; clear HO_11; clear HB; clear HO_13; have HO_10 := n0_; have HO_11 := n1_; have HB := n2_; have HO251 := n3_; clear n0_ n1_ n2_ n3_; clear ho hb hg hat)); try go_wp2_with (first | ((with_reducible refine gate_builtin (b := .append) (xs := #[.tmp 104, .tmp 106]) rfl ?_); at_builtin; refine Kd.R_append (Kd.int .i64) (w0 := w) w.heap.size rfl (.tmp 104) (.tmp 106) 124 3 (.int .i64 0) 8 rfl Try.underlying124 info3 rfl (by decide) (by omega) u13 x13_4 0 [.int .i64 0] (fun k_ => some k_ ≠ (.slice (some ad219) t213.length co53 : Value).ownBlock ∧ some k_ ≠ (.slice (some ad236) t216.length co80 : Value).ownBlock) (fun _ => False) rfl rfl ?aP (fun _ hk => hk.elim) ?aF ?aO ?aB ?aS ?aL ?_; (case aP => exact rfl); (case aB => exact (by repeat (first | (with_reducible first | exact HB.out | apply below_alloc | apply pw_below_drewN | apply below_drew1) | exact HB.out))); (case aF => exact (fun k_ hk => ⟨Kd.fresh' (Kd.R_lt (by (with_reducible repeat (first | apply Kd.R_alloc | apply Kd.R_drewN | apply Kd.R_drew)); exact HO_10.out)) k_ hk, Kd.fresh' (Kd.R_lt (by (with_reducible repeat (first | apply Kd.R_alloc | apply Kd.R_drewN | apply Kd.R_drew)); exact HO_11.out)) k_ hk⟩)); (case aO => exact (by (with_reducible repeat (first | apply Kd.R_alloc | apply Kd.R_drewN | apply Kd.R_drew)); exact HO_13.out)); (case aS => exact (below_size (by repeat (first | (with_reducible first | exact HB.out | apply below_alloc | apply pw_below_drewN | apply below_drew1) | exact HB.out)))); (case aL => have := LMc79.out; omega); intro v250 w81 ho hb hg hat; rw [← Ny249.out] at ho; have n0_ := Aside0.mk (Kd.R_after (ok := (fun k_ => some k_ ≠ (.slice (some ad236) t216.length co80 : Value).ownBlock)) (by (with_reducible repeat (first | apply Kd.R_alloc | apply Kd.R_drewN | apply Kd.R_drew)); exact HO_10.out) hg hat); have n1_ := Aside0.mk (Kd.R_after (ok := (fun k_ => some k_ ≠ (.slice (some ad219) t213.length co53 : Value).ownBlock)) (by (with_reducible repeat (first | apply Kd.R_alloc | apply Kd.R_drewN | apply Kd.R_drew)); exact HO_11.out) hg hat); have n2_ := Aside0.mk (hb); have n3_ := Aside0.mk (ho); clear HO_10; clear HO_11; clear HB; clear HO_13; have HO_10 := n0_; have HO_11 := n1_; have HB := n2_; have HO251 := n3_; clear n0_ n1_ n2_ n3_; clear ho hb hg hat)))
                            go_roundg k4
                            case measure => have := HJ6.out; have := HJ9.out; have := HJ49.out; have := HK4.out; omega
                            case rel => exact ⟨(y249), (wrap64 (x14_4 + 1)), (by first | rfl | (simp; done) | (simp [*]; done)), H', ⟨by have := HJ6.out; have := HJ9.out; have := HJ49.out; have := HK4.out; omega⟩, ⟨by (with_reducible repeat (first | apply Kd.R_alloc | apply Kd.R_drewN | apply Kd.R_drew)); exact HO_10.out⟩, ⟨by (with_reducible repeat (first | apply Kd.R_alloc | apply Kd.R_drewN | apply Kd.R_drew)); exact HO_11.out⟩, ⟨by (with_reducible repeat (first | apply Kd.R_alloc | apply Kd.R_drewN | apply Kd.R_drew)); exact HO251.out⟩, ⟨by repeat (first | (with_reducible first | exact HB.out | apply below_alloc | apply pw_below_drewN | apply below_drew1) | exact HB.out)⟩⟩
                           ·rw [if_neg c79] at H
                            exact absurd H (by simp)
                        ·rw [if_neg c66] at H
                         have c66b0 : (a0 == 9) = false := beq_eq_false_iff_ne.mpr c66
                         have c66b1 : (a0 != 9) = true := bne_iff_ne.mpr c66
                         by_cases c82 : a0 = 10
                         ·rw [if_pos c82] at H
                          have c82b0 : (a0 == 10) = true := beq_iff_eq.mpr c82
                          have c82b1 : (a0 != 10) = false := bne_eq_false_iff_eq.mpr c82
                          clear c82
                          by_cases c83 : (wrap64 ((rd t213 x14_4) + (rd t216 x14_4))) = 1
                          ·rw [if_pos c83] at H
                           have c83b0 : ((wrap64 ((rd t213 x14_4) + (rd t216 x14_4))) == 1) = true := beq_iff_eq.mpr c83
                           have c83b1 : ((wrap64 ((rd t213 x14_4) + (rd t216 x14_4))) != 1) = false := bne_eq_false_iff_eq.mpr c83
                           clear c83
                           by_cases c84 : x13_4.length < 17592186044416
                           ·rw [if_pos c84] at H
                            have LMc84 := Aside0.mk c84
                            clear c84
                            obtain ⟨y252, hy252⟩ : ∃ y_ : List Int, y_ = (x13_4 ++ [1]) := ⟨_, rfl⟩
                            replace H : (retargetref01_Binary.l0 k4 a0 a1 t213 t216 y252 (wrap64 (x14_4 + 1))) = some (r1, r2) := by first | (rw [hy252]; with_reducible exact H) | (have H2_ := (Option.bind_some _ _).symm.trans H; rw [hy252]; with_reducible exact H2_) | (have H2_ := (Option.bind_some _ _).symm.trans H; with_reducible exact H2_) | with_reducible exact H | (rw [hy252]; exact H) | exact H
                            have Ny252 := Aside0.mk hy252
                            clear hy252
                            have H' := Aside0.mk H
                            clear H
                            have p235 : 0 ≤ (x14_4 : Int) := of_decide_eq_true (by first | (with_reducible assumption) | assumption)
                            have q235 : x14_4 < (t213.length : Int) := of_decide_eq_true (by first | (with_reducible assumption) | assumption)
                            obtain ⟨ad235, e235, hx235_0⟩ := Kd.at_int (Kd.R_reads' HO_10.out).2.2 x14_4 p235 q235
                            obtain rfl : ad219 = ad235 := (by injection e235)
                            replace p235 := eq_true p235
                            replace q235 := eq_true q235
                            obtain ⟨Ao85, co85, eo85⟩ := Kd.R_slice HO_11.out
                            subst eo85
                            have p236 : 0 ≤ (x14_4 : Int) := of_decide_eq_true (by first | (with_reducible assumption) | assumption)
                            have q236 : x14_4 < (t216.length : Int) := of_decide_eq_true (by first | (with_reducible assumption) | assumption)
                            obtain ⟨ad236, e236, hx236_0⟩ := Kd.at_int (Kd.R_reads' HO_11.out).2.2 x14_4 p236 q236
                            cases e236
                            replace p236 := eq_true p236
                            replace q236 := eq_true q236
                            go_wp2_with (first | ((with_reducible refine gate_builtin (b := .append) (xs := #[.tmp 104, .tmp 106]) rfl ?_); at_builtin; refine Kd.R_append (Kd.int .i64) (w0 := w) w.heap.size rfl (.tmp 104) (.tmp 106) 124 3 (.int .i64 0) 8 rfl Try.underlying124 info3 rfl (by decide) (by omega) u13 x13_4 1 [.int .i64 1] (fun k_ => some k_ ≠ (.slice (some ad219) t213.length co53 : Value).ownBlock ∧ some k_ ≠ (.slice (some ad236) t216.length co85 : Value).ownBlock) (fun _ => False) rfl rfl ?aP (fun _ hk => hk.elim) ?aF ?aO ?aB ?aS ?aL ?_; (case aP => exact rfl); (case aB => exact (by repeat (first | (with_reducible first | exact HB.out | apply below_alloc | apply pw_below_drewN | apply below_drew1) | exact HB.out))); (case aF => exact (fun k_ hk => ⟨Kd.fresh' (Kd.R_lt (by (with_reducible repeat (first | apply Kd.R_alloc | apply Kd.R_drewN | apply Kd.R_drew)); exact HO_10.out)) k_ hk, Kd.fresh' (Kd.R_lt (by (with_reducible repeat (first | apply Kd.R_alloc | apply Kd.R_drewN | apply Kd.R_drew)); exact HO_11.out)) k_ hk⟩)); (case aO => exact (by (with_reducible repeat (first | apply Kd.R_alloc | apply Kd.R_drewN | apply Kd.R_drew)); exact HO_13.out)); (case aS => exact (below_size (by repeat (first | (with_reducible first | exact HB.out | apply below_alloc | apply pw_below_drewN | apply below_drew1) | exact HB.out)))); (case aL => have := LMc84.out; omega); intro v253 w86 ho hb hg hat; rw [← Ny252.out] at ho; have n0_ := Aside0.mk (Kd.R_after (ok := (fun k_ => some k_ ≠ (.slice (some ad236) t216.length co85 : Value).ownBlock)) (by (with_reducible repeat (first | apply Kd.R_alloc | apply Kd.R_drewN | apply Kd.R_drew)); exact HO_10.out) hg hat); have n1_ := Aside0.mk (Kd.R_after (ok := (fun k_ => some k_ ≠ (.slice (some ad219) t213.length co53 : Value).ownBlock)) (by (with_reducible repeat (first | apply Kd.R_alloc | apply Kd.R_drewN | apply Kd.R_drew)); exact HO_11.out) hg hat); have n2_ := Aside0.mk (hb); have n3_ := Aside0.mk (ho); clear HO_10; clear HO_11; clear HB; clear HO_13; have HO_10 := n0_; have HO_11 := n1_; have HB := n2_; have HO254 := n3_; clear n0_ n1_ n2_ n3_; clear ho hb hg hat))
                            repeat (go_quiet (first | ((with_reducible refine gate_builtin (b := .append) (xs := #[.tmp 104, .tmp 106]) rfl ?_); at_builtin; refine Kd.R_append (Kd.int .i64) (w0 := w) w.heap.size rfl (.tmp 104) (.tmp 106) 124 3 (.int .i64 0) 8 rfl Try.underlying124 info3 rfl (by decide) (by omega) u13 x13_4 1 [.int .i64 1] (fun k_ => some k_ ≠ (.slice (some ad219) t213.length co53 : Value).ownBlock ∧ some k_ ≠ (.slice (some ad236) t216.length co85 : Value).ownBlock) (fun _ => False) rfl rfl ?aP (fun _ hk => hk.elim) ?aF ?aO ?aB ?aS ?aL ?_; (case aP => exact rfl); (case aB => exact (by repeat (first | (with_reducible first | exact HB.out | apply below_alloc | apply pw_below_drewN | apply below_drew1) | exact HB.out))); (case aF => exact (fun k_ hk => ⟨Kd.fresh' (Kd.R_lt (by (with_reducible repeat (first | apply Kd.R_alloc | apply Kd.R_drewN | apply Kd.R_drew)); exact HO_10.out)) k_ hk, Kd.fresh' (Kd.R_lt (by (with_reducible repeat (first | apply Kd.R_alloc | apply Kd.R_drewN | apply Kd.R_drew)); exact HO_11.out)) k_ hk⟩)); (case aO => exact (by (with_reducible repeat (first | apply Kd.R_alloc | apply Kd.R_drewN | apply Kd.R_drew)); exact HO_13.out)); (case aS => exact (below_size (by repeat (first | (with_reducible first | exact HB.out | apply below_alloc | apply pw_below_drewN | apply below_drew1) | exact HB.out)))); (case aL => have := LMc84.out; omega); intro v253 w86 ho hb hg hat; rw [← Ny252.out] at ho; have n0_ := Aside0.mk (Kd.R_after (ok := (fun k_ => some k_ ≠ (.slice (some ad236) t216.length co85 : Value).ownBlock)) (by (with_reducible repeat (first | apply Kd.R_alloc | apply Kd.R_drewN | apply Kd.R_drew)); exact HO_10.out) hg hat); have n1_ := Aside0.mk (Kd.R_after (ok := (fun k_ => some k_ ≠ (.slice (some ad219) t213.length co53 : Value).ownBlock)) (by (with_reducible repeat (first | apply Kd.R_alloc | apply Kd.R_drewN | apply Kd.R_drew)); exact HO_11.out) hg hat); have n2_ := Aside0.mk (hb); have n3_ := Aside0.mk (ho); clear HO_10; clear HO_11; clear HB; clear HO_13; have HO_10 := n0_; have HO_11 := n1_; have HB := n2_; have HO254 := n3_; clear n0_ n1_ n2_ n3_; clear ho hb hg hat)); try go_wp2_with (first | ((with_reducible refine gate_builtin (b := .append) (xs := #[.tmp 104, .tmp 106]) rfl ?_); at_builtin; refine Kd.R_append (Kd.int .i64) (w0 := w) w.heap.size rfl (.tmp 104) (.tmp 106) 124 3 (.int .i64 0) 8 rfl Try.underlying124 info3 rfl (by decide) (by omega) u13 x13_4 1 [.int .i64 1] (fun k_ => some k_ ≠ (.slice (some ad219) t213.length co53 : Value).ownBlock ∧ some k_ ≠ (.slice (some ad236) t216.length co85 : Value).ownBlock) (fun _ => False) rfl rfl ?aP (fun _ hk => hk.elim) ?aF ?aO ?aB ?aS ?aL ?_; (case aP => exact rfl); (case aB => exact (by repeat (first | (with_reducible first | exact HB.out | apply below_alloc | apply pw_below_drewN | apply below_drew1) | exact HB.out))); (case aF => exact (fun k_ hk => ⟨Kd.fresh' (Kd.R_lt (by (with_reducible repeat (first | apply Kd.R_alloc | apply Kd.R_drewN | apply Kd.R_drew)); exact HO_10.out)) k_ hk, Kd.fresh' (Kd.R_lt (by (with_reducible repeat (first | apply Kd.R_alloc | apply Kd.R_drewN | apply Kd.R_drew)); exact HO_11.out)) k_ hk⟩)); (case aO => exact (by (with_reducible repeat (first | apply Kd.R_alloc | apply Kd.R_drewN | apply Kd.R_drew)); exact HO_13.out)); (case aS => exact (below_size (by repeat (first | (with_reducible first | exact HB.out | apply below_alloc | apply pw_below_drewN | apply below_drew1) | exact HB.out)))); (case aL => have := LMc84.out; omega); intro v253 w86 ho hb hg hat; rw [← Ny252.out] at ho; have n0_ := Aside0.mk (Kd.R_after (ok := (fun k_ => some k_ ≠ (.slice (some ad236) t216.length co85 : Value).ownBlock)) (by (with_reducible repeat (first | apply Kd.R_alloc | apply Kd.R_drewN | apply Kd.R_drew)); exact HO_10.out) hg hat); have n1_ := Aside0.mk (Kd.R_after (ok := (fun k_ => some k_ ≠ (.slice (some ad219) t213.length co53 : Value).ownBlock)) (by (with_reducible repeat (first | apply Kd.R_alloc | apply Kd.R_drewN | apply Kd.R_drew)); exact HO_11.out) hg hat); have n2_ := Aside0.mk (hb); have n3_ := Aside0.mk (ho); clear HO_10; clear HO_11; clear HB; clear HO_13; have HO_10 := n0_; have HO_11 := n1_; have HB := n2_; have HO254 := n3_; clear n0_ n1_ n2_ n3_; clear ho hb hg hat)))
                            go_roundg k4
                            case measure => have := HJ6.out; have := HJ9.out; have := HJ49.out; have := HK4.out; omega
                            case rel => exact ⟨(y252), (wrap64 (x14_4 + 1)), (by first | rfl | (simp; done) | (simp [*]; done)), H', ⟨by have := HJ6.out; have := HJ9.out; have := HJ49.out; have := HK4.out; omega⟩, ⟨by (with_reducible repeat (first | apply Kd.R_alloc | apply Kd.R_drewN | apply Kd.R_drew)); exact HO_10.out⟩, ⟨by (with_reducible repeat (first | apply Kd.R_alloc | apply Kd.R_drewN | apply Kd.R_drew)); exact HO_11.out⟩, ⟨by (with_reducible repeat (first | apply Kd.R_alloc | apply Kd.R_drewN | apply Kd.R_drew)); exact HO254.out⟩, ⟨by repeat (first | (with_reducible first | exact HB.out | apply below_alloc | apply pw_below_drewN | apply below_drew1) | exact HB.out)⟩⟩
                           ·rw [if_neg c84] at H
                            exact absurd H (by simp)
                          ·rw [if_neg c83] at H
                           have c83b0 : ((wrap64 ((rd t213 x14_4) + (rd t216 x14_4))) == 1) = false := beq_eq_false_iff_ne.mpr c83
                           have c83b1 : ((wrap64 ((rd t213 x14_4) + (rd t216 x14_4))) != 1) = true := bne_iff_ne.mpr c83
                           by_cases c87 : x13_4.length < 17592186044416
                           ·rw [if_pos c87] at H
                            have LMc87 := Aside0.mk c87
                            clear c87
                            obtain ⟨y255, hy255⟩ : ∃ y_ : List Int, y_ = (x13_4 ++ [0]) := ⟨_, rfl⟩
                            replace H : (retargetref01_Binary.l0 k4 a0 a1 t213 t216 y255 (wrap64 (x14_4 + 1))) = some (r1, r2) := by first | (rw [hy255]; with_reducible exact H) | (have H2_ := (Option.bind_some _ _).symm.trans H; rw [hy255]; with_reducible exact H2_) | (have H2_ := (Option.bind_some _ _).symm.trans H; with_reducible exact H2_) | with_reducible exact H | (rw [hy255]; exact H) | exact H
                            have Ny255 := Aside0.mk hy255
                            clear hy255
                            have H' := Aside0.mk H
                            clear H
                            have p235 : 0 ≤ (x14_4 : Int) := of_decide_eq_true (by first | (with_reducible assumption) | assumption)
                            have q235 : x14_4 < (t213.length : Int) := of_decide_eq_true (by first | (with_reducible assumption) | assumption)
                            obtain ⟨ad235, e235, hx235_0⟩ := Kd.at_int (Kd.R_reads' HO_10.out).2.2 x14_4 p235 q235
                            obtain rfl : ad219 = ad235 := (by injection e235)
                            replace p235 := eq_true p235
                            replace q235 := eq_true q235
                            obtain ⟨Ao88, co88, eo88⟩ := Kd.R_slice HO_11.out
                            subst eo88
                            have p236 : 0 ≤ (x14_4 : Int) := of_decide_eq_true (by first | (with_reducible assumption) | assumption)
                            have q236 : x14_4 < (t216.length : Int) := of_decide_eq_true (by first | (with_reducible assumption) | assumption)
                            obtain ⟨ad236, e236, hx236_0⟩ := Kd.at_int (Kd.R_reads' HO_11.out).2.2 x14_4 p236 q236
                            cases e236
                            replace p236 := eq_true p236
                            replace q236 := eq_true q236
                            go_wp2_with (first | ((with_reducible refine gate_builtin (b := .append) (xs := #[.tmp 104, .tmp 106]) rfl ?_); at_builtin; refine Kd.R_append (Kd.int .i64) (w0 := w) w.heap.size rfl (.tmp 104) (.tmp 106) 124 3 (.int .i64 0) 8 rfl Try.underlying124 info3 rfl (by decide) (by omega) u13 x13_4 0 [.int .i64 0] (fun k_ => some k_ ≠ (.slice (some ad219) t213.length co53 : Value).ownBlock ∧ some k_ ≠ (.slice (some ad236) t216.length co88 : Value).ownBlock) (fun _ => False) rfl rfl ?aP (fun _ hk => hk.elim) ?aF ?aO ?aB ?aS ?aL ?_; (case aP => exact rfl); (case aB => exact (by repeat (first | (with_reducible first | exact HB.out | apply below_alloc | apply pw_below_drewN | apply below_drew1) | exact HB.out))); (case aF => exact (fun k_ hk => ⟨Kd.fresh' (Kd.R_lt (by (with_reducible repeat (first | apply Kd.R_alloc | apply Kd.R_drewN | apply Kd.R_drew)); exact HO_10.out)) k_ hk, Kd.fresh' (Kd.R_lt (by (with_reducible repeat (first | apply Kd.R_alloc | apply Kd.R_drewN | apply Kd.R_drew)); exact HO_11.out)) k_ hk⟩)); (case aO => exact (by (with_reducible repeat (first | apply Kd.R_alloc | apply Kd.R_drewN | apply Kd.R_drew)); exact HO_13.out)); (case aS => exact (below_size (by repeat (first | (with_reducible first | exact HB.out | apply below_alloc | apply pw_below_drewN | apply below_drew1) | exact HB.out)))); (case aL => have := LMc87.out; omega); intro v256 w89 ho hb hg hat; rw [← Ny255.out] at ho; have n0_ := Aside0.mk (Kd.R_after (ok := (fun k_ => some k_ ≠ (.slice (some ad236) t216.length co88 : Value).ownBlock)) (by (with_reducible repeat (first | apply Kd.R_alloc | apply Kd.R_drewN | apply Kd.R_drew)); exact HO_10.out) hg hat); have n1_ := Aside0.mk (Kd.R_after (ok := (fun k_ => some k_ ≠ (.slice (some ad219) t213.length co53 : Value).ownBlock)) (by (with_reducible repeat (first | apply Kd.R_alloc | apply Kd.R_drewN | apply Kd.R_drew)); exact HO_11.out) hg hat); have n2_ := Aside0.mk (hb); have n3_ := Aside0.mk (ho); clear HO_10; clear HO_11; clear HB; clear HO_13; have HO_10 := n0_; have HO_11 := n1_; have HB := n2_; have HO257 := n3_; clear n0_ n1_ n2_ n3_; clear ho hb hg hat))
                            repeat (go_quiet (first | ((with_reducible refine gate_builtin (b := .append) (xs := #[.tmp 104, .tmp 106]) rfl ?_); at_builtin; refine Kd.R_append (Kd.int .i64) (w0 := w) w.heap.size rfl (.tmp 104) (.tmp 106) 124 3 (.int .i64 0) 8 rfl Try.underlying124 info3 rfl (by decide) (by omega) u13 x13_4 0 [.int .i64 0] (fun k_ => some k_ ≠ (.slice (some ad219) t213.length co53 : Value).ownBlock ∧ some k_ ≠ (.slice (some ad236) t216.length co88 : Value).ownBlock) (fun _ => False) rfl rfl ?aP (fun _ hk => hk.elim) ?aF ?aO ?aB ?aS ?aL ?_; (case aP => exact rfl); (case aB => exact (by repeat (first | (with_reducible first | exact HB.out | apply below_alloc | apply pw_below_drewN | apply below_drew1) | exact HB.out))); (case aF => exact (fun k_ hk => ⟨Kd.fresh' (Kd.R_lt (by (with_reducible repeat (first | apply Kd.R_alloc | apply Kd.R_drewN | apply Kd.R_drew)); exact HO_10.out)) k_ hk, Kd.fresh' (Kd.R_lt (by (with_reducible repeat (first | apply Kd.R_alloc | apply Kd.R_drewN | apply Kd.R_drew)); exact HO_11.out)) k_ hk⟩)); (case aO => exact (by (with_reducible repeat (first | apply Kd.R_alloc | apply Kd.R_drewN | apply Kd.R_drew)); exact HO_13.out)); (case aS => exact (below_size (by repeat (first | (with_reducible first | exact HB.out | apply below_alloc | apply pw_below_drewN | apply below_drew1) | exact HB.out)))); (case aL => have := LMc87.out; omega); intro v256 w89 ho hb hg hat; rw [← Ny255.out] at ho; have n0_ := Aside0.mk (Kd.R_after (ok := (fun k_ => some k_ ≠ (.slice (some ad236) t216.length co88 : Value).ownBlock)) (by (with_reducible repeat (first | apply Kd.R_alloc | apply Kd.R_drewN | apply Kd.R_drew)); exact HO_10.out) hg hat); have n1_ := Aside0.mk (Kd.R_after (ok := (fun k_ => some k_ ≠ (.slice (some ad219) t213.length co53 : Value).ownBlock)) (by (with_reducible repeat (first | apply Kd.R_alloc | apply Kd.R_drewN | apply Kd.R_drew)); exact HO_11.out) hg hat); have n2_ := Aside0.mk (hb); have n3_ := Aside0.mk (ho); clear HO_10; clear HO_11; clear HB; clear HO_13; have HO_10 := n0_; have HO_11 := n1_; have HB := n2_; have HO257 := n3_; clear n0_ n1_ n2_ n3_; clear ho hb hg hat)); try go_wp2_with (first | ((with_reducible refine gate_builtin (b := .append) (xs := #[.tmp 104, .tmp 106]) rfl ?_); at_builtin; refine Kd.R_append (Kd.int .i64) (w0 := w) w.heap.size rfl (.tmp 104) (.tmp 106) 124 3 (.int .i64 0) 8 rfl Try.underlying124 info3 rfl (by decide) (by omega) u13 x13_4 0 [.int .i64 0] (fun k_ => some k_ ≠ (.slice (some ad219) t213.length co53 : Value).ownBlock ∧ some k_ ≠ (.slice (some ad236) t216.length co88 : Value).ownBlock) (fun _ => False) rfl rfl ?aP (fun _ hk => hk.elim) ?aF ?aO ?aB ?aS ?aL ?_; (case aP => exact rfl); (case aB => exact (by repeat (first | (with_reducible first | exact HB.out | apply below_alloc | apply pw_below_drewN | apply below_drew1) | exact HB.out))); (case aF => exact (fun k_ hk => ⟨Kd.fresh' (Kd.R_lt (by (with_reducible repeat (first | apply Kd.R_alloc | apply Kd.R_drewN | apply Kd.R_drew)); exact HO_10.out)) k_ hk, Kd.fresh' (Kd.R_lt (by (with_reducible repeat (first | apply Kd.R_alloc | apply Kd.R_drewN | apply Kd.R_drew)); exact HO_11.out)) k_ hk⟩)); (case aO => exact (by (with_reducible repeat (first | apply Kd.R_alloc | apply Kd.R_drewN | apply Kd.R_drew)); exact HO_13.out)); (case aS => exact (below_size (by repeat (first | (with_reducible first | exact HB.out | apply below_alloc | apply pw_below_drewN | apply below_drew1) | exact HB.out)))); (case aL => have := LMc87.out; omega); intro v256 w89 ho hb hg hat; rw [← Ny255.out] at ho; have n0_ := Aside0.mk (Kd.R_after (ok := (fun k_ => some k_ ≠ (.slice (some ad236) t216.length co88 : Value).ownBlock)) (by (with_reducible repeat (first | apply Kd.R_alloc | apply Kd.R_drewN | apply Kd.R_drew)); exact HO_10.out) hg hat); have n1_ := Aside0.mk (Kd.R_after (ok := (fun k_ => some k_ ≠ (.slice (some ad219) t213.length co53 : Value).ownBlock)) (by (with_reducible repeat (first | apply Kd.R_alloc | apply Kd.R_drewN | apply Kd.R_drew)); exact HO_11.out) hg hat); have n2_ := Aside0.mk (hb); have n3_ := Aside0.mk (ho); clear HO_10; clear HO_11; clear HB; clear HO_13; have HO_10 := n0_; have HO_11 := n1_; have HB := n2_; have HO257 := n3_; clear n0_ n1_ n2_ n3_; clear ho hb hg hat)))
                            go_roundg k4
                            case measure => have := HJ6.out; have := HJ9.out; have := HJ49.out; have := HK4.out; omega
                            case rel => exact ⟨(y255), (wrap64 (x14_4 + 1)), (by first | rfl | (simp; done) | (simp [*]; done)), H', ⟨by have := HJ6.out; have := HJ9.out; have := HJ49.out; have := HK4.out; omega⟩, ⟨by (with_reducible repeat (first | apply Kd.R_alloc | apply Kd.R_drewN | apply Kd.R_drew)); exact HO_10.out⟩, ⟨by (with_reducible repeat (first | apply Kd.R_alloc | apply Kd.R_drewN | apply Kd.R_drew)); exact HO_11.out⟩, ⟨by (with_reducible repeat (first | apply Kd.R_alloc | apply Kd.R_drewN | apply Kd.R_drew)); exact HO257.out⟩, ⟨by repeat (first | (with_reducible first | exact HB.out | apply below_alloc | apply pw_below_drewN | apply below_drew1) | exact HB.out)⟩⟩
                           ·rw [if_neg c87] at H
                            exact absurd H (by simp)
                         ·rw [if_neg c82] at H
                          have c82b0 : (a0 == 10) = false := beq_eq_false_iff_ne.mpr c82
                          have c82b1 : (a0 != 10) = true := bne_iff_ne.mpr c82
                          by_cases c90 : x13_4.length < 17592186044416
                          ·rw [if_pos c90] at H
                           have LMc90 := Aside0.mk c90
                           clear c90
                           obtain ⟨y258, hy258⟩ : ∃ y_ : List Int, y_ = (x13_4 ++ [0]) := ⟨_, rfl⟩
                           replace H : (retargetref01_Binary.l0 k4 a0 a1 t213 t216 y258 (wrap64 (x14_4 + 1))) = some (r1, r2) := by first | (rw [hy258]; with_reducible exact H) | (have H2_ := (Option.bind_some _ _).symm.trans H; rw [hy258]; with_reducible exact H2_) | (have H2_ := (Option.bind_some _ _).symm.trans H; with_reducible exact H2_) | with_reducible exact H | (rw [hy258]; exact H) | exact H
                           have Ny258 := Aside0.mk hy258
                           clear hy258
                           have H' := Aside0.mk H
                           clear H
                           have p235 : 0 ≤ (x14_4 : Int) := of_decide_eq_true (by first | (with_reducible assumption) | assumption)
                           have q235 : x14_4 < (t213.length : Int) := of_decide_eq_true (by first | (with_reducible assumption) | assumption)
                           obtain ⟨ad235, e235, hx235_0⟩ := Kd.at_int (Kd.R_reads' HO_10.out).2.2 x14_4 p235 q235
                           obtain rfl : ad219 = ad235 := (by injection e235)
                           replace p235 := eq_true p235
                           replace q235 := eq_true q235
                           obtain ⟨Ao91, co91, eo91⟩ := Kd.R_slice HO_11.out
                           subst eo91
                           have p236 : 0 ≤ (x14_4 : Int) := of_decide_eq_true (by first | (with_reducible assumption) | assumption)
                           have q236 : x14_4 < (t216.length : Int) := of_decide_eq_true (by first | (with_reducible assumption) | assumption)
                           obtain ⟨ad236, e236, hx236_0⟩ := Kd.at_int (Kd.R_reads' HO_11.out).2.2 x14_4 p236 q236
                           cases e236
                           replace p236 := eq_true p236
                           replace q236 := eq_true q236
                           go_wp2_with (first | ((with_reducible refine gate_builtin (b := .append) (xs := #[.tmp 104, .tmp 106]) rfl ?_); at_builtin; refine Kd.R_append (Kd.int .i64) (w0 := w) w.heap.size rfl (.tmp 104) (.tmp 106) 124 3 (.int .i64 0) 8 rfl Try.underlying124 info3 rfl (by decide) (by omega) u13 x13_4 0 [.int .i64 0] (fun k_ => some k_ ≠ (.slice (some ad219) t213.length co53 : Value).ownBlock ∧ some k_ ≠ (.slice (some ad236) t216.length co91 : Value).ownBlock) (fun _ => False) rfl rfl ?aP (fun _ hk => hk.elim) ?aF ?aO ?aB ?aS ?aL ?_; (case aP => exact rfl); (case aB => exact (by repeat (first | (with_reducible first | exact HB.out | apply below_alloc | apply pw_below_drewN | apply below_drew1) | exact HB.out))); (case aF => exact (fun k_ hk => ⟨Kd.fresh' (Kd.R_lt (by (with_reducible repeat (first | apply Kd.R_alloc | apply Kd.R_drewN | apply Kd.R_drew)); exact HO_10.out)) k_ hk, Kd.fresh' (Kd.R_lt (by (with_reducible repeat (first | apply Kd.R_alloc | apply Kd.R_drewN | apply Kd.R_drew)); exact HO_11.out)) k_ hk⟩)); (case aO => exact (by (with_reducible repeat (first | apply Kd.R_alloc | apply Kd.R_drewN | apply Kd.R_drew)); exact HO_13.out)); (case aS => exact (below_size (by repeat (first | (with_reducible first | exact HB.out | apply below_alloc | apply pw_below_drewN | apply below_drew1) | exact HB.out)))); (case aL => have := LMc90.out; omega); intro v259 w92 ho hb hg hat; rw [← Ny258.out] at ho; have n0_ := Aside0.mk (Kd.R_after (ok := (fun k_ => some k_ ≠ (.slice (some ad236) t216.length co91 : Value).ownBlock)) (by (with_reducible repeat (first | apply Kd.R_alloc | apply Kd.R_drewN | apply Kd.R_drew)); exact HO_10.out) hg hat); have n1_ := Aside0.mk (Kd.R_after (ok := (fun k_ => some k_ ≠ (.slice (some ad219) t213.length co53 : Value).ownBlock)) (by (with_reducible repeat (first | apply Kd.R_alloc | apply Kd.R_drewN | apply Kd.R_drew)); exact HO_11.out) hg hat); have n2_ := Aside0.mk (hb); have n3_ := Aside0.mk (ho); clear HO_10; clear HO_11; clear HB; clear HO_13; have HO_10 := n0_; have HO_11 := n1_; have HB := n2_; have HO260 := n3_; clear n0_ n1_ n2_ n3_; clear ho hb hg hat))
                           repeat (go_quiet (first | ((with_reducible refine gate_builtin (b := .append) (xs := #[.tmp 104, .tmp 106]) rfl ?_); at_builtin; refine Kd.R_append (Kd.int .i64) (w0 := w) w.heap.size rfl (.tmp 104) (.tmp 106) 124 3 (.int .i64 0) 8 rfl Try.underlying124 info3 rfl (by decide) (by omega) u13 x13_4 0 [.int .i64 0] (fun k_ => some k_ ≠ (.slice (some ad219) t213.length co53 : Value).ownBlock ∧ some k_ ≠ (.slice (some ad236) t216.length co91 : Value).ownBlock) (fun _ => False) rfl rfl ?aP (fun _ hk => hk.elim) ?aF ?aO ?aB ?aS ?aL ?_; (case aP => exact rfl); (case aB => exact (by repeat (first | (with_reducible first | exact HB.out | apply below_alloc | apply pw_below_drewN | apply below_drew1) | exact HB.out))); (case aF => exact (fun k_ hk => ⟨Kd.fresh' (Kd.R_lt (by (with_reducible repeat (first | apply Kd.R_alloc | apply Kd.R_drewN | apply Kd.R_drew)); exact HO_10.out)) k_ hk, Kd.fresh' (Kd.R_lt (by (with_reducible repeat (first | apply Kd.R_alloc | apply Kd.R_drewN | apply Kd.R_drew)); exact HO_11.out)) k_ hk⟩)); (case aO => exact (by (with_reducible repeat (first | apply Kd.R_alloc | apply Kd.R_drewN | apply Kd.R_drew)); exact HO_13.out)); (case aS => exact (below_size (by repeat (first | (with_reducible first | exact HB.out | apply below_alloc | apply pw_below_drewN | apply below_drew1) | exact HB.out)))); (case aL => have := LMc90.out; omega); intro v259 w92 ho hb hg hat; rw [← Ny258.out] at ho; have n0_ := Aside0.mk (Kd.R_after (ok := (fun k_ => some k_ ≠ (.slice (some ad236) t216.length co91 : Value).ownBlock)) (by (with_reducible repeat (first | apply Kd.R_alloc | apply Kd.R_drewN | apply Kd.R_drew)); exact HO_10.out) hg hat); have n1_ := Aside0.mk (Kd.R_after (ok := (fun k_ => some k_ ≠ (.slice (some ad219) t213.length co53 : Value).ownBlock)) (by (with_reducible repeat (first | apply Kd.R_alloc | apply Kd.R_drewN | apply Kd.R_drew)); exact HO_11.out) hg hat); have n2_ := Aside0.mk (hb); have n3_ := Aside0.mk (ho); clear HO_10; clear HO_11; clear HB; clear HO_13; have HO_10 := n0_; have HO_11 := n1_; have HB := n2_; have HO260 := n3_; clear n0_ n1_ n2_ n3_; clear ho hb hg hat)); try go_wp2_with (first | ((with_reducible refine gate_builtin (b := .append) (xs := #[.tmp 104, .tmp 106]) rfl ?_); at_builtin; refine Kd.R_append (Kd.int .i64) (w0 := w) w.heap.size rfl (.tmp 104) (.tmp 106) 124 3 (.int .i64 0) 8 rfl Try.underlying124 info3 rfl (by decide) (by omega) u13 x13_4 0 [.int .i64 0] (fun k_ => some k_ ≠ (.slice (some ad219) t213.length co53 : Value).ownBlock ∧ some k_ ≠ (.slice (some ad236) t216.length co91 : Value).ownBlock) (fun _ => False) rfl rfl ?aP (fun _ hk => hk.elim) ?aF ?aO ?aB ?aS ?aL ?_; (case aP => exact rfl); (case aB => exact (by repeat (first | (with_reducible first | exact HB.out | apply below_alloc | apply pw_below_drewN | apply below_drew1) | exact HB.out))); (case aF => exact (fun k_ hk => ⟨Kd.fresh' (Kd.R_lt (by (with_reducible repeat (first | apply Kd.R_alloc | apply Kd.R_drewN | apply Kd.R_drew)); exact HO_10.out)) k_ hk, Kd.fresh' (Kd.R_lt (by (with_reducible repeat (first | apply Kd.R_alloc | apply Kd.R_drewN | apply Kd.R_drew)); exact HO_11.out)) k_ hk⟩)); (case aO => exact (by (with_reducible repeat (first | apply Kd.R_alloc | apply Kd.R_drewN | apply Kd.R_drew)); exact HO_13.out)); (case aS => exact (below_size (by repeat (first | (with_reducible first | exact HB.out | apply below_alloc | apply pw_below_drewN | apply below_drew1) | exact HB.out)))); (case aL => have := LMc90.out; omega); intro v259 w92 ho hb hg hat; rw [← Ny258.out] at ho; have n0_ := Aside0.mk (Kd.R_after (ok := (fun k_ => some k_ ≠ (.slice (some ad236) t216.length co91 : Value).ownBlock)) (by (with_reducible repeat (first | apply Kd.R_alloc | apply Kd.R_drewN | apply Kd.R_drew)); exact HO_10.out) hg hat); have n1_ := Aside0.mk (Kd.R_after (ok := (fun k_ => some k_ ≠ (.slice (some ad219) t213.length co53 : Value).ownBlock)) (by (with_reducible repeat (first | apply Kd.R_alloc | apply Kd.R_drewN | apply Kd.R_drew)); exact HO_11.out) hg hat); have n2_ := Aside0.mk (hb); have n3_ := Aside0.mk (ho); clear HO_10; clear HO_11; clear HB; clear HO_13; have HO_10 := n0_; have HO_11 := n1_; have HB := n2_; have HO260 := n3_; clear n0_ n1_ n2_ n3_; clear ho hb hg hat)))
                           go_roundg k4
                           case measure => have := HJ6.out; have := HJ9.out; have := HJ49.out; have := HK4.out; omega
                           case rel => exact ⟨(y258), (wrap64 (x14_4 + 1)), (by first | rfl | (simp; done) | (simp [*]; done)), H', ⟨by have := HJ6.out; have := HJ9.out; have := HJ49.out; have := HK4.out; omega⟩, ⟨by (with_reducible repeat (first | apply Kd.R_alloc | apply Kd.R_drewN | apply Kd.R_drew)); exact HO_10.out⟩, ⟨by (with_reducible repeat (first | apply Kd.R_alloc | apply Kd.R_drewN | apply Kd.R_drew)); exact HO_11.out⟩, ⟨by (with_reducible repeat (first | apply Kd.R_alloc | apply Kd.R_drewN | apply Kd.R_drew)); exact HO260.out⟩, ⟨by repeat (first | (with_reducible first | exact HB.out | apply below_alloc | apply pw_below_drewN | apply below_drew1) | exact HB.out)⟩⟩
                          ·rw [if_neg c90] at H
                           exact absurd H (by simp)
                      ·rw [if_neg c61] at H
                       have c61b0 : (a0 == 8) = false := beq_eq_false_iff_ne.mpr c61
                       have c61b1 : (a0 != 8) = true := bne_iff_ne.mpr c61
                       by_cases c93 : a0 = 9
                       ·rw [if_pos c93] at H
                        have c93b0 : (a0 == 9) = true := beq_iff_eq.mpr c93
                        have c93b1 : (a0 != 9) = false := bne_eq_false_iff_eq.mpr c93
                        clear c93
                        by_cases c94 : (wrap64 ((rd t213 x14_4) + (rd t216 x14_4))) > 0
                        ·rw [if_pos c94] at H
                         have c94b0 : decide (0 < (wrap64 ((rd t213 x14_4) + (rd t216 x14_4)))) = true := decide_eq_true c94
                         clear c94
                         by_cases c95 : x13_4.length < 17592186044416
                         ·rw [if_pos c95] at H
                          have LMc95 := Aside0.mk c95
                          clear c95
                          obtain ⟨y261, hy261⟩ : ∃ y_ : List Int, y_ = (x13_4 ++ [1]) := ⟨_, rfl⟩
                          replace H : (retargetref01_Binary.l0 k4 a0 a1 t213 t216 y261 (wrap64 (x14_4 + 1))) = some (r1, r2) := by first | (rw [hy261]; with_reducible exact H) | (have H2_ := (Option.bind_some _ _).symm.trans H; rw [hy261]; with_reducible exact H2_) | (have H2_ := (Option.bind_some _ _).symm.trans H; with_reducible exact H2_) | with_reducible exact H | (rw [hy261]; exact H) | exact H
                          have Ny261 := Aside0.mk hy261
                          clear hy261
                          have H' := Aside0.mk H
                          clear H
                          have p235 : 0 ≤ (x14_4 : Int) := of_decide_eq_true (by first | (with_reducible assumption) | assumption)
                          have q235 : x14_4 < (t213.length : Int) := of_decide_eq_true (by first | (with_reducible assumption) | assumption)
                          obtain ⟨ad235, e235, hx235_0⟩ := Kd.at_int (Kd.R_reads' HO_10.out).2.2 x14_4 p235 q235
                          obtain rfl : ad219 = ad235 := (by injection e235)
                          replace p235 := eq_true p235
                          replace q235 := eq_true q235
                          obtain ⟨Ao96, co96, eo96⟩ := Kd.R_slice HO_11.out
                          subst eo96
                          have p236 : 0 ≤ (x14_4 : Int) := of_decide_eq_true (by first | (with_reducible assumption) | assumption)
                          have q236 : x14_4 < (t216.length : Int) := of_decide_eq_true (by first | (with_reducible assumption) | assumption)
                          obtain ⟨ad236, e236, hx236_0⟩ := Kd.at_int (Kd.R_reads' HO_11.out).2.2 x14_4 p236 q236
                          cases e236
                          replace p236 := eq_true p236
                          replace q236 := eq_true q236
                          go_wp2_with (first | ((with_reducible refine gate_builtin (b := .append) (xs := #[.tmp 104, .tmp 106]) rfl ?_); at_builtin; refine Kd.R_append (Kd.int .i64) (w0 := w) w.heap.size rfl (.tmp 104) (.tmp 106) 124 3 (.int .i64 0) 8 rfl Try.underlying124 info3 rfl (by decide) (by omega) u13 x13_4 1 [.int .i64 1] (fun k_ => some k_ ≠ (.slice (some ad219) t213.length co53 : Value).ownBlock ∧ some k_ ≠ (.slice (some ad236) t216.length co96 : Value).ownBlock) (fun _ => False) rfl rfl ?aP (fun _ hk => hk.elim) ?aF ?aO ?aB ?aS ?aL ?_; (case aP => exact rfl); (case aB => exact (by repeat (first | (with_reducible first | exact HB.out | apply below_alloc | apply pw_below_drewN | apply below_drew1) | exact HB.out))); (case aF => exact (fun k_ hk => ⟨Kd.fresh' (Kd.R_lt (by (with_reducible repeat (first | apply Kd.R_alloc | apply Kd.R_drewN | apply Kd.R_drew)); exact HO_10.out)) k_ hk, Kd.fresh' (Kd.R_lt (by (with_reducible repeat (first | apply Kd.R_alloc | apply Kd.R_drewN | apply Kd.R_drew)); exact HO_11.out)) k_ hk⟩)); (case aO => exact (by (with_reducible repeat (first | apply Kd.R_alloc | apply Kd.R_drewN | apply Kd.R_drew)); exact HO_13.out)); (case aS => exact (below_size (by repeat (first | (with_reducible first | exact HB.out | apply below_alloc | apply pw_below_drewN | apply below_drew1) | exact HB.out)))); (case aL => have := LMc95.out; omega); intro v262 w97 ho hb hg hat; rw [← Ny261.out] at ho; have n0_ := Aside0.mk (Kd.R_after (ok := (fun k_ => some k_ ≠ (.slice (some ad236) t216.length co96 : Value).ownBlock)) (by (with_reducible repeat (first | apply Kd.R_alloc | apply Kd.R_drewN | apply Kd.R_drew)); exact HO_10.out) hg hat); have n1_ := Aside0.mk (Kd.R_after (ok := (fun k_ => some k_ ≠ (.slice (some ad219) t213.length co53 : Value).ownBlock)) (by (with_reducible repeat (first | apply Kd.R_alloc | apply Kd.R_drewN | apply Kd.R_drew)); exact HO_11.out) hg hat); have n2_ := Aside0.mk (hb); have n3_ := Aside0.mk (ho); clear HO_10; clear HO_11; clear HB; clear HO_13; have HO_10 := n0_; have HO_11 := n1_; have HB := n2_; have HO263 := n3_; clear n0_ n1_ n2_ n3_; clear ho hb hg hat))
                          repeat (go_quiet (first | ((with_reducible refine gate_builtin (b := .append) (xs := #[.tmp 104, .tmp 106]) rfl ?_); at_builtin; refine Kd.R_append (Kd.int .i64) (w0 := w) w.heap.size rfl (.tmp 104) (.tmp 106) 124 3 (.int .i64 0) 8 rfl Try.underlying124 info3 rfl (by decide) (by omega) u13 x13_4 1 [.int .i64 1] (fun k_ => some k_ ≠ (.slice (some ad219) t213.length co53 : Value).ownBlock ∧ some k_ ≠ (.slice (some ad236) t216.length co96 : Value).ownBlock) (fun _ => False) rfl rfl ?aP (fun _ hk => hk.elim) ?aF ?aO ?aB ?aS ?aL ?_; (case aP => exact rfl); (case aB => exact (by repeat (first | (with_reducible first | exact HB.out | apply below_alloc | apply pw_below_drewN | apply below_drew1) | exact HB.out))); (case aF => exact (fun k_ hk => ⟨Kd.fresh' (Kd.R_lt (by (with_reducible repeat (first | apply Kd.R_alloc | apply Kd.R_drewN | apply Kd.R_drew)); exact HO_10.out)) k_ hk, Kd.fresh' (Kd.R_lt (by (with_reducible repeat (first | apply Kd.R_alloc | apply Kd.R_drewN | apply Kd.R_drew)); exact HO_11.out)) k_ hk⟩)); (case aO => exact (by (with_reducible repeat (first | apply Kd.R_alloc | apply Kd.R_drewN | apply Kd.R_drew)); exact HO_13.out)); (case aS => exact (below_size (by repeat (first | (with_reducible first | exact HB.out | apply below_alloc | apply pw_below_drewN | apply below_drew1) | exact HB.out)))); (case aL => have := LMc95.out; omega); intro v262 w97 ho hb hg hat; rw [← Ny261.out] at ho; have n0_ := Aside0.mk (Kd.R_after (ok := (fun k_ => some k_ ≠ (.slice (some ad236) t216.length co96 : Value).ownBlock)) (by (with_reducible repeat (first | apply Kd.R_alloc | apply Kd.R_drewN | apply Kd.R_drew)); exact HO_10.out) hg hat); have n1_ := Aside0.mk (Kd.R_after (ok := (fun k_ => some k_ ≠ (.slice (some ad219) t213.length co53 : Value).ownBlock)) (by (with_reducible repeat (first | apply Kd.R_alloc | apply Kd.R_drewN | apply Kd.R_drew)); exact HO_11.out) hg hat); have n2_ := Aside0.mk (hb); have n3_ := Aside0.mk (ho); clear HO_10; clear HO_11; clear HB; clear HO_13; have HO_10 := n0_; have HO_11 := n1_; have HB := n2_; have HO263 := n3_; clear n0_ n1_ n2_ n3_; clear ho hb hg hat)); try go_wp2_with (first | ((with_reducible refine gate_builtin (b := .append) (xs := #[.tmp 104, .tmp 106]) rfl ?_); at_builtin; refine Kd.R_append (Kd.int .i64) (w0 := w) w.heap.size rfl (.tmp 104) (.tmp 106) 124 3 (.int .i64 0) 8 rfl Try.underlying124 info3 rfl (by decide) (by omega) u13 x13_4 1 [.int .i64 1] (fun k_ => some k_ ≠ (.slice (some ad219) t213.length co53 : Value).ownBlock ∧ some k_ ≠ (.slice (some ad236) t216.length co96 : Value).ownBlock) (fun _ => False) rfl rfl ?aP (fun _ hk => hk.elim) ?aF ?aO ?aB ?aS ?aL ?_; (case aP => exact rfl); (case aB => exact (by repeat (first | (with_reducible first | exact HB.out | apply below_alloc | apply pw_below_drewN | apply below_drew1) | exact HB.out))); (case aF => exact (fun k_ hk => ⟨Kd.fresh' (Kd.R_lt (by (with_reducible repeat (first | apply Kd.R_alloc | apply Kd.R_drewN | apply Kd.R_drew)); exact HO_10.out)) k_ hk, Kd.fresh' (Kd.R_lt (by (with_reducible repeat (first | apply Kd.R_alloc | apply Kd.R_drewN | apply Kd.R_drew)); exact HO_11.out)) k_ hk⟩)); (case aO => exact (by (with_reducible repeat (first | apply Kd.R_alloc | apply Kd.R_drewN | apply Kd.R_drew)); exact HO_13.out)); (case aS => exact (below_size (by repeat (first | (with_reducible first | exact HB.out | apply below_alloc | apply pw_below_drewN | apply below_drew1) | exact HB.out)))); (case aL => have := LMc95.out; omega); intro v262 w97 ho hb hg hat; rw [← Ny261.out] at ho; have n0_ := Aside0.mk (Kd.R_after (ok := (fun k_ => some k_ ≠ (.slice (some ad236) t216.length co96 : Value).ownBlock)) (by (with_reducible repeat (first | apply Kd.R_alloc | apply Kd.R_drewN | apply Kd.R_drew)); exact HO_10.out) hg hat); have n1_ := Aside0.mk (Kd.R_after (ok := (fun k_ => some k_ ≠ (.slice (some ad219) t213.length co53 : Value).ownBlock)) (by (with_reducible repeat (first | apply Kd.R_alloc | apply Kd.R_drewN | apply Kd.R_drew)); exact HO_11.out) hg hat); have n2_ := Aside0.mk (hb); have n3_ := Aside0.mk (ho); clear HO_10; clear HO_11; clear HB; clear HO_13; have HO_10 := n0_; have HO_11 := n1_; have HB := n2_; have HO263 := n3_; clear n0_ n1_ n2_ n3_; clear ho hb hg hat)))
                          go_roundg k4
                          case measure => have := HJ6.out; have := HJ9.out; have := HJ49.out; have := HK4.out; omega
                          case rel => exact ⟨(y261), (wrap64 (x14_4 + 1)), (by first | rfl | (simp; done) | (simp [*]; done)), H', ⟨by have := HJ6.out; have := HJ9.out; have := HJ49.out; have := HK4.out; omega⟩, ⟨by (with_reducible repeat (first | apply Kd.R_alloc | apply Kd.R_drewN | apply Kd.R_drew)); exact HO_10.out⟩, ⟨by (with_reducible repeat (first | apply Kd.R_alloc | apply Kd.R_drewN | apply Kd.R_drew)); exact HO_11.out⟩, ⟨by (with_reducible repeat (first | apply Kd.R_alloc | apply Kd.R_drewN | apply Kd.R_drew)); exact HO263.out⟩, ⟨by repeat (first | (with_reducible first | exact HB.out | apply below_alloc | apply pw_below_drewN | apply below_drew1) | exact HB.out)⟩⟩
                         ·rw [if_neg c95] at H
                          exact absurd H (by simp)
                        ·rw [if_neg c94] at H
                         have c94b0 : decide (0 < (wrap64 ((rd t213 x14_4) + (rd t216 x14_4)))) = false := decide_eq_false c94
                         clear c94
                         by_cases c98 : a0 = 10
                         ·rw [if_pos c98] at H
                          have c98b0 : (a0 == 10) = true := beq_iff_eq.mpr c98
                          have c98b1 : (a0 != 10) = false := bne_eq_false_iff_eq.mpr c98
                          clear c98
                          by_cases c99 : (wrap64 ((rd t213 x14_4) + (rd t216 x14_4))) = 1
                          ·rw [if_pos c99] at H
                           have c99b0 : ((wrap64 ((rd t213 x14_4) + (rd t216 x14_4))) == 1) = true := beq_iff_eq.mpr c99
                           have c99b1 : ((wrap64 ((rd t213 x14_4) + (rd t216 x14_4))) != 1) = false := bne_eq_false_iff_eq.mpr c99
                           clear c99
                           by_cases c100 : x13_4.length < 17592186044416
                           ·rw [if_pos c100] at H
                            have LMc100 := Aside0.mk c100
                            clear c100
                            obtain ⟨y264, hy264⟩ : ∃ y_ : List Int, y_ = (x13_4 ++ [1]) := ⟨_, rfl⟩
                            replace H : (retargetref01_Binary.l0 k4 a0 a1 t213 t216 y264 (wrap64 (x14_4 + 1))) = some (r1, r2) := by first | (rw [hy264]; with_reducible exact H) | (have H2_ := (Option.bind_some _ _).symm.trans H; rw [hy264]; with_reducible exact H2_) | (have H2_ := (Option.bind_some _ _).symm.trans H; with_reducible exact H2_) | with_reducible exact H | (rw [hy264]; exact H) | exact H
                            have Ny264 := Aside0.mk hy264
                            clear hy264
                            have H' := Aside0.mk H
                            clear H
                            have p235 : 0 ≤ (x14_4 : Int) := of_decide_eq_true (by first | (with_reducible assumption) | assumption)
                            have q235 : x14_4 < (t213.length : Int) := of_decide_eq_true (by first | (with_reducible assumption) | assumption)
                            obtain ⟨ad235, e235, hx235_0⟩ := Kd.at_int (Kd.R_reads' HO_10.out).2.2 x14_4 p235 q235
                            obtain rfl : ad219 = ad235 := (by injection e235)
                            replace p235 := eq_true p235
                            replace q235 := eq_true q235
                            obtain ⟨Ao101, co101, eo101⟩ := Kd.R_slice HO_11.out
                            subst eo101
                            have p236 : 0 ≤ (x14_4 : Int) := of_decide_eq_true (by first | (with_reducible assumption) | assumption)
                            have q236 : x14_4 < (t216.length : Int) := of_decide_eq_true (by first | (with_reducible assumption) | assumption)
                            obtain ⟨ad236, e236, hx236_0⟩ := Kd.at_int (Kd.R_reads' HO_11.out).2.2 x14_4 p236 q236
                            cases e236
                            replace p236 := eq_true p236
                            replace q236 := eq_true q236
                            go_wp2_with (first | ((with_reducible refine gate_builtin (b := .append) (xs := #[.tmp 104, .tmp 106]) rfl ?_); at_builtin; refine Kd.R_append (Kd.int .i64) (w0 := w) w.heap.size rfl (.tmp 104) (.tmp 106) 124 3 (.int .i64 0) 8 rfl Try.underlying124 info3 rfl (by decide) (by omega) u13 x13_4 1 [.int .i64 1] (fun k_ => some k_ ≠ (.slice (some ad219) t213.length co53 : Value).ownBlock ∧ some k_ ≠ (.slice (some ad236) t216.length co101 : Value).ownBlock) (fun _ => False) rfl rfl ?aP (fun _ hk => hk.elim) ?aF ?aO ?aB ?aS ?aL ?_; (case aP => exact rfl); (case aB => exact (by repeat (first | (with_reducible first | exact HB.out | apply below_alloc | apply pw_below_drewN | apply below_drew1) | exact HB.out))); (case aF => exact (fun k_ hk => ⟨Kd.fresh' (Kd.R_lt (by (with_reducible repeat (first | apply Kd.R_alloc | apply Kd.R_drewN | apply Kd.R_drew)); exact HO_10.out)) k_ hk, Kd.fresh' (Kd.R_lt (by (with_reducible repeat (first | apply Kd.R_alloc | apply Kd.R_drewN | apply Kd.R_drew)); exact HO_11.out)) k_ hk⟩)); (case aO => exact (by (with_reducible repeat (first | apply Kd.R_alloc | apply Kd.R_drewN | apply Kd.R_drew)); exact HO_13.out)); (case aS => exact (below_size (by repeat (first | (with_reducible first | exact HB.out | apply below_alloc | apply pw_below_drewN | apply below_drew1) | exact HB.out)))); (case aL => have := LMc100.out; omega); intro v265 w102 ho hb hg hat; rw [← Ny264.out] at ho; have n0_ := Aside0.mk (Kd.R_after (ok := (fun k_ => some k_ ≠ (.slice (some ad236) t216.length co101 : Value).ownBlock)) (by (with_reducible repeat (first | apply Kd.R_alloc | apply Kd.R_drewN | apply Kd.R_drew)); exact HO_10.out) hg hat); have n1_ := Aside0.mk (Kd.R_after (ok := (fun k_ => some k_ ≠ (.slice (some ad219) t213.length co53 : Value).ownBlock)) (by (with_reducible repeat (first | apply Kd.R_alloc | apply Kd.R_drewN | apply Kd.R_drew)); exact HO_11.out) hg hat); have n2_ := Aside0.mk (hb); have n3_ := Aside0.mk (ho); clear HO_10; clear HO_11; clear HB; clear HO_13; have HO_10 := n0_; have HO_11 := n1_; have HB := n2_; have HO266 := n3_; clear n0_ n1_ n2_ n3_; clear ho hb hg hat))
                            repeat (go_quiet (first | ((with_reducible refine gate_builtin (b := .append) (xs := #[.tmp 104, .tmp 106]) rfl ?_); at_builtin; refine Kd.R_append (Kd.int .i64) (w0 := w) w.heap.size rfl (.tmp 104) (.tmp 106) 124 3 (.int .i64 0) 8 rfl Try.underlying124 info3 rfl (by decide) (by omega) u13 x13_4 1 [.int .i64 1] (fun k_ => some k_ ≠ (.slice (some ad219) t213.length co53 : Value).ownBlock ∧ some k_ ≠ (.slice (some ad236) t216.length co101 : Value).ownBlock) (fun _ => False) rfl rfl ?aP (fun _ hk => hk.elim) ?aF ?aO ?aB ?aS ?aL ?_; (case aP => exact rfl); (case aB => exact (by repeat (first | (with_reducible first | exact HB.out | apply below_alloc | apply pw_below_drewN | apply below_drew1) | exact HB.out))); (case aF => exact (fun k_ hk => ⟨Kd.fresh' (Kd.R_lt (by (with_reducible repeat (first | apply Kd.R_alloc | apply Kd.R_drewN | apply Kd.R_drew)); exact HO_10.out)) k_ hk, Kd.fresh' (Kd.R_lt (by (with_reducible repeat (first | apply Kd.R_alloc | apply Kd.R_drewN | apply Kd.R_drew)); exact HO_11.out)) k_ hk⟩)); (case aO => exact (by (with_reducible repeat (first | apply Kd.R_alloc | apply Kd.R_drewN | apply Kd.R_drew)); exact HO_13.out)); (case aS => exact (below_size (by repeat (first | (with_reducible first | exact HB.out | apply below_alloc | apply pw_below_drewN | apply below_drew1) | exact HB.out)))); (case aL => have := LMc100.out; omega); intro v265 w102 ho hb hg hat; rw [← Ny264.out] at ho; have n0_ := Aside0.mk (Kd.R_after (ok := (fun k_ => some k_ ≠ (.slice (some ad236) t216.length co101 : Value).ownBlock)) (by (with_reducible repeat (first | apply Kd.R_alloc | apply Kd.R_drewN | apply Kd.R_drew)); exact HO_10.out) hg hat); have n1_ := Aside0.mk (Kd.R_after (ok := (fun k_ => some k_ ≠ (.slice (some ad219) t213.length co53 : Value).ownBlock)) (by (with_reducible repeat (first | apply Kd.R_alloc | apply Kd.R_drewN | apply Kd.R_drew)); exact HO_11.out) hg hat); have n2_ := Aside0.mk (hb); have n3_ := Aside0.mk (ho); clear HO_10; clear HO_11; clear HB; clear HO_13; have HO_10 := n0_; have HO_11 := n1_; have HB := n2_; have HO266 := n3_; clear n0_ n1_ n2_ n3_; clear ho hb hg hat)); try go_wp2_with (first | ((with_reducible refine gate_builtin (b := .append) (xs := #[.tmp 104, .tmp 106]) rfl ?_); at_builtin; refine Kd.R_append (Kd.int .i64) (w0 := w) w.heap.size rfl (.tmp 104) (.tmp 106) 124 3 (.int .i64 0) 8 rfl Try.underlying124 info3 rfl (by decide) (by omega) u13 x13_4 1 [.int .i64 1] (fun k_ => some k_ ≠ (.slice (some ad219) t213.length co53 : Value).ownBlock ∧ some k_ ≠ (.slice (some ad236) t216.length co101 : Value).ownBlock) (fun _ => False) rfl rfl ?aP (fun _ hk => hk.elim) ?aF ?aO ?aB ?aS ?aL ?_; (case aP => exact rfl); (case aB => exact (by repeat (first | (with_reducible first | exact HB.out | apply below_alloc | apply pw_below_drewN | apply below_drew1) | exact HB.out))); (case aF => exact (fun k_ hk => ⟨Kd.fresh' (Kd.R_lt (by (with_reducible repeat (first | apply Kd.R_alloc | apply Kd.R_drewN | apply Kd.R_drew)); exact HO_10.out)) k_ hk, Kd.fresh' (Kd.R_lt (by (with_reducible repeat (first | apply Kd.R_alloc | apply Kd.R_drewN | apply Kd.R_drew)); exact HO_11.out)) k_ hk⟩)); (case aO => exact (by (with_reducible repeat (first | apply Kd.R_alloc | apply Kd.R_drewN | apply Kd.R_drew)); exact HO_13.out)); (case aS => exact (below_size (by repeat (first | (with_reducible first | exact HB.out | apply below_alloc | apply pw_below_drewN | apply below_drew1) | exact HB.out)))); (case aL => have := LMc100.out; omega); intro v265 w102 ho hb hg hat; rw [← Ny264.out] at ho; have n0_ := Aside0.mk (Kd.R_after (ok := (fun k_ => some k_ ≠ (.slice (some ad236) t216.length co101 : Value).ownBlock)) (by (with_reducible repeat (first | apply Kd.R_alloc | apply Kd.R_drewN | apply Kd.R_drew)); exact HO_10.out) hg hat); have n1_ := Aside0.mk (Kd.R_after (ok := (fun k_ => some k_ ≠ (.slice (some ad219) t213.length co53 : Value).ownBlock)) (by (with_reducible repeat (first | apply Kd.R_alloc | apply Kd.R_drewN | apply Kd.R_drew)); exact HO_11.out) hg hat); have n2_ := Aside0.mk (hb); have n3_ := Aside0.mk (ho); clear HO_10; clear HO_11; clear HB; clear HO_13; have HO_10 := n0_; have HO_11 := n1_; have HB := n2_; have HO266 := n3_; clear n0_ n1_ n2_ n3_; clear ho hb hg hat)))
                            go_roundg k4
                            case measure => have := HJ6.out; have := HJ9.out; have := HJ49.out; have := HK4.out; omega
                            case rel => exact ⟨(y264), (wrap64 (x14_4 + 1)), (by first | rfl | (simp; done) | (simp [*]; done)), H', ⟨by have := HJ6.out; have := HJ9.out; have := HJ49.out; have := HK4.out; omega⟩, ⟨by (with_reducible repeat (first | apply Kd.R_alloc | apply Kd.R_drewN | apply Kd.R_drew)); exact HO_10.out⟩, ⟨by (with_reducible repeat (first | apply Kd.R_alloc | apply Kd.R_drewN | apply Kd.R_drew)); exact HO_11.out⟩, ⟨by (with_reducible repeat (first | apply Kd.R_alloc | apply Kd.R_drewN | apply Kd.R_drew)); exact HO266.out⟩, ⟨by repeat (first | (with_reducible first | exact HB.out | apply below_alloc | apply pw_below_drewN | apply below_drew1) | exact HB.out)⟩⟩
                           ·rw [if_neg c100] at H
                            exact absurd H (by simp)
                          ·rw [if_neg c99] at H
                           have c99b0 : ((wrap64 ((rd t213 x14_4) + (rd t216 x14_4))) == 1) = false := beq_eq_false_iff_ne.mpr c99
                           have c99b1 : ((wrap64 ((rd t213 x14_4) + (rd t216 x14_4))) != 1) = true := bne_iff_ne.mpr c99
                           by_cases c103 : x13_4.length < 17592186044416
                           ·rw [if_pos c103] at H
                            have LMc103 := Aside0.mk c103
                            clear c103
                            obtain ⟨y267, hy267⟩ : ∃ y_ : List Int, y_ = (x13_4 ++ [0]) := ⟨_, rfl⟩
                            replace H : (retargetref01_Binary.l0 k4 a0 a1 t213 t216 y267 (wrap64 (x14_4 + 1))) = some (r1, r2) := by first | (rw [hy267]; with_reducible exact H) | (have H2_ := (Option.bind_some _ _).symm.trans H; rw [hy267]; with_reducible exact H2_) | (have H2_ := (Option.bind_some _ _).symm.trans H; with_reducible exact H2_) | with_reducible exact H | (rw [hy267]; exact H) | exact H
                            have Ny267 := Aside0.mk hy267
                            clear hy267
                            have H' := Aside0.mk H
                            clear H
                            have p235 : 0 ≤ (x14_4 : Int) := of_decide_eq_true (by first | (with_reducible assumption) | assumption)
                            have q235 : x14_4 < (t213.length : Int) := of_decide_eq_true (by first | (with_reducible assumption) | assumption)
                            obtain ⟨ad235, e235, hx235_0⟩ := Kd.at_int (Kd.R_reads' HO_10.out).2.2 x14_4 p235 q235
                            obtain rfl : ad219 = ad235 := (by injection e235)
                            replace p235 := eq_true p235
                            replace q235 := eq_true q235
                            obtain ⟨Ao104, co104, eo104⟩ := Kd.R_slice HO_11.out
                            subst eo104
                            have p236 : 0 ≤ (x14_4 : Int) := of_decide_eq_true (by first | (with_reducible assumption) | assumption)
                            have q236 : x14_4 < (t216.length : Int) := of_decide_eq_true (by first | (with_reducible assumption) | assumption)
                            obtain ⟨ad236, e236, hx236_0⟩ := Kd.at_int (Kd.R_reads' HO_11.out).2.2 x14_4 p236 q236
                            cases e236
                            replace p236 := eq_true p236
                            replace q236 := eq_true q236
                            go_wp2_with (first | ((with_reducible refine gate_builtin (b := .append) (xs := #[.tmp 104, .tmp 106]) rfl ?_); at_builtin; refine Kd.R_append (Kd.int .i64) (w0 := w) w.heap.size rfl (.tmp 104) (.tmp 106) 124 3 (.int .i64 0) 8 rfl Try.underlying124 info3 rfl (by decide) (by omega) u13 x13_4 0 [.int .i64 0] (fun k_ => some k_ ≠ (.slice (some ad219) t213.length co53 : Value).ownBlock ∧ some k_ ≠ (.slice (some ad236) t216.length co104 : Value).ownBlock) (fun _ => False) rfl rfl ?aP (fun _ hk => hk.elim) ?aF ?aO ?aB ?aS ?aL ?_; (case aP => exact rfl); (case aB => exact (by repeat (first | (with_reducible first | exact HB.out | apply below_alloc | apply pw_below_drewN | apply below_drew1) | exact HB.out))); (case aF => exact (fun k_ hk => ⟨Kd.fresh' (Kd.R_lt (by (with_reducible repeat (first | apply Kd.R_alloc | apply Kd.R_drewN | apply Kd.R_drew)); exact HO_10.out)) k_ hk, Kd.fresh' (Kd.R_lt (by (with_reducible repeat (first | apply Kd.R_alloc | apply Kd.R_drewN | apply Kd.R_drew)); exact HO_11.out)) k_ hk⟩)); (case aO => exact (by (with_reducible repeat (first | apply Kd.R_alloc | apply Kd.R_drewN | apply Kd.R_drew)); exact HO_13.out)); (case aS => exact (below_size (by repeat (first | (with_reducible first | exact HB.out | apply below_alloc | apply pw_below_drewN | apply below_drew1) | exact HB.out)))); (case aL => have := LMc103.out; omega); intro v268 w105 ho hb hg hat; rw [← Ny267.out] at ho; have n0_ := Aside0.mk (Kd.R_after (ok := (fun k_ => some k_ ≠ (.slice (some ad236) t216.length co104 : Value).ownBlock)) (by (with_reducible repeat (first | apply Kd.R_alloc | apply Kd.R_drewN | apply Kd.R_drew)); exact HO_10.out) hg hat); have n1_ := Aside0.mk (Kd.R_after (ok := (fun k_ => some k_ ≠ (.slice (some ad219) t213.length co53 : Value).ownBlock)) (by (with_reducible repeat (first | apply Kd.R_alloc | apply Kd.R_drewN | apply Kd.R_drew)); exact HO_11.out) hg hat); have n2_ := Aside0.mk (hb); have n3_ := Aside0.mk (ho); clear HO_10; clear HO_11; clear HB; clear HO_13; have HO_10 := n0_; have HO_11 := n1_; have HB := n2_; have HO269 := n3_; clear n0_ n1_ n2_ n3_; clear ho hb hg hat))
                            repeat (go_quiet (first | ((with_reducible refine gate_builtin (b := .append) (xs := #[.tmp 104, .tmp 106]) rfl ?_); at_builtin; refine Kd.R_append (Kd.int .i64) (w0 := w) w.heap.size rfl (.tmp 104) (.tmp 106) 124 3 (.int .i64 0) 8 rfl Try.underlying124 info3 rfl (by decide) (by omega) u13 x13_4 0 [.int .i64 0] (fun k_ => some k_ ≠ (.slice (some ad219) t213.length co53 : Value).ownBlock ∧ some k_ ≠ (.slice (some ad236) t216.length co104 : Value).ownBlock) (fun _ => False) rfl rfl ?aP (fun _ hk => hk.elim) ?aF ?aO ?aB ?aS ?aL ?_; (case aP => exact rfl); (case aB => exact (by repeat (first | (with_reducible first | exact HB.out | apply below_alloc | apply pw_below_drewN | apply below_drew1) | exact HB.out))); (case aF => exact (fun k_ hk => ⟨Kd.fresh' (Kd.R_lt (by (with_reducible repeat (first | apply Kd.R_alloc | apply Kd.R_drewN | apply Kd.R_drew)); exact HO_10.out)) k_ hk, Kd.fresh' (Kd.R_lt (by (with_reducible repeat (first | apply Kd.R_alloc | apply Kd.R_drewN | apply Kd.R_drew)); exact HO_11.out)) k_ hk⟩)); (case aO => exact (by (with_reducible repeat (first | apply Kd.R_alloc | apply Kd.R_drewN | apply Kd.R_drew)); exact HO_13.out)); (case aS => exact (below_size (by repeat (first | (with_reducible first | exact HB.out | apply below_alloc | apply pw_below_drewN | apply below_drew1) | exact HB.out)))); (case aL => have := LMc103.out; omega); intro v268 w105 ho hb hg hat; rw [← Ny267.out] at ho; have n0_ := Aside0.mk (Kd.R_after (ok := (fun k_ => some k_ ≠ (.slice (some ad236) t216.length co104 : Value).ownBlock)) (by (with_reducible repeat (first | apply Kd.R_alloc | apply Kd.R_drewN | apply Kd.R_drew)); exact HO_10.out) hg hat); have n1_ := Aside0.mk (Kd.R_after (ok := (fun k_ => some k_ ≠ (.slice (some ad219) t213.length co53 : Value).ownBlock)) (by (with_reducible repeat (first | apply Kd.R_alloc | apply Kd.R_drewN | apply Kd.R_drew)); exact HO_11.out) hg hat); have n2_ := Aside0.mk (hb); have n3_ := Aside0.mk (ho); clear HO_10; clear HO_11; clear HB; clear HO_13; have HO_10 := n0_; have HO_11 := n1_; have HB := n2_; have HO269 := n3_; clear n0_ n1_ n2_ n3_; clear ho hb hg hat)); try go_wp2_with (first | ((with_reducible refine gate_builtin (b := .append) (xs := #[.tmp 104, .tmp 106]) rfl ?_); at_builtin; refine Kd.R_append (Kd.int .i64) (w0 := w) w.heap.size rfl (.tmp 104) (.tmp 106) 124 3 (.int .i64 0) 8 rfl Try.underlying124 info3 rfl (by decide) (by omega) u13 x13_4 0 [.int .i64 0] (fun k_ => some k_ ≠ (.slice (some ad219) t213.length co53 : Value).ownBlock ∧ some k_ ≠ (.slice (some ad236) t216.length co104 : Value).ownBlock) (fun _ => False) rfl rfl ?aP (fun _ hk => hk.elim) ?aF ?aO ?aB ?aS ?aL ?_; (case aP => exact rfl); (case aB => exact (by repeat (first | (with_reducible first | exact HB.out | apply below_alloc | apply pw_below_drewN | apply below_drew1) | exact HB.out))); (case aF => exact (fun k_ hk => ⟨Kd.fresh' (Kd.R_lt (by (with_reducible repeat (first | apply Kd.R_alloc | apply Kd.R_drewN | apply Kd.R_drew)); exact HO_10.out)) k_ hk, Kd.fresh' (Kd.R_lt (by (with_reducible repeat (first | apply Kd.R_alloc | apply Kd.R_drewN | apply Kd.R_drew)); exact HO_11.out)) k_ hk⟩)); (case aO => exact (by (with_reducible repeat (first | apply Kd.R_alloc | apply Kd.R_drewN | apply Kd.R_drew)); exact HO_13.out)); (case aS => exact (below_size (by repeat (first | (with_reducible first | exact HB.out | apply below_alloc | apply pw_below_drewN | apply below_drew1) | exact HB.out)))); (case aL => have := LMc103.out; omega); intro v268 w105 ho hb hg hat; rw [← Ny267.out] at ho; have n0_ := Aside0.mk (Kd.R_after (ok := (fun k_ => some k_ ≠ (.slice (some ad236) t216.length co104 : Value).ownBlock)) (by (with_reducible repeat (first | apply Kd.R_alloc | apply Kd.R_drewN | apply Kd.R_drew)); exact HO_10.out) hg hat); have n1_ := Aside0.mk (Kd.R_after (ok := (fun k_ => some k_ ≠ (.slice (some ad219) t213.length co53 : Value).ownBlock)) (by (with_reducible repeat (first | apply Kd.R_alloc | apply Kd.R_drewN | apply Kd.R_drew)); exact HO_11.out) hg hat); have n2_ := Aside0.mk (hb); have n3_ := Aside0.mk (ho); clear HO_10; clear HO_11; clear HB; clear HO_13; have HO_10 := n0_; have HO_11 := n1_; have HB := n2_; have HO269 := n3_; clear n0_ n1_ n2_ n3_; clear ho hb hg hat)))
                            go_roundg k4
                            case measure => have := HJ6.out; have := HJ9.out; have := HJ49.out; have := HK4.out; omega
                            case rel => exact ⟨(y267), (wrap64 (x14_4 + 1)), (by first | rfl | (simp; done) | (simp [*]; done)), H', ⟨by have := HJ6.out; have := HJ9.out; have := HJ49.out; have := HK4.out; omega⟩, ⟨by (with_reducible repeat (first | apply Kd.R_alloc | apply Kd.R_drewN | apply Kd.R_drew)); exact HO_10.out⟩, ⟨by (with_reducible repeat (first | apply Kd.R_alloc | apply Kd.R_drewN | apply Kd.R_drew)); exact HO_11.out⟩, ⟨by (with_reducible repeat (first | apply Kd.R_alloc | apply Kd.R_drewN | apply Kd.R_drew)); exact HO269.out⟩, ⟨by repeat (first | (with_reducible first | exact HB.out | apply below_alloc | apply pw_below_drewN | apply below_drew1) | exact HB.out)⟩⟩
                           ·rw [if_neg c103] at H
                            exact absurd H (by simp)
                         ·rw [if_neg c98] at H
                          have c98b0 : (a0 == 10) = false := beq_eq_false_iff_ne.mpr c98
                          have c98b1 : (a0 != 10) = true := bne_iff_ne.mpr c98
                          by_cases c106 : x13_4.length < 17592186044416
                          ·rw [if_pos c106] at H
                           have LMc106 := Aside0.mk c106
                           clear c106
                           obtain ⟨y270, hy270⟩ : ∃ y_ : List Int, y_ = (x13_4 ++ [0]) := ⟨_, rfl⟩
                           replace H : (retargetref01_Binary.l0 k4 a0 a1 t213 t216 y270 (wrap64 (x14_4 + 1))) = some (r1, r2) := by first | (rw [hy270]; with_reducible exact H) | (have H2_ := (Option.bind_some _ _).symm.trans H; rw [hy270]; with_reducible exact H2_) | (have H2_ := (Option.bind_some _ _).symm.trans H; with_reducible exact H2_) | with_reducible exact H | (rw [hy270]; exact H) | exact H
                           have Ny270 := Aside0.mk hy270
                           clear hy270
                           have H' := Aside0.mk H
                           clear H
                           have p235 : 0 ≤ (x14_4 : Int) := of_decide_eq_true (by first | (with_reducible assumption) | assumption)
                           have q235 : x14_4 < (t213.length : Int) := of_decide_eq_true (by first | (with_reducible assumption) | assumption)
                           obtain ⟨ad235, e235, hx235_0⟩ := Kd.at_int (Kd.R_reads' HO_10.out).2.2 x14_4 p235 q235
                           obtain rfl : ad219 = ad235 := (by injection e235)
                           replace p235 := eq_true p235
                           replace q235 := eq_true q235
                           obtain ⟨Ao107, co107, eo107⟩ := Kd.R_slice HO_11.out
                           subst eo107
                           have p236 : 0 ≤ (x14_4 : Int) := of_decide_eq_true (by first | (with_reducible assumption) | assumption)
                           have q236 : x14_4 < (t216.length : Int) := of_decide_eq_true (by first | (with_reducible assumption) | assumption)
                           obtain ⟨ad236, e236, hx236_0⟩ := Kd.at_int (Kd.R_reads' HO_11.out).2.2 x14_4 p236 q236
                           cases e236
                           replace p236 := eq_true p236
                           replace q236 := eq_true q236
                           go_wp2_with (first | ((with_reducible refine gate_builtin (b := .append) (xs := #[.tmp 104, .tmp 106]) rfl ?_); at_builtin; refine Kd.R_append (Kd.int .i64) (w0 := w) w.heap.size rfl (.tmp 104) (.tmp 106) 124 3 (.int .i64 0) 8 rfl Try.underlying124 info3 rfl (by decide) (by omega) u13 x13_4 0 [.int .i64 0] (fun k_ => some k_ ≠ (.slice (some ad219) t213.length co53 : Value).ownBlock ∧ some k_ ≠ (.slice (some ad236) t216.length co107 : Value).ownBlock) (fun _ => False) rfl rfl ?aP (fun _ hk => hk.elim) ?aF ?aO ?aB ?aS ?aL ?_; (case aP => exact rfl); (case aB => exact (by repeat (first | (with_reducible first | exact HB.out | apply below_alloc | apply pw_below_drewN | apply below_drew1) | exact HB.out))); (case aF => exact (fun k_ hk => ⟨Kd.fresh' (Kd.R_lt (by (with_reducible repeat (first | apply Kd.R_alloc | apply Kd.R_drewN | apply Kd.R_drew)); exact HO_10.out)) k_ hk, Kd.fresh' (Kd.R_lt (by (with_reducible repeat (first | apply Kd.R_alloc | apply Kd.R_drewN | apply Kd.R_drew)); exact HO_11.out)) k_ hk⟩)); (case aO => exact (by (with_reducible repeat (first | apply Kd.R_alloc | apply Kd.R_drewN | apply Kd.R_drew)); exact HO_13.out)); (case aS => exact (below_size (by repeat (first | (with_reducible first | exact HB.out | apply below_alloc | apply pw_below_drewN | apply below_drew1) | exact HB.out)))); (case aL => have := LMc106.out; omega); intro v271 w108 ho hb hg hat; rw [← Ny270.out] at ho; have n0_ := Aside0.mk (Kd.R_after (ok := (fun k_ => some k_ ≠ (.slice (some ad236) t216.length co107 : Value).ownBlock)) (by (with_reducible repeat (first | apply Kd.R_alloc | apply Kd.R_drewN | apply Kd.R_drew)); exact HO_10.out) hg hat); have n1_ := Aside0.mk (Kd.R_after (ok := (fun k_ => some k_ ≠ (.slice (some ad219) t213.length co53 : Value).ownBlock)) (by (with_reducible repeat (first | apply Kd.R_alloc | apply Kd.R_drewN | apply Kd.R_drew)); exact HO_11.out) hg hat); have n2_ := Aside0.mk (hb); have n3_ := Aside0.mk (ho); clear HO_10; clear HO_11; clear HB; clear HO_13; have HO_10 := n0_; have HO_11 := n1_; have HB := n2_; have HO272 := n3_; clear n0_ n1_ n2_ n3_; clear ho hb hg hat))
                           repeat (go_quiet (first | ((with_reducible refine gate_builtin (b := .append) (xs := #[.tmp 104, .tmp 106]) rfl ?_); at_builtin; refine Kd.R_append (Kd.int .i64) (w0 := w) w.heap.size rfl (.tmp 104) (.tmp 106) 124 3 (.int .i64 0) 8 rfl Try.underlying124 info3 rfl (by decide) (by omega) u13 x13_4 0 [.int .i64 0] (fun k_ => some k_ ≠ (.slice (some ad219) t213.length co53 : Value).ownBlock ∧ some k_ ≠ (.slice (some ad236) t216.length co107 : Value).ownBlock) (fun _ => False) rfl rfl ?aP (fun _ hk => hk.elim) ?aF ?aO ?aB ?aS ?aL ?_; (case aP => exact rfl); (case aB => exact (by repeat (first | (with_reducible first | exact HB.out | apply below_alloc | apply pw_below_drewN | apply below_drew1) | exact HB.out))); (case aF => exact (fun k_ hk => ⟨Kd.fresh' (Kd.R_lt (by (with_reducible repeat (first | apply Kd.R_alloc | apply Kd.R_drewN | apply Kd.R_drew)); exact HO_10.out)) k_ hk, Kd.fresh' (Kd.R_lt (by (with_reducible repeat (first | apply Kd.R_alloc | apply Kd.R_drewN | apply Kd.R_drew)); exact HO_11.out)) k_ hk⟩)); (case aO => exact (by (with_reducible repeat (first | apply Kd.R_alloc | apply Kd.R_drewN | apply Kd.R_drew)); exact HO_13.out)); (case aS => exact (below_size (by repeat (first | (with_reducible first | exact HB.out | apply below_alloc | apply pw_below_drewN | apply below_drew1) | exact HB.out)))); (case aL => have := LMc106.out; omega); intro v271 w108 ho hb hg hat; rw [← Ny270.out] at ho; have n0_ := Aside0.mk (Kd.R_after (ok := (fun k_ => some k_ ≠ (.slice (some ad236) t216.length co107 : Value).ownBlock)) (by (with_reducible repeat (first | apply Kd.R_alloc | apply Kd.R_drewN | apply Kd.R_drew)); exact HO_10.out) hg hat); have n1_ := Aside0.mk (Kd.R_after (ok := (fun k_ => some k_ ≠ (.slice (some ad219) t213.length co53 : Value).ownBlock)) (by (with_reducible repeat (first | apply Kd.R_alloc | apply Kd.R_drewN | apply Kd.R_drew)); exact HO_11.out) hg hat); have n2_ := Aside0.mk (hb); have n3_ := Aside0.mk (ho); clear HO_10; clear HO_11; clear HB; clear HO_13; have HO_10 := n0_; have HO_11 := n1_; have HB := n2_; have HO272 := n3_; clear n0_ n1_ n2_ n3_; clear ho hb hg hat)); try go_wp2_with (first | ((with_reducible refine gate_builtin (b := .append) (xs := #[.tmp 104, .tmp 106]) rfl ?_); at_builtin; refine Kd.R_append (Kd.int .i64) (w0 := w) w.heap.size rfl (.tmp 104) (.tmp 106) 124 3 (.int .i64 0) 8 rfl Try.underlying124 info3 rfl (by decide) (by omega) u13 x13_4 0 [.int .i64 0] (fun k_ => some k_ ≠ (.slice (some ad219) t213.length co53 : Value).ownBlock ∧ some k_ ≠ (.slice (some ad236) t216.length co107 : Value).ownBlock) (fun _ => False) rfl rfl ?aP (fun _ hk => hk.elim) ?aF ?aO ?aB ?aS ?aL ?_; (case aP => exact rfl); (case aB => exact (by repeat (first | (with_reducible first | exact HB.out | apply below_alloc | apply pw_below_drewN | apply below_drew1) | exact HB.out))); (case aF => exact (fun k_ hk => ⟨Kd.fresh' (Kd.R_lt (by (with_reducible repeat (first | apply Kd.R_alloc | apply Kd.R_drewN | apply Kd.R_drew)); exact HO_10.out)) k_ hk, Kd.fresh' (Kd.R_lt (by (with_reducible repeat (first | apply Kd.R_alloc | apply Kd.R_drewN | apply Kd.R_drew)); exact HO_11.out)) k_ hk⟩)); (case aO => exact (by (with_reducible repeat (first | apply Kd.R_alloc | apply Kd.R_drewN | apply Kd.R_drew)); exact HO_13.out)); (case aS => exact (below_size (by repeat (first | (with_reducible first | exact HB.out | apply below_alloc | apply pw_below_drewN | apply below_drew1) | exact HB.out)))); (case aL => have := LMc106.out; omega); intro v271 w108 ho hb hg hat; rw [← Ny270.out] at ho; have n0_ := Aside0.mk (Kd.R_after (ok := (fun k_ => some k_ ≠ (.slice (some ad236) t216.length co107 : Value).ownBlock)) (by (with_reducible repeat (first | apply Kd.R_alloc | apply Kd.R_drewN | apply Kd.R_drew)); exact HO_10.out) hg hat); have n1_ := Aside0.mk (Kd.R_after (ok := (fun k_ => some k_ ≠ (.slice (some ad219) t213.length co53 : Value).ownBlock)) (by (with_reducible repeat (first | apply Kd.R_alloc | apply Kd.R_drewN | apply Kd.R_drew)); exact HO_11.out) hg hat); have n2_ := Aside0.mk (hb); have n3_ := Aside0.mk (ho); clear HO_10; clear HO_11; clear HB; clear HO_13; have HO_10 := n0_; have HO_11 := n1_; have HB := n2_; have HO272 := n3_; clear n0_ n1_ n2_ n3_; clear ho hb hg hat)))
                           go_roundg k4
                           case measure => have := HJ6.out; have := HJ9.out; have := HJ49.out; have := HK4.out; omega
                           case rel => exact ⟨(y270), (wrap64 (x14_4 + 1)), (by first | rfl | (simp; done) | (simp [*]; done)), H', ⟨by have := HJ6.out; have := HJ9.out; have := HJ49.out; have := HK4.out; omega⟩, ⟨by (with_reducible repeat (first | apply Kd.R_alloc | apply Kd.R_drewN | apply Kd.R_drew)); exact HO_10.out⟩, ⟨by (with_reducible repeat (first | apply Kd.R_alloc | apply Kd.R_drewN | apply Kd.R_drew)); exact HO_11.out⟩, ⟨by (with_reducible repeat (first | apply Kd.R_alloc | apply Kd.R_drewN | apply Kd.R_drew)); exact HO272.out⟩, ⟨by repeat (first | (with_reducible first | exact HB.out | apply below_alloc | apply pw_below_drewN | apply below_drew1) | exact HB.out)⟩⟩
                          ·rw [if_neg c106] at H
                           exact absurd H (by simp)
                       ·rw [if_neg c93] at H
                        have c93b0 : (a0 == 9) = false := beq_eq_false_iff_ne.mpr c93
                        have c93b1 : (a0 != 9) = true := bne_iff_ne.mpr c93
                        by_cases c109 : a0 = 10
                        ·rw [if_pos c109] at H
                         have c109b0 : (a0 == 10) = true := beq_iff_eq.mpr c109
                         have c109b1 : (a0 != 10) = false := bne_eq_false_iff_eq.mpr c109
                         clear c109
                         by_cases c110 : (wrap64 ((rd t213 x14_4) + (rd t216 x14_4))) = 1
                         ·rw [if_pos c110] at H
                          have c110b0 : ((wrap64 ((rd t213 x14_4) + (rd t216 x14_4))) == 1) = true := beq_iff_eq.mpr c110
                          have c110b1 : ((wrap64 ((rd t213 x14_4) + (rd t216 x14_4))) != 1) = false := bne_eq_false_iff_eq.mpr c110
                          clear c110
                          by_cases c111 : x13_4.length < 17592186044416
                          ·rw [if_pos c111] at H
                           have LMc111 := Aside0.mk c111
                           clear c111
                           obtain ⟨y273, hy273⟩ : ∃ y_ : List Int, y_ = (x13_4 ++ [1]) := ⟨_, rfl⟩
                           replace H : (retargetref01_Binary.l0 k4 a0 a1 t213 t216 y273 (wrap64 (x14_4 + 1))) = some (r1, r2) := by first | (rw [hy273]; with_reducible exact H) | (have H2_ := (Option.bind_some _ _).symm.trans H; rw [hy273]; with_reducible exact H2_) | (have H2_ := (Option.bind_some _ _).symm.trans H; with_reducible exact H2_) | with_reducible exact H | (rw [hy273]; exact H) | exact H
                           have Ny273 := Aside0.mk hy273
                           clear hy273
                           have H' := Aside0.mk H
                           clear H
                           have p235 : 0 ≤ (x14_4 : Int) := of_decide_eq_true (by first | (with_reducible assumption) | assumption)
                           have q235 : x14_4 < (t213.length : Int) := of_decide_eq_true (by first | (with_reducible assumption) | assumption)
                           obtain ⟨ad235, e235, hx235_0⟩ := Kd.at_int (Kd.R_reads' HO_10.out).2.2 x14_4 p235 q235
                           obtain rfl : ad219 = ad235 := (by injection e235)
                           replace p235 := eq_true p235
                           replace q235 := eq_true q235
                           obtain ⟨Ao112, co112, eo112⟩ := Kd.R_slice HO_11.out
                           subst eo112
                           have p236 : 0 ≤ (x14_4 : Int) := of_decide_eq_true (by first | (with_reducible assumption) | assumption)
                           have q236 : x14_4 < (t216.length : Int) := of_decide_eq_true (by first | (with_reducible assumption) | assumption)
                           obtain ⟨ad236, e236, hx236_0⟩ := Kd.at_int (Kd.R_reads' HO_11.out).2.2 x14_4 p236 q236
                           cases e236
                           replace p236 := eq_true p236
                           replace q236 := eq_true q236
                           go_wp2_with (first | ((with_reducible refine gate_builtin (b := .append) (xs := #[.tmp 104, .tmp 106]) rfl ?_); at_builtin; refine Kd.R_append (Kd.int .i64) (w0 := w) w.heap.size rfl (.tmp 104) (.tmp 106) 124 3 (.int .i64 0) 8 rfl Try.underlying124 info3 rfl (by decide) (by omega) u13 x13_4 1 [.int .i64 1] (fun k_ => some k_ ≠ (.slice (some ad219) t213.length co53 : Value).ownBlock ∧ some k_ ≠ (.slice (some ad236) t216.length co112 : Value).ownBlock) (fun _ => False) rfl rfl ?aP (fun _ hk => hk.elim) ?aF ?aO ?aB ?aS ?aL ?_; (case aP => exact rfl); (case aB => exact (by repeat (first | (with_reducible first | exact HB.out | apply below_alloc | apply pw_below_drewN | apply below_drew1) | exact HB.out))); (case aF => exact (fun k_ hk => ⟨Kd.fresh' (Kd.R_lt (by (with_reducible repeat (first | apply Kd.R_alloc | apply Kd.R_drewN | apply Kd.R_drew)); exact HO_10.out)) k_ hk, Kd.fresh' (Kd.R_lt (by (with_reducible repeat (first | apply Kd.R_alloc | apply Kd.R_drewN | apply Kd.R_drew)); exact HO_11.out)) k_ hk⟩)); (case aO => exact (by (with_reducible repeat (first | apply Kd.R_alloc | apply Kd.R_drewN | apply Kd.R_drew)); exact HO_13.out)); (case aS => exact (below_size (by repeat (first | (with_reducible first | exact HB.out | apply below_alloc | apply pw_below_drewN | apply below_drew1) | exact HB.out)))); (case aL => have := LMc111.out; omega); intro v274 w113 ho hb hg hat; rw [← Ny273.out] at ho; have n0_ := Aside0.mk (Kd.R_after (ok := (fun k_ => some k_ ≠ (.slice (some ad236) t216.length co112 : Value).ownBlock)) (by (with_reducible repeat (first | apply Kd.R_alloc | apply Kd.R_drewN | apply Kd.R_drew)); exact HO_10.out) hg hat); have n1_ := Aside0.mk (Kd.R_after (ok := (fun k_ => some k_ ≠ (.slice (some ad219) t213.length co53 : Value).ownBlock)) (by (with_reducible repeat (first | apply Kd.R_alloc | apply Kd.R_drewN | apply Kd.R_drew)); exact HO_11.out) hg hat); have n2_ := Aside0.mk (hb); have n3_ := Aside0.mk (ho); clear HO_10; clear HO_11; clear HB; clear HO_13; have HO_10 := n0_; have HO_11 := n1_; have HB := n2_; have HO275 := n3_; clear n0_ n1_ n2_ n3_; clear ho hb hg hat))
                           repeat (go_quiet (first | ((with_reducible refine gate_builtin (b := .append) (xs := #[.tmp 104, .tmp 106]) rfl ?_); at_builtin; refine Kd.R_append (Kd.int .i64) (w0 := w) w.heap.size rfl (.tmp 104) (.tmp 106) 124 3 (.int .i64 0) 8 rfl Try.underlying124 info3 rfl (by decide) (by omega) u13 x13_4 1 [.int .i64 1] (fun k_ => some k_ ≠ (.slice (some ad219) t213.length co53 : Value).ownBlock ∧ some k_ ≠ (.slice (some ad236) t216.length co112 : Value).ownBlock) (fun _ => False) rfl rfl ?aP (fun _ hk => hk.elim) ?aF ?aO ?aB ?aS ?aL ?_; (case aP => exact rfl); (case aB => exact (by repeat (first | (with_reducible first | exact HB.out | apply below_alloc | apply pw_below_drewN | apply below_drew1) | exact HB.out))); (case aF => exact (fun k_ hk => ⟨Kd.fresh' (Kd.R_lt (by (with_reducible repeat (first | apply Kd.R_alloc | apply Kd.R_drewN | apply Kd.R_drew)); exact HO_10.out)) k_ hk, Kd.fresh' (Kd.R_lt (by (with_reducible repeat (first | apply Kd.R_alloc | apply Kd.R_drewN | apply Kd.R_drew)); exact HO_11.out)) k_ hk⟩)); (case aO => exact (by (with_reducible repeat (first | apply Kd.R_alloc | apply Kd.R_drewN | apply Kd.R_drew)); exact HO_13.out)); (case aS => exact (below_size (by repeat (first | (with_reducible first | exact HB.out | apply below_alloc | apply pw_below_drewN | apply below_drew1) | exact HB.out)))); (case aL => have := LMc111.out; omega); intro v274 w113 ho hb hg hat; rw [← Ny273.out] at ho; have n0_ := Aside0.mk (Kd.R_after (ok := (fun k_ => some k_ ≠ (.slice (some ad236) t216.length co112 : Value).ownBlock)) (by (with_reducible repeat (first | apply Kd.R_alloc | apply Kd.R_drewN | apply Kd.R_drew)); exact HO_10.out) hg hat); have n1_ := Aside0.mk (Kd.R_after (ok := (fun k_ => some k_ ≠ (.slice (some ad219) t213.length co53 : Value).ownBlock)) (by (with_reducible repeat (first | apply Kd.R_alloc | apply Kd.R_drewN | apply Kd.R_drew)); exact HO_11.out) hg hat); have n2_ := Aside0.mk (hb); have n3_ := Aside0.mk (ho); clear HO_10; clear HO_11; clear HB; clear HO_13; have HO_10 := n0_; have HO_11 := n1_; have HB := n2_; have HO275 := n3_; clear n0_ n1_ n2_ n3_; clear ho hb hg hat)); try go_wp2_with (first | ((with_reducible refine gate_builtin (b := .append) (xs := #[.tmp 104, .tmp 106]) rfl ?_); at_builtin; refine Kd.R_append (Kd.int .i64) (w0 := w) w.heap.size rfl (.tmp 104) (.tmp 106) 124 3 (.int .i64 0) 8 rfl Try.underlying124 info3 rfl (by decide) (by omega) u13 x13_4 1 [.int .i64 1] (fun k_ => some k_ ≠ (.slice (some ad219) t213.length co53 : Value).ownBlock ∧ some k_ ≠ (.slice (some ad236) t216.length co112 : Value).ownBlock) (fun _ => False) rfl rfl ?aP (fun _ hk => hk.elim) ?aF ?aO ?aB ?aS ?aL ?_; (case aP => exact rfl); (case aB => exact (by repeat (first | (with_reducible first | exact HB.out | apply below_alloc | apply pw_below_drewN | apply below_drew1) | exact HB.out))); (case aF => exact (fun k_ hk => ⟨Kd.fresh' (Kd.R_lt (by (with_reducible repeat (first | apply Kd.R_alloc | apply Kd.R_drewN | apply Kd.R_drew)); exact HO_10.out)) k_ hk, Kd.fresh' (Kd.R_lt (by (with_reducible repeat (first | apply Kd.R_alloc | apply Kd.R_drewN | apply Kd.R_drew)); exact HO_11.out)) k_ hk⟩)); (case aO => exact (by (with_reducible repeat (first | apply Kd.R_alloc | apply Kd.R_drewN | apply Kd.R_drew)); exact HO_13.out)); (case aS => exact (below_size (by repeat (first | (with_reducible first | exact HB.out | apply below_alloc | apply pw_below_drewN | apply below_drew1) | exact HB.out)))); (case aL => have := LMc111.out; omega); intro v274 w113 ho hb hg hat; rw [← Ny273.out] at ho; have n0_ := Aside0.mk (Kd.R_after (ok := (fun k_ => some k_ ≠ (.slice (some ad236) t216.length co112 : Value).ownBlock)) (by (with_reducible repeat (first | apply Kd.R_alloc | apply Kd.R_drewN | apply Kd.R_drew)); exact HO_10.out) hg hat); have n1_ := Aside0.mk (Kd.R_after (ok := (fun k_ => some k_ ≠ (.slice (some ad219) t213.length co53 : Value).ownBlock)) (by (with_reducible repeat (first | apply Kd.R_alloc | apply Kd.R_drewN | apply Kd.R_drew)); exact HO_11.out) hg hat); have n2_ := Aside0.mk (hb); have n3_ := Aside0.mk (ho); clear HO_10; clear HO_11; clear HB; clear HO_13; have HO_10 := n0_; have HO_11 := n1_; have HB := n2_; have HO275 := n3_; clear n0_ n1_ n2_ n3_; clear ho hb hg hat)))
                           go_roundg k4
                           case measure => have := HJ6.out; have := HJ9.out; have := HJ49.out; have := HK4.out; omega
                           case rel => exact ⟨(y273), (wrap64 (x14_4 + 1)), (by first | rfl | (simp; done) | (simp [*]; done)), H', ⟨by have := HJ6.out; have := HJ9.out; have := HJ49.out; have := HK4.out; omega⟩, ⟨by (with_reducible repeat (first | apply Kd.R_alloc | apply Kd.R_drewN | apply Kd.R_drew)); exact HO_10.out⟩, ⟨by (with_reducible repeat (first | apply Kd.R_alloc | apply Kd.R_drewN | apply Kd.R_drew)); exact HO_11.out⟩, ⟨by (with_reducible repeat (first | apply Kd.R_alloc | apply Kd.R_drewN | apply Kd.R_drew)); exact HO275.out⟩, ⟨by repeat (first | (with_reducible first | exact HB.out | apply below_alloc | apply pw_below_drewN | apply below_drew1) | exact HB.out)⟩⟩
                          ·rw [if_neg c111] at H
                           exact absurd H (by simp)
                         ·rw [if_neg c110] at H
                          have c110b0 : ((wrap64 ((rd t213 x14_4) + (rd t216 x14_4))) == 1) = false := beq_eq_false_iff_ne.mpr c110
                          have c110b1 : ((wrap64 ((rd t213 x14_4) + (rd t216 x14_4))) != 1) = true := bne_iff_ne.mpr c110
                          by_cases c114 : x13_4.length < 17592186044416
                          ·rw [if_pos c114] at H
                           have LMc114 := Aside0.mk c114
                           clear c114
                           obtain ⟨y276, hy276⟩ : ∃ y_ : List Int, y_ = (x13_4 ++ [0]) := ⟨_, rfl⟩
                           replace H : (retargetref01_Binary.l0 k4 a0 a1 t213 t216 y276 (wrap64 (x14_4 + 1))) = some (r1, r2) := by first | (rw [hy276]; with_reducible exact H) | (have H2_ := (Option.bind_some _ _).symm.trans H; rw [hy276]; with_reducible exact H2_) | (have H2_ := (Option.bind_some _ _).symm.trans H; with_reducible exact H2_) | with_reducible exact H | (rw [hy276]; exact H) | exact H
                           have Ny276 := Aside0.mk hy276
                           clear hy276
                           have H' := Aside0.mk H
                           clear H
                           have p235 : 0 ≤ (x14_4 : Int) := of_decide_eq_true (by first | (with_reducible assumption) | assumption)
                           have q235 : x14_4 < (t213.length : Int) := of_decide_eq_true (by first | (with_reducible assumption) | assumption)
                           obtain ⟨ad235, e235, hx235_0⟩ := Kd.at_int (Kd.R_reads' HO_10.out).2.2 x14_4 p235 q235
                           obtain rfl : ad219 = ad235 := (by injection e235)
                           replace p235 := eq_true p235
                           replace q235 := eq_true q235
                           obtain ⟨Ao115, co115, eo115⟩ := Kd.R_slice HO_11.out
                           subst eo115
                           have p236 : 0 ≤ (x14_4 : Int) := of_decide_eq_true (by first | (with_reducible assumption) | assumption)
                           have q236 : x14_4 < (t216.length : Int) := of_decide_eq_true (by first | (with_reducible assumption) | assumption)
                           obtain ⟨ad236, e236, hx236_0⟩ := Kd.at_int (Kd.R_reads' HO_11.out).2.2 x14_4 p236 q236
                           cases e236
                           replace p236 := eq_true p236
                           replace q236 := eq_true q236
                           go_wp2_with (first | ((with_reducible refine gate_builtin (b := .append) (xs := #[.tmp 104, .tmp 106]) rfl ?_); at_builtin; refine Kd.R_append (Kd.int .i64) (w0 := w) w.heap.size rfl (.tmp 104) (.tmp 106) 124 3 (.int .i64 0) 8 rfl Try.underlying124 info3 rfl (by decide) (by omega) u13 x13_4 0 [.int .i64 0] (fun k_ => some k_ ≠ (.slice (some ad219) t213.length co53 : Value).ownBlock ∧ some k_ ≠ (.slice (some ad236) t216.length co115 : Value).ownBlock) (fun _ => False) rfl rfl ?aP (fun _ hk => hk.elim) ?aF ?aO ?aB ?aS ?aL ?_; (case aP => exact rfl); (case aB => exact (by repeat (first | (with_reducible first | exact HB.out | apply below_alloc | apply pw_below_drewN | apply below_drew1) | exact HB.out))); (case aF => exact (fun k_ hk => ⟨Kd.fresh' (Kd.R_lt (by (with_reducible repeat (first | apply Kd.R_alloc | apply Kd.R_drewN | apply Kd.R_drew)); exact HO_10.out)) k_ hk, Kd.fresh' (Kd.R_lt (by (with_reducible repeat (first | apply Kd.R_alloc | apply Kd.R_drewN | apply Kd.R_drew)); exact HO_11.out)) k_ hk⟩)); (case aO => exact (by (with_reducible repeat (first | apply Kd.R_alloc | apply Kd.R_drewN | apply Kd.R_drew)); exact HO_13.out)); (case aS => exact (below_size (by repeat (first | (with_reducible first | exact HB.out | apply below_alloc | apply pw_below_drewN | apply below_drew1) | exact HB.out)))); (case aL => have := LMc114.out; omega); intro v277 w116 ho hb hg hat; rw [← Ny276.out] at ho; have n0_ := Aside0.mk (Kd.R_after (ok := (fun k_ => some k_ ≠ (.slice (some ad236) t216.length co115 : Value).ownBlock)) (by (with_reducible repeat (first | apply Kd.R_alloc | apply Kd.R_drewN | apply Kd.R_drew)); exact HO_10.out) hg hat); have n1_ := Aside0.mk (Kd.R_after (ok := (fun k_ => some k_ ≠ (.slice (some ad219) t213.length co53 : Value).ownBlock)) (by (with_reducible repeat (first | apply Kd.R_alloc | apply Kd.R_drewN | apply Kd.R_drew)); exact HO_11.out) hg hat); have n2_ := Aside0.mk (hb); have n3_ := Aside0.mk (ho); clear HO_10; clear HO_11; clear HB; clear HO_13; have HO_10 := n0_; have HO_11 := n1_; have HB := n2_; have HO278 := n3_; clear n0_ n1_ n2_ n3_; clear ho hb hg hat))
                           repeat (go_quiet (first | ((with_reducible refine gate_builtin (b := .append) (xs := #[.tmp 104, .tmp 106]) rfl ?_); at_builtin; refine Kd.R_append (Kd.int .i64) (w0 := w) w.heap.size rfl (.tmp 104) (.tmp 106) 124 3 (.int .i64 0) 8 rfl Try.underlying124 info3 rfl (by decide) (by omega) u13 x13_4 0 [.int .i64 0] (fun k_ => some k_ ≠ (.slice (some ad219) t213.length co53 : Value).ownBlock ∧ some k_ ≠ (.slice (some ad236) t216.length co115 : Value).ownBlock) (fun _ => False) rfl rfl ?aP (fun _ hk => hk.elim) ?aF ?aO ?aB ?aS ?aL ?_; (case aP => exact rfl); (case aB => exact (by repeat (first | (with_reducible first | exact HB.out | apply below_alloc | apply pw_below_drewN | apply below_drew1) | exact HB.out))); (case aF => exact (fun k_ hk => ⟨Kd.fresh' (Kd.R_lt (by (with_reducible repeat (first | apply Kd.R_alloc | apply Kd.R_drewN | apply Kd.R_drew)); exact HO_10.out)) k_ hk, Kd.fresh' (Kd.R_lt (by (with_reducible repeat (first | apply Kd.R_alloc | apply Kd.R_drewN | apply Kd.R_drew)); exact HO_11.out)) k_ hk⟩)); (case aO => exact (by (with_reducible repeat (first | apply Kd.R_alloc | apply Kd.R_drewN | apply Kd.R_drew)); exact HO_13.out)); (case aS => exact (below_size (by repeat (first | (with_reducible first | exact HB.out | apply below_alloc | apply pw_below_drewN | apply below_drew1) | exact HB.out)))); (case aL => have := LMc114.out; omega); intro v277 w116 ho hb hg hat; rw [← Ny276.out] at ho; have n0_ := Aside0.mk (Kd.R_after (ok := (fun k_ => some k_ ≠ (.slice (some ad236) t216.length co115 : Value).ownBlock)) (by (with_reducible repeat (first | apply Kd.R_alloc | apply Kd.R_drewN | apply Kd.R_drew)); exact HO_10.out) hg hat); have n1_ := Aside0.mk (Kd.R_after (ok := (fun k_ => some k_ ≠ (.slice (some ad219) t213.length co53 : Value).ownBlock)) (by (with_reducible repeat (first | apply Kd.R_alloc | apply Kd.R_drewN | apply Kd.R_drew)); exact HO_11.out) hg hat); have n2_ := Aside0.mk (hb); have n3_ := Aside0.mk (ho); clear HO_10; clear HO_11; clear HB; clear HO_13; have HO_10 := n0_; have HO_11 := n1_; have HB := n2_; have HO278 := n3_; clear n0_ n1_ n2_ n3_; clear ho hb hg hat)); try go_wp2_with (first | ((with_reducible refine gate_builtin (b := .append) (xs := #[.tmp 104, .tmp 106]) rfl ?_); at_builtin; refine Kd.R_append (Kd.int .i64) (w0 := w) w.heap.size rfl (.tmp 104) (.tmp 106) 124 3 (.int .i64 0) 8 rfl Try.underlying124 info3 rfl (by decide) (by omega) u13 x13_4 0 [.int .i64 0] (fun k_ => some k_ ≠ (.slice (some ad219) t213.length co53 : Value).ownBlock ∧ some k_ ≠ (.slice (some ad236) t216.length co115 : Value).ownBlock) (fun _ => False) rfl rfl ?aP (fun _ hk => hk.elim) ?aF ?aO ?aB ?aS ?aL ?_; (case aP => exact rfl); (case aB => exact (by repeat (first | (with_reducible first | exact HB.out | apply below_alloc | apply pw_below_drewN | apply below_drew1) | exact HB.out))); (case aF => exact (fun k_ hk => ⟨Kd.fresh' (Kd.R_lt (by (with_reducible repeat (first | apply Kd.R_alloc | apply Kd.R_drewN | apply Kd.R_drew)); exact HO_10.out)) k_ hk, Kd.fresh' (Kd.R_lt (by (with_reducible repeat (first | apply Kd.R_alloc | apply Kd.R_drewN | apply Kd.R_drew)); exact HO_11.out)) k_ hk⟩)); (case aO => exact (by (with_reducible repeat (first | apply Kd.R_alloc | apply Kd.R_drewN | apply Kd.R_drew)); exact HO_13.out)); (case aS => exact (below_size (by repeat (first | (with_reducible first | exact HB.out | apply below_alloc | apply pw_below_drewN | apply below_drew1) | exact HB.out)))); (case aL => have := LMc114.out; omega); intro v277 w116 ho hb hg hat; rw [← Ny276.out] at ho; have n0_ := Aside0.mk (Kd.R_after (ok := (fun k_ => some k_ ≠ (.slice (some ad236) t216.length co115 : Value).ownBlock)) (by (with_reducible repeat (first | apply Kd.R_alloc | apply Kd.R_drewN | apply Kd.R_drew)); exact HO_10.out) hg hat); have n1_ := Aside0.mk (Kd.R_after (ok := (fun k_ => some k_ ≠ (.slice (some ad219) t213.length co53 : Value).ownBlock)) (by (with_reducible repeat (first | apply Kd.R_alloc | apply Kd.R_drewN | apply Kd.R_drew)); exact HO_11.out) hg hat); have n2_ := Aside0.mk (hb); have n3_ := Aside0.mk (ho); clear HO_10; clear HO_11; clear HB; clear HO_13; have HO_10 := n0_; have HO_11 := n1_; have HB := n2_; have HO278 := n3_; clear n0_ n1_ n2_ n3_; clear ho hb hg hat)))
                           go_roundg k4
                           case measure => have := HJ6.out; have := HJ9.out; have := HJ49.out; have := HK4.out; omega
                           case rel => exact ⟨(y276), (wrap64 (x14_4 + 1)), (by first | rfl | (simp; done) | (simp [*]; done)), H', ⟨by have := HJ6.out; have := HJ9.out; have := HJ49.out; have := HK4.out; omega⟩, ⟨by (with_reducible repeat (first | apply Kd.R_alloc | apply Kd.R_drewN | apply Kd.R_drew)); exact HO_10.out⟩, ⟨by (with_reducible repeat (first | apply Kd.R_alloc | apply Kd.R_drewN | apply Kd.R_drew)); exact HO_11.out⟩, ⟨by (with_reducible repeat (first | apply Kd.R_alloc | apply Kd.R_drewN | apply Kd.R_drew)); exact HO278.out⟩, ⟨by repeat (first | (with_reducible first | exact HB.out | apply below_alloc | apply pw_below_drewN | apply below_drew1) | exact HB.out)⟩⟩
                          ·rw [if_neg c114] at H
                           exact absurd H (by simp)
                        ·rw [if_neg c109] at H
                         have c109b0 : (a0 == 10) = false := beq_eq_false_iff_ne.mpr c109
                         have c109b1 : (a0 != 10) = true := bne_iff_ne.mpr c109
                         by_cases c117 : x13_4.length < 17592186044416
                         ·rw [if_pos c117] at H
                          have LMc117 := Aside0.mk c117
                          clear c117
                          obtain ⟨y279, hy279⟩ : ∃ y_ : List Int, y_ = (x13_4 ++ [0]) := ⟨_, rfl⟩
                          replace H : (retargetref01_Binary.l0 k4 a0 a1 t213 t216 y279 (wrap64 (x14_4 + 1))) = some (r1, r2) := by first | (rw [hy279]; with_reducible exact H) | (have H2_ := (Option.bind_some _ _).symm.trans H; rw [hy279]; with_reducible exact H2_) | (have H2_ := (Option.bind_some _ _).symm.trans H; with_reducible exact H2_) | with_reducible exact H | (rw [hy279]; exact H) | exact H
                          have Ny279 := Aside0.mk hy279
                          clear hy279
                          have H' := Aside0.mk H
                          clear H
                          have p235 : 0 ≤ (x14_4 : Int) := of_decide_eq_true (by first | (with_reducible assumption) | assumption)
                          have q235 : x14_4 < (t213.length : Int) := of_decide_eq_true (by first | (with_reducible assumption) | assumption)
                          obtain ⟨ad235, e235, hx235_0⟩ := Kd.at_int (Kd.R_reads' HO_10.out).2.2 x14_4 p235 q235
                          obtain rfl : ad219 = ad235 := (by injection e235)
                          replace p235 := eq_true p235
                          replace q235 := eq_true q235
                          obtain ⟨Ao118, co118, eo118⟩ := Kd.R_slice HO_11.out
                          subst eo118
                          have p236 : 0 ≤ (x14_4 : Int) := of_decide_eq_true (by first | (with_reducible assumption) | assumption)
                          have q236 : x14_4 < (t216.length : Int) := of_decide_eq_true (by first | (with_reducible assumption) | assumption)
                          obtain ⟨ad236, e236, hx236_0⟩ := Kd.at_int (Kd.R_reads' HO_11.out).2.2 x14_4 p236 q236
                          cases e236
                          replace p236 := eq_true p236
                          replace q236 := eq_true q236
                          go_wp2_with (first | ((with_reducible refine gate_builtin (b := .append) (xs := #[.tmp 104, .tmp 106]) rfl ?_); at_builtin; refine Kd.R_append (Kd.int .i64) (w0 := w) w.heap.size rfl (.tmp 104) (.tmp 106) 124 3 (.int .i64 0) 8 rfl Try.underlying124 info3 rfl (by decide) (by omega) u13 x13_4 0 [.int .i64 0] (fun k_ => some k_ ≠ (.slice (some ad219) t213.length co53 : Value).ownBlock ∧ some k_ ≠ (.slice (some ad236) t216.length co118 : Value).ownBlock) (fun _ => False) rfl rfl ?aP (fun _ hk => hk.elim) ?aF ?aO ?aB ?aS ?aL ?_; (case aP => exact rfl); (case aB => exact (by repeat (first | (with_reducible first | exact HB.out | apply below_alloc | apply pw_below_drewN | apply below_drew1) | exact HB.out))); (case aF => exact (fun k_ hk => ⟨Kd.fresh' (Kd.R_lt (by (with_reducible repeat (first | apply Kd.R_alloc | apply Kd.R_drewN | apply Kd.R_drew)); exact HO_10.out)) k_ hk, Kd.fresh' (Kd.R_lt (by (with_reducible repeat (first | apply Kd.R_alloc | apply Kd.R_drewN | apply Kd.R_drew)); exact HO_11.out)) k_ hk⟩)); (case aO => exact (by (with_reducible repeat (first | apply Kd.R_alloc | apply Kd.R_drewN | apply Kd.R_drew)); exact HO_13.out)); (case aS => exact (below_size (by repeat (first | (with_reducible first | exact HB.out | apply below_alloc | apply pw_below_drewN | apply below_drew1) | exact HB.out)))); (case aL => have := LMc117.out; omega); intro v280 w119 ho hb hg hat; rw [← Ny279.out] at ho; have n0_ := Aside0.mk (Kd.R_after (ok := (fun k_ => some k_ ≠ (.slice (some ad236) t216.length co118 : Value).ownBlock)) (by (with_reducible repeat (first | apply Kd.R_alloc | apply Kd.R_drewN | apply Kd.R_drew)); exact HO_10.out) hg hat); have n1_ := Aside0.mk (Kd.R_after (ok := (fun k_ => some k_ ≠ (.slice (some ad219) t213.length co53 : Value).ownBlock)) (by (with_reducible repeat (first | apply Kd.R_alloc | apply Kd.R_drewN | apply Kd.R_drew)); exact HO_11.out) hg hat); have n2_ := Aside0.mk (hb); have n3_ := Aside0.mk (ho); clear HO_10; clear HO_11; clear HB; clear HO_13; have HO_10 := n0_; have HO_11 := n1_; have HB := n2_; have HO281 := n3_; clear n0_ n1_ n2_ n3_; clear ho hb hg hat))
                          repeat (go_quiet (first | ((with_reducible refine gate_builtin (b := .append) (xs := #[.tmp 104, .tmp 106]) rfl ?_); at_builtin; refine Kd.R_append (Kd.int .i64) (w0 := w) w.heap.size rfl (.tmp 104) (.tmp 106) 124 3 (.int .i64 0) 8 rfl Try.underlying124 info3 rfl (by decide) (by omega) u13 x13_4 0 [.int .i64 0] (fun k_ => some k_ ≠ (.slice (some ad219) t213.length co53 : Value).ownBlock ∧ some k_ ≠ (.slice (some ad236) t216.length co118 : Value).ownBlock) (fun _ => False) rfl rfl ?aP (fun _ hk => hk.elim) ?aF ?aO ?aB ?aS ?aL ?_; (case aP => exact rfl); (case aB => exact (by repeat (first | (with_reducible first | exact HB.out | apply below_alloc | apply pw_below_drewN | apply below_drew1) | exact HB.out))); (case aF => exact (fun k_ hk => ⟨Kd.fresh' (Kd.R_lt (by (with_reducible repeat (first | apply Kd.R_alloc | apply Kd.R_drewN | apply Kd.R_drew)); exact HO_10.out)) k_ hk, Kd.fresh' (Kd.R_lt (by (with_reducible repeat (first | apply Kd.R_alloc | apply Kd.R_drewN | apply Kd.R_drew)); exact HO_11.out)) k_ hk⟩)); (case aO => exact (by (with_reducible repeat (first | apply Kd.R_alloc | apply Kd.R_drewN | apply Kd.R_drew)); exact HO_13.out)); (case aS => exact (below_size (by repeat (first | (with_reducible first | exact HB.out | apply below_alloc | apply pw_below_drewN | apply below_drew1) | exact HB.out)))); (case aL => have := LMc117.out; omega); intro v280 w119 ho hb hg hat; rw [← Ny279.out] at ho; have n0_ := Aside0.mk (Kd.R_after (ok := (fun k_ => some k_ ≠ (.slice (some ad236) t216.length co118 : Value).ownBlock)) (by (with_reducible repeat (first | apply Kd.R_alloc | apply Kd.R_drewN | apply Kd.R_drew)); exact HO_10.out) hg hat); have n1_ := Aside0.mk (Kd.R_after (ok := (fun k_ => some k_ ≠ (.slice (some ad219) t213.length co53 : Value).ownBlock)) (by (with_reducible repeat (first | apply Kd.R_alloc | apply Kd.R_drewN | apply Kd.R_drew)); exact HO_11.out) hg hat); have n2_ := Aside0.mk (hb); have n3_ := Aside0.mk (ho); clear HO_10; clear HO_11; clear HB; clear HO_13; have HO_10 := n0_; have HO_11 := n1_; have HB := n2_; have HO281 := n3_; clear n0_ n1_ n2_ n3_; clear ho hb hg hat)); try go_wp2_with (first | ((with_reducible refine gate_builtin (b := .append) (xs := #[.tmp 104, .tmp 106]) rfl ?_); at_builtin; refine Kd.R_append (Kd.int .i64) (w0 := w) w.heap.size rfl (.tmp 104) (.tmp 106) 124 3 (.int .i64 0) 8 rfl Try.underlying124 info3 rfl (by decide) (by omega) u13 x13_4 0 [.int .i64 0] (fun k_ => some k_ ≠ (.slice (some ad219) t213.length co53 : Value).ownBlock ∧ some k_ ≠ (.slice (some ad236) t216.length co118 : Value).ownBlock) (fun _ => False) rfl rfl ?aP (fun _ hk => hk.elim) ?aF ?aO ?aB ?aS ?aL ?_; (case aP => exact rfl); (case aB => exact (by repeat (first | (with_reducible first | exact HB.out | apply below_alloc | apply pw_below_drewN | apply below_drew1) | exact HB.out))); (case aF => exact (fun k_ hk => ⟨Kd.fresh' (Kd.R_lt (by (with_reducible repeat (first | apply Kd.R_alloc | apply Kd.R_drewN | apply Kd.R_drew)); exact HO_10.out)) k_ hk, Kd.fresh' (Kd.R_lt (by (with_reducible repeat (first | apply Kd.R_alloc | apply Kd.R_drewN | apply Kd.R_drew)); exact HO_11.out)) k_ hk⟩)); (case aO => exact (by (with_reducible repeat (first | apply Kd.R_alloc | apply Kd.R_drewN | apply Kd.R_drew)); exact HO_13.out)); (case aS => exact (below_size (by repeat (first | (with_reducible first | exact HB.out | apply below_alloc | apply pw_below_drewN | apply below_drew1) | exact HB.out)))); (case aL => have := LMc117.out; omega); intro v280 w119 ho hb hg hat; rw [← Ny279.out] at ho; have n0_ := Aside0.mk (Kd.R_after (ok := (fun k_ => some k_ ≠ (.slice (some ad236) t216.length co118 : Value).ownBlock)) (by (with_reducible repeat (first | apply Kd.R_alloc | apply Kd.R_drewN | apply Kd.R_drew)); exact HO_10.out) hg hat); have n1_ := Aside0.mk (Kd.R_after (ok := (fun k_ => some k_ ≠ (.slice (some ad219) t213.length co53 : Value).ownBlock)) (by (with_reducible repeat (first | apply Kd.R_alloc | apply Kd.R_drewN | apply Kd.R_drew)); exact HO_11.out) hg hat); have n2_ := Aside0.mk (hb); have n3_ := Aside0.mk (ho); clear HO_10; clear HO_11; clear HB; clear HO_13; have HO_10 := n0_; have HO_11 := n1_; have HB := n2_; have HO281 := n3_; clear n0_ n1_ n2_ n3_; clear ho hb hg hat)))
                          go_roundg k4
                          case measure => have := HJ6.out; have := HJ9.out; have := HJ49.out; have := HK4.out; omega
                          case rel => exact ⟨(y279), (wrap64 (x14_4 + 1)), (by first | rfl | (simp; done) | (simp [*]; done)), H', ⟨by have := HJ6.out; have := HJ9.out; have := HJ49.out; have := HK4.out; omega⟩, ⟨by (with_reducible repeat (first | apply Kd.R_alloc | apply Kd.R_drewN | apply Kd.R_drew)); exact HO_10.out⟩, ⟨by (with_reducible repeat (first | apply Kd.R_alloc | apply Kd.R_drewN | apply Kd.R_drew)); exact HO_11.out⟩, ⟨by (with_reducible repeat (first | apply Kd.R_alloc | apply Kd.R_drewN | apply Kd.R_drew)); exact HO281.out⟩, ⟨by repeat (first | (with_reducible first | exact HB.out | apply below_alloc | apply pw_below_drewN | apply below_drew1) | exact HB.out)⟩⟩
                         ·rw [if_neg c117] at H
                          exact absurd H (by simp)
                     ·rw [if_neg c60] at H
                      exact absurd H (by simp)
                    ·rw [if_neg c59] at H
                     exact absurd H (by simp)
                   ·rw [if_neg c58] at H
                    exact absurd H (by simp)
                  ·rw [if_neg c57] at H
                   have c57b0 : decide (x14_4 < a1) = false := decide_eq_false c57
                   clear c57
                   replace H := Option.bind_eq_some_iff.mp H
                   obtain ⟨t282, A1200, H⟩ := H
                   replace H : (some (t282, 0)) = some (r1, r2) := H
                   have A120 := Aside0.mk A1200
                   clear A1200
                   simp only [Option.some.injEq, Prod.mk.injEq] at H
                   obtain ⟨rfl, rfl⟩ := H
                   obtain ⟨Ao121, co121, eo121⟩ := Kd.R_slice HO_13.out
                   subst eo121
                   go_wp2_with (first | (go_at_call 83; (with_reducible refine (retargetref01_Number.calls k4 _ _ x13_4 t282 _ ?side1 ?side2 A120.out).mono ?_); (case side1 => repeat (first | exact (Kd.R_reads' HO_13.out).2.2 | (with_reducible refine Kd.C_alloc ?_ _) | (with_reducible refine Kd.C_drewN ?_ _) | (with_reducible refine Kd.C_drew ?_))); (case side2 => exact (Kd.R_reads' HO_13.out).2.1); rintro e w' ⟨rfl, ⟨nd, rfl⟩⟩; (try first | exact ⟨rfl, _, World.drewN_drewN _ _ _⟩ | exact ⟨rfl, _, Eq.trans (World.drewN_drewN _ _ _) (congrArg (World.drewN _) (Nat.add_assoc _ _ _))⟩)))
                   repeat (go_quiet (first | (go_at_call 83; (with_reducible refine (retargetref01_Number.calls k4 _ _ x13_4 t282 _ ?side1 ?side2 A120.out).mono ?_); (case side1 => repeat (first | exact (Kd.R_reads' HO_13.out).2.2 | (with_reducible refine Kd.C_alloc ?_ _) | (with_reducible refine Kd.C_drewN ?_ _) | (with_reducible refine Kd.C_drew ?_))); (case side2 => exact (Kd.R_reads' HO_13.out).2.1); rintro e w' ⟨rfl, ⟨nd, rfl⟩⟩; (try first | exact ⟨rfl, _, World.drewN_drewN _ _ _⟩ | exact ⟨rfl, _, Eq.trans (World.drewN_drewN _ _ _) (congrArg (World.drewN _) (Nat.add_assoc _ _ _))⟩))); try go_wp2_with (first | (go_at_call 83; (with_reducible refine (retargetref01_Number.calls k4 _ _ x13_4 t282 _ ?side1 ?side2 A120.out).mono ?_); (case side1 => repeat (first | exact (Kd.R_reads' HO_13.out).2.2 | (with_reducible refine Kd.C_alloc ?_ _) | (with_reducible refine Kd.C_drewN ?_ _) | (with_reducible refine Kd.C_drew ?_))); (case side2 => exact (Kd.R_reads' HO_13.out).2.1); rintro e w' ⟨rfl, ⟨nd, rfl⟩⟩; (try first | exact ⟨rfl, _, World.drewN_drewN _ _ _⟩ | exact ⟨rfl, _, Eq.trans (World.drewN_drewN _ _ _) (congrArg (World.drewN _) (Nat.add_assoc _ _ _))⟩))))
                   go_ret2
                   exact ⟨by first | rfl | (simp [errW_none, errW_some] <;> rfl) | (simp only [← hji17]; first | rfl | (simp [errW_none, errW_some] <;> rfl)) | (simp [*, errW_none, errW_some] <;> rfl), by repeat (first | (with_reducible first | exact HB.out | apply below_alloc | apply pw_below_drewN | apply below_drew1) | exact HB.out)⟩
               ·replace c56 := Bool.eq_false_iff.mpr c56
                subst c56
                have H1 : (if a0 = 11 then ((retargetref01_places.f kj49 a3).bind fun t283 => ((retargetref01_shift.f kj49 t213 (wrap64 (-t283)) 0).bind fun t284 => ((retargetref01_Number.f kj49 t284).bind fun t287 => (some (t287, 0))))) else (if a0 = 12 then ((retargetref01_places.f kj49 a3).bind fun t288 => ((retargetref01_shift.f kj49 t213 t288 0).bind fun t289 => ((retargetref01_Number.f kj49 t289).bind fun t292 => (some (t292, 0))))) else (if a0 = 13 then ((retargetref01_places.f kj49 a3).bind fun t293 => ((retargetref01_shift.f kj49 t213 t293 (rd t213 (ji17))).bind fun t294 => ((retargetref01_Number.f kj49 t294).bind fun t297 => (some (t297, 0))))) else (if a0 = 14 then ((retargetref01_divide.f kj49 t213 t216).bind fun bt298 => ((retargetref01_Number.f kj49 bt298.1).bind fun t304 => (some (t304, 0)))) else (if a0 = 15 then ((retargetref01_divide.f kj49 t213 t216).bind fun bt305 => ((retargetref01_Number.f kj49 bt305.2).bind fun t311 => (some (t311, 0)))) else (if a0 = 16 then ((retargetref01_truth.f (a2 == a3)).bind fun t312 => (some (t312, 0))) else (if a0 = 17 then ((retargetref01_less.f kj49 t213 t216).bind fun t313 => ((retargetref01_truth.f t313).bind fun t314 => (some (t314, 0)))) else (if a0 = 18 then (if 0 ≤ (wrap64 (a1 - 1)) then (if (wrap64 (a1 - 1)) < (t216.length : Int) then (if (rd t213 (ji17)) = (rd t216 (wrap64 (a1 - 1))) then ((retargetref01_less.f kj49 t213 t216).bind fun t316 => ((retargetref01_truth.f t316).bind fun t317 => (some (t317, 0)))) else ((retargetref01_truth.f ((rd t213 (ji17)) == 1)).bind fun t318 => (some (t318, 0)))) else (none)) else (none)) else ((retargetref01_Number.f kj49 ([] : List Int)).bind fun t319 => (some (t319, 0))))))))))) = some (r1, r2) := by rw [if_neg (show ¬ (false = true) by decide)] at H; exact H
                clear H
                have H := H1
                clear H1
                by_cases c122 : a0 = 11
                ·rw [if_pos c122] at H
                 have c122b0 : (a0 == 11) = true := beq_iff_eq.mpr c122
                 have c122b1 : (a0 != 11) = false := bne_eq_false_iff_eq.mpr c122
                 clear c122
                 replace H := Option.bind_eq_some_iff.mp H
                 obtain ⟨t283, A1230, H⟩ := H
                 replace H : ((retargetref01_shift.f kj49 t213 (wrap64 (-t283)) 0).bind fun t284 => ((retargetref01_Number.f kj49 t284).bind fun t287 => (some (t287, 0)))) = some (r1, r2) := H
                 have A123 := Aside0.mk A1230
                 clear A1230
                 replace H := Option.bind_eq_some_iff.mp H
                 obtain ⟨t284, A1240, H⟩ := H
                 replace H : ((retargetref01_Number.f kj49 t284).bind fun t287 => (some (t287, 0))) = some (r1, r2) := H
                 have A124 := Aside0.mk A1240
                 clear A1240
                 replace H := Option.bind_eq_some_iff.mp H
                 obtain ⟨t287, A1250, H⟩ := H
                 replace H : (some (t287, 0)) = some (r1, r2) := H
                 have A125 := Aside0.mk A1250
                 clear A1250
                 simp only [Option.some.injEq, Prod.mk.injEq] at H
                 obtain ⟨rfl, rfl⟩ := H
                 go_wp2_with (first | (go_at_call 91; (with_reducible refine (retargetref01_places.calls kj49 a3 t283 _ A123.out).mono ?_); rintro e w' ⟨rfl, ⟨nd, rfl⟩⟩; (try first | exact ⟨rfl, _, World.drewN_drewN _ _ _⟩ | exact ⟨rfl, _, Eq.trans (World.drewN_drewN _ _ _) (congrArg (World.drewN _) (Nat.add_assoc _ _ _))⟩)) | (go_at_call 90; (with_reducible refine (retargetref01_shift.calls kj49 _ _ t213 (wrap64 (-t283)) 0 t284 _ ?side1 ?side2 A124.out).mono ?_); (case side1 => repeat (first | exact (Kd.R_reads' HO_10.out).2.2 | (with_reducible refine Kd.C_alloc ?_ _) | (with_reducible refine Kd.C_drewN ?_ _) | (with_reducible refine Kd.C_drew ?_))); (case side2 => exact (Kd.R_reads' HO_10.out).2.1); rintro e w126 ⟨v285, rfl, ho0, hb⟩; have n0_ := Aside0.mk (Kd.R_elder' (by (with_reducible repeat (first | apply Kd.R_alloc | apply Kd.R_drewN | apply Kd.R_drew)); exact HO_10.out) (Kd.R_base ho0) hb); have n1_ := Aside0.mk (Kd.R_elder' (by (with_reducible repeat (first | apply Kd.R_alloc | apply Kd.R_drewN | apply Kd.R_drew)); exact HO_11.out) (Kd.R_base ho0) hb); have n2_ := Aside0.mk (Kd.R_elder' (by (with_reducible repeat (first | apply Kd.R_alloc | apply Kd.R_drewN | apply Kd.R_drew)); exact HO_13.out) (Kd.R_base ho0) hb); have n3_ := Aside0.mk (Kd.R_lower (Kd.R_new' (Kd.R_new' (Kd.R_new' ho0 (Kd.R_lt (by (with_reducible repeat (first | apply Kd.R_alloc | apply Kd.R_drewN | apply Kd.R_drew)); exact HO_10.out))) (Kd.R_lt (by (with_reducible repeat (first | apply Kd.R_alloc | apply Kd.R_drewN | apply Kd.R_drew)); exact HO_11.out))) (Kd.R_lt (by (with_reducible repeat (first | apply Kd.R_alloc | apply Kd.R_drewN | apply Kd.R_drew)); exact HO_13.out))) (below_size (by repeat (first | (with_reducible first | exact HB.out | apply below_alloc | apply pw_below_drewN | apply below_drew1) | exact HB.out)))); have n4_ := Aside0.mk (below_step (by repeat (first | (with_reducible first | exact HB.out | apply below_alloc | apply pw_below_drewN | apply below_drew1) | exact HB.out)) hb); clear HO_10; clear HO_11; clear HO_13; clear HB; have HO_10 := n0_; have HO_11 := n1_; have HO_13 := n2_; have HO286 := n3_; have HB := n4_; clear n0_ n1_ n2_ n3_ n4_; (try clear hb); (try clear hb2); (try clear hk); (try clear hi); (try clear ho0); obtain ⟨Ao127, co127, eo127⟩ := Kd.R_slice HO286.out; subst eo127) | (go_at_call 83; (with_reducible refine (retargetref01_Number.calls kj49 _ _ t284 t287 _ ?side1 ?side2 A125.out).mono ?_); (case side1 => repeat (first | exact (Kd.R_reads' HO286.out).2.2 | (with_reducible refine Kd.C_alloc ?_ _) | (with_reducible refine Kd.C_drewN ?_ _) | (with_reducible refine Kd.C_drew ?_))); (case side2 => exact (Kd.R_reads' HO286.out).2.1); rintro e w' ⟨rfl, ⟨nd, rfl⟩⟩; (try first | exact ⟨rfl, _, World.drewN_drewN _ _ _⟩ | exact ⟨rfl, _, Eq.trans (World.drewN_drewN _ _ _) (congrArg (World.drewN _) (Nat.add_assoc _ _ _))⟩)))
                 go_ret2
                 exact ⟨by first | rfl | (simp [errW_none, errW_some] <;> rfl) | (simp only [← hji17]; first | rfl | (simp [errW_none, errW_some] <;> rfl)) | (simp [*, errW_none, errW_some] <;> rfl), by repeat (first | (with_reducible first | exact HB.out | apply below_alloc | apply pw_below_drewN | apply below_drew1) | exact HB.out)⟩
                ·rw [if_neg c122] at H
                 have c122b0 : (a0 == 11) = false := beq_eq_false_iff_ne.mpr c122
                 have c122b1 : (a0 != 11) = true := bne_iff_ne.mpr c122
                 by_cases c128 : a0 = 12
                 ·rw [if_pos c128] at H
                  have c128b0 : (a0 == 12) = true := beq_iff_eq.mpr c128
                  have c128b1 : (a0 != 12) = false := bne_eq_false_iff_eq.mpr c128
                  clear c128
                  replace H := Option.bind_eq_some_iff.mp H
                  obtain ⟨t288, A1290, H⟩ := H
                  replace H : ((retargetref01_shift.f kj49 t213 t288 0).bind fun t289 => ((retargetref01_Number.f kj49 t289).bind fun t292 => (some (t292, 0)))) = some (r1, r2) := H
                  have A129 := Aside0.mk A1290
                  clear A1290
                  replace H := Option.bind_eq_some_iff.mp H
                  obtain ⟨t289, A1300, H⟩ := H
                  replace H : ((retargetref01_Number.f kj49 t289).bind fun t292 => (some (t292, 0))) = some (r1, r2) := H
                  have A130 := Aside0.mk A1300
                  clear A1300
                  replace H := Option.bind_eq_some_iff.mp H
                  obtain ⟨t292, A1310, H⟩ := H
                  replace H : (some (t292, 0)) = some (r1, r2) := H
                  have A131 := Aside0.mk A1310
                  clear A1310
                  simp only [Option.some.injEq, Prod.mk.injEq] at H
                  obtain ⟨rfl, rfl⟩ := H
                  go_wp2_with (first | (go_at_call 91; (with_reducible refine (retargetref01_places.calls kj49 a3 t288 _ A129.out).mono ?_); rintro e w' ⟨rfl, ⟨nd, rfl⟩⟩; (try first | exact ⟨rfl, _, World.drewN_drewN _ _ _⟩ | exact ⟨rfl, _, Eq.trans (World.drewN_drewN _ _ _) (congrArg (World.drewN _) (Nat.add_assoc _ _ _))⟩)) | (go_at_call 90; (with_reducible refine (retargetref01_shift.calls kj49 _ _ t213 t288 0 t289 _ ?side1 ?side2 A130.out).mono ?_); (case side1 => repeat (first | exact (Kd.R_reads' HO_10.out).2.2 | (with_reducible refine Kd.C_alloc ?_ _) | (with_reducible refine Kd.C_drewN ?_ _) | (with_reducible refine Kd.C_drew ?_))); (case side2 => exact (Kd.R_reads' HO_10.out).2.1); rintro e w132 ⟨v290, rfl, ho0, hb⟩; have n0_ := Aside0.mk (Kd.R_elder' (by (with_reducible repeat (first | apply Kd.R_alloc | apply Kd.R_drewN | apply Kd.R_drew)); exact HO_10.out) (Kd.R_base ho0) hb); have n1_ := Aside0.mk (Kd.R_elder' (by (with_reducible repeat (first | apply Kd.R_alloc | apply Kd.R_drewN | apply Kd.R_drew)); exact HO_11.out) (Kd.R_base ho0) hb); have n2_ := Aside0.mk (Kd.R_elder' (by (with_reducible repeat (first | apply Kd.R_alloc | apply Kd.R_drewN | apply Kd.R_drew)); exact HO_13.out) (Kd.R_base ho0) hb); have n3_ := Aside0.mk (Kd.R_lower (Kd.R_new' (Kd.R_new' (Kd.R_new' ho0 (Kd.R_lt (by (with_reducible repeat (first | apply Kd.R_alloc | apply Kd.R_drewN | apply Kd.R_drew)); exact HO_10.out))) (Kd.R_lt (by (with_reducible repeat (first | apply Kd.R_alloc | apply Kd.R_drewN | apply Kd.R_drew)); exact HO_11.out))) (Kd.R_lt (by (with_reducible repeat (first | apply Kd.R_alloc | apply Kd.R_drewN | apply Kd.R_drew)); exact HO_13.out))) (below_size (by repeat (first | (with_reducible first | exact HB.out | apply below_alloc | apply pw_below_drewN | apply below_drew1) | exact HB.out)))); have n4_ := Aside0.mk (below_step (by repeat (first | (with_reducible first | exact HB.out | apply below_alloc | apply pw_below_drewN | apply below_drew1) | exact HB.out)) hb); clear HO_10; clear HO_11; clear HO_13; clear HB; have HO_10 := n0_; have HO_11 := n1_; have HO_13 := n2_; have HO291 := n3_; have HB := n4_; clear n0_ n1_ n2_ n3_ n4_; (try clear hb); (try clear hb2); (try clear hk); (try clear hi); (try clear ho0); obtain ⟨Ao133, co133, eo133⟩ := Kd.R_slice HO291.out; subst eo133) | (go_at_call 83; (with_reducible refine (retargetref01_Number.calls kj49 _ _ t289 t292 _ ?side1 ?side2 A131.out).mono ?_); (case side1 => repeat (first | exact (Kd.R_reads' HO291.out).2.2 | (with_reducible refine Kd.C_alloc ?_ _) | (with_reducible refine Kd.C_drewN ?_ _) | (with_reducible refine Kd.C_drew ?_))); (case side2 => exact (Kd.R_reads' HO291.out).2.1); rintro e w' ⟨rfl, ⟨nd, rfl⟩⟩; (try first | exact ⟨rfl, _, World.drewN_drewN _ _ _⟩ | exact ⟨rfl, _, Eq.trans (World.drewN_drewN _ _ _) (congrArg (World.drewN _) (Nat.add_assoc _ _ _))⟩)))
                  go_ret2
                  exact ⟨by first | rfl | (simp [errW_none, errW_some] <;> rfl) | (simp only [← hji17]; first | rfl | (simp [errW_none, errW_some] <;> rfl)) | (simp [*, errW_none, errW_some] <;> rfl), by repeat (first | (with_reducible first | exact HB.out | apply below_alloc | apply pw_below_drewN | apply below_drew1) | exact HB.out)⟩
                 ·rw [if_neg c128] at H
                  have c128b0 : (a0 == 12) = false := beq_eq_false_iff_ne.mpr c128
                  have c128b1 : (a0 != 12) = true := bne_iff_ne.mpr c128
                  by_cases c134 : a0 = 13
                  ·rw [if_pos c134] at H
                   have c134b0 : (a0 == 13) = true := beq_iff_eq.mpr c134
                   have c134b1 : (a0 != 13) = false := bne_eq_false_iff_eq.mpr c134
                   clear c134
                   replace H := Option.bind_eq_some_iff.mp H
                   obtain ⟨t293, A1350, H⟩ := H
                   replace H : ((retargetref01_shift.f kj49 t213 t293 (rd t213 (ji17))).bind fun t294 => ((retargetref01_Number.f kj49 t294).bind fun t297 => (some (t297, 0)))) = some (r1, r2) := H
                   have A135 := Aside0.mk A1350
                   clear A1350
                   replace H := Option.bind_eq_some_iff.mp H
                   obtain ⟨t294, A1360, H⟩ := H
                   replace H : ((retargetref01_Number.f kj49 t294).bind fun t297 => (some (t297, 0))) = some (r1, r2) := H
                   have A136 := Aside0.mk A1360
                   clear A1360
                   replace H := Option.bind_eq_some_iff.mp H
                   obtain ⟨t297, A1370, H⟩ := H
                   replace H : (some (t297, 0)) = some (r1, r2) := H
                   have A137 := Aside0.mk A1370
                   clear A1370
                   simp only [Option.some.injEq, Prod.mk.injEq] at H
                   obtain ⟨rfl, rfl⟩ := H
                   go_wp2_with (first | (go_at_call 91; (with_reducible refine (retargetref01_places.calls kj49 a3 t293 _ A135.out).mono ?_); rintro e w' ⟨rfl, ⟨nd, rfl⟩⟩; (try first | exact ⟨rfl, _, World.drewN_drewN _ _ _⟩ | exact ⟨rfl, _, Eq.trans (World.drewN_drewN _ _ _) (congrArg (World.drewN _) (Nat.add_assoc _ _ _))⟩)) | (go_at_call 90; (with_reducible refine (retargetref01_shift.calls kj49 _ _ t213 t293 (rd t213 (ji17)) t294 _ ?side1 ?side2 A136.out).mono ?_); (case side1 => repeat (first | exact (Kd.R_reads' HO_10.out).2.2 | (with_reducible refine Kd.C_alloc ?_ _) | (with_reducible refine Kd.C_drewN ?_ _) | (with_reducible refine Kd.C_drew ?_))); (case side2 => exact (Kd.R_reads' HO_10.out).2.1); rintro e w138 ⟨v295, rfl, ho0, hb⟩; have n0_ := Aside0.mk (Kd.R_elder' (by (with_reducible repeat (first | apply Kd.R_alloc | apply Kd.R_drewN | apply Kd.R_drew)); exact HO_10.out) (Kd.R_base ho0) hb); have n1_ := Aside0.mk (Kd.R_elder' (by (with_reducible repeat (first | apply Kd.R_alloc | apply Kd.R_drewN | apply Kd.R_drew)); exact HO_11.out) (Kd.R_base ho0) hb); have n2_ := Aside0.mk (Kd.R_elder' (by (with_reducible repeat (first | apply Kd.R_alloc | apply Kd.R_drewN | apply Kd.R_drew)); exact HO_13.out) (Kd.R_base ho0) hb); have n3_ := Aside0.mk (Kd.R_lower (Kd.R_new' (Kd.R_new' (Kd.R_new' ho0 (Kd.R_lt (by (with_reducible repeat (first | apply Kd.R_alloc | apply Kd.R_drewN | apply Kd.R_drew)); exact HO_10.out))) (Kd.R_lt (by (with_reducible repeat (first | apply Kd.R_alloc | apply Kd.R_drewN | apply Kd.R_drew)); exact HO_11.out))) (Kd.R_lt (by (with_reducible repeat (first | apply Kd.R_alloc | apply Kd.R_drewN | apply Kd.R_drew)); exact HO_13.out))) (below_size (by repeat (first | (with_reducible first | exact HB.out | apply below_alloc | apply pw_below_drewN | apply below_drew1) | exact HB.out)))); have n4_ := Aside0.mk (below_step (by repeat (first | (with_reducible first | exact HB.out | apply below_alloc | apply pw_below_drewN | apply below_drew1) | exact HB.out)) hb); clear HO_10; clear HO_11; clear HO_13; clear HB; have HO_10 := n0_; have HO_11 := n1_; have HO_13 := n2_; have HO296 := n3_; have HB := n4_; clear n0_ n1_ n2_ n3_ n4_; (try clear hb); (try clear hb2); (try clear hk); (try clear hi); (try clear ho0); obtain ⟨Ao139, co139, eo139⟩ := Kd.R_slice HO296.out; subst eo139) | (go_at_call 83; (with_reducible refine (retargetref01_Number.calls kj49 _ _ t294 t297 _ ?side1 ?side2 A137.out).mono ?_); (case side1 => repeat (first | exact (Kd.R_reads' HO296.out).2.2 | (with_reducible refine Kd.C_alloc ?_ _) | (with_reducible refine Kd.C_drewN ?_ _) | (with_reducible refine Kd.C_drew ?_))); (case side2 => exact (Kd.R_reads' HO296.out).2.1); rintro e w' ⟨rfl, ⟨nd, rfl⟩⟩; (try first | exact ⟨rfl, _, World.drewN_drewN _ _ _⟩ | exact ⟨rfl, _, Eq.trans (World.drewN_drewN _ _ _) (congrArg (World.drewN _) (Nat.add_assoc _ _ _))⟩)))
                   go_ret2
                   exact ⟨by first | rfl | (simp [errW_none, errW_some] <;> rfl) | (simp only [← hji17]; first | rfl | (simp [errW_none, errW_some] <;> rfl)) | (simp [*, errW_none, errW_some] <;> rfl), by repeat (first | (with_reducible first | exact HB.out | apply below_alloc | apply pw_below_drewN | apply below_drew1) | exact HB.out)⟩
                  ·rw [if_neg c134] at H
                   have c134b0 : (a0 == 13) = false := beq_eq_false_iff_ne.mpr c134
                   have c134b1 : (a0 != 13) = true := bne_iff_ne.mpr c134
                   by_cases c140 : a0 = 14
                   ·rw [if_pos c140] at H
                    have c140b0 : (a0 == 14) = true := beq_iff_eq.mpr c140
                    have c140b1 : (a0 != 14) = false := bne_eq_false_iff_eq.mpr c140
                    clear c140
                    replace H := Option.bind_eq_some_iff.mp H
                    obtain ⟨⟨t298, t301⟩, A1410, H⟩ := H
                    replace H : ((retargetref01_Number.f kj49 t298).bind fun t304 => (some (t304, 0))) = some (r1, r2) := H
                    have A141 := Aside0.mk A1410
                    clear A1410
                    replace H := Option.bind_eq_some_iff.mp H
                    obtain ⟨t304, A1420, H⟩ := H
                    replace H : (some (t304, 0)) = some (r1, r2) := H
                    have A142 := Aside0.mk A1420
                    clear A1420
                    simp only [Option.some.injEq, Prod.mk.injEq] at H
                    obtain ⟨rfl, rfl⟩ := H
                    obtain ⟨Ao143, co143, eo143⟩ := Kd.R_slice HO_11.out
                    subst eo143
                    go_wp2_with (first | (go_at_call 92; (with_reducible refine (retargetref01_divide.calls kj49 (fun k_ => some k_ = (.slice (some ad219) t213.length co53 : Value).ownBlock) (.slice (some ad219) t213.length co53) t213 _ _ t216 t298 t301 w _ ?side1 ?side2 ?side3 ?side4 A141.out).mono ?_); (case side1 => repeat (first | (with_reducible first | exact HB.out | apply below_alloc | apply pw_below_drewN | apply below_drew1) | exact HB.out)); (case side2 => exact Kd.R_tight rfl HO_10.out); (case side3 => exact Kd.C_kept_own (HO_11.out) (fun k_ hk_ hs_ => (hk_.1) hs_)); (case side4 => exact (Kd.R_reads' HO_11.out).2.1); rintro e w144 ⟨v299, v302, rfl, ho0, ho1, hb, hkp⟩; have n0_ := Aside0.mk (Kd.R_mono (ok' := fun k_ => some k_ ≠ (.slice none 0 0 : Value).ownBlock ∧ some k_ ≠ (v299 : Value).ownBlock ∧ some k_ ≠ (v302 : Value).ownBlock) (Kd.R_keptB (HO_11.out) hkp (fun k_ hk_ hs_ => (hk_.1) hs_)) (fun k_ hk_ => ⟨hk_.1.2, fun e_ => Or.elim (ho0.1 k_ e_.symm).1 (fun hs_ => hk_.2.1 hs_) (fun hn_ => Nat.not_le.2 hk_.2.2 hn_), fun e_ => Or.elim (ho1.1 k_ e_.symm).1 (fun hs_ => hk_.2.1 hs_) (fun hn_ => Nat.not_le.2 hk_.2.2 hn_)⟩)); have n1_ := Aside0.mk (Kd.R_mono (ok' := fun k_ => some k_ ≠ (.slice Ao143 t216.length co143 : Value).ownBlock ∧ some k_ ≠ (v299 : Value).ownBlock ∧ some k_ ≠ (v302 : Value).ownBlock) (Kd.R_keptB (HO_13.out) hkp (fun k_ hk_ hs_ => (hk_.1) hs_)) (fun k_ hk_ => ⟨hk_.1.2, fun e_ => Or.elim (ho0.1 k_ e_.symm).1 (fun hs_ => hk_.2.1 hs_) (fun hn_ => Nat.not_le.2 hk_.2.2 hn_), fun e_ => Or.elim (ho1.1 k_ e_.symm).1 (fun hs_ => hk_.2.1 hs_) (fun hn_ => Nat.not_le.2 hk_.2.2 hn_)⟩)); have n2_ := Aside0.mk (Kd.R_mono (ok' := fun k_ => some k_ ≠ (v302 : Value).ownBlock ∧ some k_ ≠ (.slice Ao143 t216.length co143 : Value).ownBlock ∧ some k_ ≠ (.slice none 0 0 : Value).ownBlock) ho0 (fun k_ hk_ => ⟨hk_.2, Or.elim hk_.1 (fun hs_ => fun e_ => (((HO_11.out).1 k_ e_.symm).1) hs_) (fun hn_ => (Kd.fresh' (Kd.R_lt (by (with_reducible repeat (first | apply Kd.R_alloc | apply Kd.R_drewN | apply Kd.R_drew)); exact HO_11.out)) k_ hn_)), Or.elim hk_.1 (fun hs_ => fun e_ => (((HO_13.out).1 k_ e_.symm).1) hs_) (fun hn_ => (Kd.fresh' (Kd.R_lt (by (with_reducible repeat (first | apply Kd.R_alloc | apply Kd.R_drewN | apply Kd.R_drew)); exact HO_13.out)) k_ hn_))⟩)); have n3_ := Aside0.mk (Kd.R_mono (ok' := fun k_ => some k_ ≠ (v299 : Value).ownBlock ∧ some k_ ≠ (.slice Ao143 t216.length co143 : Value).ownBlock ∧ some k_ ≠ (.slice none 0 0 : Value).ownBlock) ho1 (fun k_ hk_ => ⟨hk_.2, Or.elim hk_.1 (fun hs_ => fun e_ => (((HO_11.out).1 k_ e_.symm).1) hs_) (fun hn_ => (Kd.fresh' (Kd.R_lt (by (with_reducible repeat (first | apply Kd.R_alloc | apply Kd.R_drewN | apply Kd.R_drew)); exact HO_11.out)) k_ hn_)), Or.elim hk_.1 (fun hs_ => fun e_ => (((HO_13.out).1 k_ e_.symm).1) hs_) (fun hn_ => (Kd.fresh' (Kd.R_lt (by (with_reducible repeat (first | apply Kd.R_alloc | apply Kd.R_drewN | apply Kd.R_drew)); exact HO_13.out)) k_ hn_))⟩)); have n4_ := Aside0.mk (hb); clear HO_11; clear HO_13; clear HB; clear HO_10; have HO_11 := n0_; have HO_13 := n1_; have HO300 := n2_; have HO303 := n3_; have HB := n4_; clear n0_ n1_ n2_ n3_ n4_; (try clear hb); (try clear hkp); (try clear ho0); (try clear ho1); obtain ⟨Ao145, co145, eo145⟩ := Kd.R_slice HO300.out; subst eo145) | (go_at_call 83; (with_reducible refine (retargetref01_Number.calls kj49 _ _ t298 t304 _ ?side1 ?side2 A142.out).mono ?_); (case side1 => repeat (first | exact (Kd.R_reads' HO300.out).2.2 | (with_reducible refine Kd.C_alloc ?_ _) | (with_reducible refine Kd.C_drewN ?_ _) | (with_reducible refine Kd.C_drew ?_))); (case side2 => exact (Kd.R_reads' HO300.out).2.1); rintro e w' ⟨rfl, ⟨nd, rfl⟩⟩; (try first | exact ⟨rfl, _, World.drewN_drewN _ _ _⟩ | exact ⟨rfl, _, Eq.trans (World.drewN_drewN _ _ _) (congrArg (World.drewN _) (Nat.add_assoc _ _ _))⟩)))
                    go_ret2
                    exact ⟨by first | rfl | (simp [errW_none, errW_some] <;> rfl) | (simp only [← hji17]; first | rfl | (simp [errW_none, errW_some] <;> rfl)) | (simp [*, errW_none, errW_some] <;> rfl), by repeat (first | (with_reducible first | exact HB.out | apply below_alloc | apply pw_below_drewN | apply below_drew1) | exact HB.out)⟩
                   ·rw [if_neg c140] at H
                    have c140b0 : (a0 == 14) = false := beq_eq_false_iff_ne.mpr c140
                    have c140b1 : (a0 != 14) = true := bne_iff_ne.mpr c140
                    by_cases c146 : a0 = 15
                    ·rw [if_pos c146] at H
                     have c146b0 : (a0 == 15) = true := beq_iff_eq.mpr c146
                     have c146b1 : (a0 != 15) = false := bne_eq_false_iff_eq.mpr c146
                     clear c146
                     replace H := Option.bind_eq_some_iff.mp H
                     obtain ⟨⟨t305, t308⟩, A1470, H⟩ := H
                     replace H : ((retargetref01_Number.f kj49 t308).bind fun t311 => (some (t311, 0))) = some (r1, r2) := H
                     have A147 := Aside0.mk A1470
                     clear A1470
                     replace H := Option.bind_eq_some_iff.mp H
                     obtain ⟨t311, A1480, H⟩ := H
                     replace H : (some (t311, 0)) = some (r1, r2) := H
                     have A148 := Aside0.mk A1480
                     clear A1480
                     simp only [Option.some.injEq, Prod.mk.injEq] at H
                     obtain ⟨rfl, rfl⟩ := H
                     obtain ⟨Ao149, co149, eo149⟩ := Kd.R_slice HO_11.out
                     subst eo149
                     go_wp2_with (first | (go_at_call 92; (with_reducible refine (retargetref01_divide.calls kj49 (fun k_ => some k_ = (.slice (some ad219) t213.length co53 : Value).ownBlock) (.slice (some ad219) t213.length co53) t213 _ _ t216 t305 t308 w _ ?side1 ?side2 ?side3 ?side4 A147.out).mono ?_); (case side1 => repeat (first | (with_reducible first | exact HB.out | apply below_alloc | apply pw_below_drewN | apply below_drew1) | exact HB.out)); (case side2 => exact Kd.R_tight rfl HO_10.out); (case side3 => exact Kd.C_kept_own (HO_11.out) (fun k_ hk_ hs_ => (hk_.1) hs_)); (case side4 => exact (Kd.R_reads' HO_11.out).2.1); rintro e w150 ⟨v306, v309, rfl, ho0, ho1, hb, hkp⟩; have n0_ := Aside0.mk (Kd.R_mono (ok' := fun k_ => some k_ ≠ (.slice none 0 0 : Value).ownBlock ∧ some k_ ≠ (v306 : Value).ownBlock ∧ some k_ ≠ (v309 : Value).ownBlock) (Kd.R_keptB (HO_11.out) hkp (fun k_ hk_ hs_ => (hk_.1) hs_)) (fun k_ hk_ => ⟨hk_.1.2, fun e_ => Or.elim (ho0.1 k_ e_.symm).1 (fun hs_ => hk_.2.1 hs_) (fun hn_ => Nat.not_le.2 hk_.2.2 hn_), fun e_ => Or.elim (ho1.1 k_ e_.symm).1 (fun hs_ => hk_.2.1 hs_) (fun hn_ => Nat.not_le.2 hk_.2.2 hn_)⟩)); have n1_ := Aside0.mk (Kd.R_mono (ok' := fun k_ => some k_ ≠ (.slice Ao149 t216.length co149 : Value).ownBlock ∧ some k_ ≠ (v306 : Value).ownBlock ∧ some k_ ≠ (v309 : Value).ownBlock) (Kd.R_keptB (HO_13.out) hkp (fun k_ hk_ hs_ => (hk_.1) hs_)) (fun k_ hk_ => ⟨hk_.1.2, fun e_ => Or.elim (ho0.1 k_ e_.symm).1 (fun hs_ => hk_.2.1 hs_) (fun hn_ => Nat.not_le.2 hk_.2.2 hn_), fun e_ => Or.elim (ho1.1 k_ e_.symm).1 (fun hs_ => hk_.2.1 hs_) (fun hn_ => Nat.not_le.2 hk_.2.2 hn_)⟩)); have n2_ := Aside0.mk (Kd.R_mono (ok' := fun k_ => some k_ ≠ (v309 : Value).ownBlock ∧ some k_ ≠ (.slice Ao149 t216.length co149 : Value).ownBlock ∧ some k_ ≠ (.slice none 0 0 : Value).ownBlock) ho0 (fun k_ hk_ => ⟨hk_.2, Or.elim hk_.1 (fun hs_ => fun e_ => (((HO_11.out).1 k_ e_.symm).1) hs_) (fun hn_ => (Kd.fresh' (Kd.R_lt (by (with_reducible repeat (first | apply Kd.R_alloc | apply Kd.R_drewN | apply Kd.R_drew)); exact HO_11.out)) k_ hn_)), Or.elim hk_.1 (fun hs_ => fun e_ => (((HO_13.out).1 k_ e_.symm).1) hs_) (fun hn_ => (Kd.fresh' (Kd.R_lt (by (with_reducible repeat (first | apply Kd.R_alloc | apply Kd.R_drewN | apply Kd.R_drew)); exact HO_13.out)) k_ hn_))⟩)); have n3_ := Aside0.mk (Kd.R_mono (ok' := fun k_ => some k_ ≠ (v306 : Value).ownBlock ∧ some k_ ≠ (.slice Ao149 t216.length co149 : Value).ownBlock ∧ some k_ ≠ (.slice none 0 0 : Value).ownBlock) ho1 (fun k_ hk_ => ⟨hk_.2, Or.elim hk_.1 (fun hs_ => fun e_ => (((HO_11.out).1 k_ e_.symm).1) hs_) (fun hn_ => (Kd.fresh' (Kd.R_lt (by (with_reducible repeat (first | apply Kd.R_alloc | apply Kd.R_drewN | apply Kd.R_drew)); exact HO_11.out)) k_ hn_)), Or.elim hk_.1 (fun hs_ => fun e_ => (((HO_13.out).1 k_ e_.symm).1) hs_) (fun hn_ => (Kd.fresh' (Kd.R_lt (by (with_reducible repeat (first | apply Kd.R_alloc | apply Kd.R_drewN | apply Kd.R_drew)); exact HO_13.out)) k_ hn_))⟩)); have n4_ := Aside0.mk (hb); clear HO_11; clear HO_13; clear HB; clear HO_10; have HO_11 := n0_; have HO_13 := n1_; have HO307 := n2_; have HO310 := n3_; have HB := n4_; clear n0_ n1_ n2_ n3_ n4_; (try clear hb); (try clear hkp); (try clear ho0); (try clear ho1); obtain ⟨Ao151, co151, eo151⟩ := Kd.R_slice HO310.out; subst eo151) | (go_at_call 83; (with_reducible refine (retargetref01_Number.calls kj49 _ _ t308 t311 _ ?side1 ?side2 A148.out).mono ?_); (case side1 => repeat (first | exact (Kd.R_reads' HO310.out).2.2 | (with_reducible refine Kd.C_alloc ?_ _) | (with_reducible refine Kd.C_drewN ?_ _) | (with_reducible refine Kd.C_drew ?_))); (case side2 => exact (Kd.R_reads' HO310.out).2.1); rintro e w' ⟨rfl, ⟨nd, rfl⟩⟩; (try first | exact ⟨rfl, _, World.drewN_drewN _ _ _⟩ | exact ⟨rfl, _, Eq.trans (World.drewN_drewN _ _ _) (congrArg (World.drewN _) (Nat.add_assoc _ _ _))⟩)))
                     go_ret2
                     exact ⟨by first | rfl | (simp [errW_none, errW_some] <;> rfl) | (simp only [← hji17]; first | rfl | (simp [errW_none, errW_some] <;> rfl)) | (simp [*, errW_none, errW_some] <;> rfl), by repeat (first | (with_reducible first | exact HB.out | apply below_alloc | apply pw_below_drewN | apply below_drew1) | exact HB.out)⟩
                    ·rw [if_neg c146] at H
                     have c146b0 : (a0 == 15) = false := beq_eq_false_iff_ne.mpr c146
                     have c146b1 : (a0 != 15) = true := bne_iff_ne.mpr c146
                     by_cases c152 : a0 = 16
                     ·rw [if_pos c152] at H
                      have c152b0 : (a0 == 16) = true := beq_iff_eq.mpr c152
                      have c152b1 : (a0 != 16) = false := bne_eq_false_iff_eq.mpr c152
                      clear c152
                      replace H := Option.bind_eq_some_iff.mp H
                      obtain ⟨t312, A1530, H⟩ := H
                      replace H : (some (t312, 0)) = some (r1, r2) := H
                      have A153 := Aside0.mk A1530
                      clear A1530
                      simp only [Option.some.injEq, Prod.mk.injEq] at H
                      obtain ⟨rfl, rfl⟩ := H
                      go_wp2_with (first | (go_at_call 93; (with_reducible refine (retargetref01_truth.calls (a2 == a3) t312 _ A153.out).mono ?_); rintro e w' ⟨rfl, ⟨nd, rfl⟩⟩; (try first | exact ⟨rfl, _, World.drewN_drewN _ _ _⟩ | exact ⟨rfl, _, Eq.trans (World.drewN_drewN _ _ _) (congrArg (World.drewN _) (Nat.add_assoc _ _ _))⟩)))
                      go_ret2
                      exact ⟨by first | rfl | (simp [errW_none, errW_some] <;> rfl) | (simp only [← hji17]; first | rfl | (simp [errW_none, errW_some] <;> rfl)) | (simp [*, errW_none, errW_some] <;> rfl), by repeat (first | (with_reducible first | exact HB.out | apply below_alloc | apply pw_below_drewN | apply below_drew1) | exact HB.out)⟩
                     ·rw [if_neg c152] at H
                      have c152b0 : (a0 == 16) = false := beq_eq_false_iff_ne.mpr c152
                      have c152b1 : (a0 != 16) = true := bne_iff_ne.mpr c152
                      by_cases c154 : a0 = 17
                      ·rw [if_pos c154] at H
                       have c154b0 : (a0 == 17) = true := beq_iff_eq.mpr c154
                       have c154b1 : (a0 != 17) = false := bne_eq_false_iff_eq.mpr c154
                       clear c154
                       replace H := Option.bind_eq_some_iff.mp H
                       obtain ⟨t313, A1550, H⟩ := H
                       replace H : ((retargetref01_truth.f t313).bind fun t314 => (some (t314, 0))) = some (r1, r2) := H
                       have A155 := Aside0.mk A1550
                       clear A1550
                       replace H := Option.bind_eq_some_iff.mp H
                       obtain ⟨t314, A1560, H⟩ := H
                       replace H : (some (t314, 0)) = some (r1, r2) := H
                       have A156 := Aside0.mk A1560
                       clear A1560
                       simp only [Option.some.injEq, Prod.mk.injEq] at H
                       obtain ⟨rfl, rfl⟩ := H
                       obtain ⟨Ao157, co157, eo157⟩ := Kd.R_slice HO_11.out
                       subst eo157
                       go_wp2_with (first | (go_at_call 94; (with_reducible refine (retargetref01_less.calls kj49 _ _ t213 _ _ t216 t313 _ ?side1 ?side2 ?side3 ?side4 A155.out).mono ?_); (case side1 => repeat (first | exact (Kd.R_reads' HO_10.out).2.2 | (with_reducible refine Kd.C_alloc ?_ _) | (with_reducible refine Kd.C_drewN ?_ _) | (with_reducible refine Kd.C_drew ?_))); (case side2 => exact (Kd.R_reads' HO_10.out).2.1); (case side3 => repeat (first | exact (Kd.R_reads' HO_11.out).2.2 | (with_reducible refine Kd.C_alloc ?_ _) | (with_reducible refine Kd.C_drewN ?_ _) | (with_reducible refine Kd.C_drew ?_))); (case side4 => exact (Kd.R_reads' HO_11.out).2.1); rintro e w' ⟨rfl, ⟨nd, rfl⟩⟩; (try first | exact ⟨rfl, _, World.drewN_drewN _ _ _⟩ | exact ⟨rfl, _, Eq.trans (World.drewN_drewN _ _ _) (congrArg (World.drewN _) (Nat.add_assoc _ _ _))⟩)) | (go_at_call 93; (with_reducible refine (retargetref01_truth.calls t313 t314 _ A156.out).mono ?_); rintro e w' ⟨rfl, ⟨nd, rfl⟩⟩; (try first | exact ⟨rfl, _, World.drewN_drewN _ _ _⟩ | exact ⟨rfl, _, Eq.trans (World.drewN_drewN _ _ _) (congrArg (World.drewN _) (Nat.add_assoc _ _ _))⟩)))
                       go_ret2
                       exact ⟨by first | rfl | (simp [errW_none, errW_some] <;> rfl) | (simp only [← hji17]; first | rfl | (simp [errW_none, errW_some] <;> rfl)) | (simp [*, errW_none, errW_some] <;> rfl), by repeat (first | (with_reducible first | exact HB.out | apply below_alloc | apply pw_below_drewN | apply below_drew1) | exact HB.out)⟩
                      ·rw [if_neg c154] at H
                       have c154b0 : (a0 == 17) = false := beq_eq_false_iff_ne.mpr c154
                       have c154b1 : (a0 != 17) = true := bne_iff_ne.mpr c154
                       by_cases c158 : a0 = 18
                       ·rw [if_pos c158] at H
                        have c158b0 : (a0 == 18) = true := beq_iff_eq.mpr c158
                        have c158b1 : (a0 != 18) = false := bne_eq_false_iff_eq.mpr c158
                        clear c158
                        obtain ⟨ji159, hji159⟩ : ∃ j_ : Int, (wrap64 (a1 - 1)) = j_ := ⟨_, rfl⟩
                        replace H : (if 0 ≤ (ji159) then (if (ji159) < (t216.length : Int) then (if (rd t213 (ji17)) = (rd t216 (ji159)) then ((retargetref01_less.f kj49 t213 t216).bind fun t316 => ((retargetref01_truth.f t316).bind fun t317 => (some (t317, 0)))) else ((retargetref01_truth.f ((rd t213 (ji17)) == 1)).bind fun t318 => (some (t318, 0)))) else (none)) else (none)) = some (r1, r2) := by first | (rw [hji159] at H; exact H) | (simp only [hji159] at H ⊢; exact H)
                        have hji159w : (IntKind.i64.wrap (a1 - 1)) = ji159 := (i64_w _).trans hji159
                        clear hji17w hji17
                        by_cases c160 : 0 ≤ (ji159)
                        ·rw [if_pos c160] at H
                         have c160b0 : decide (0 ≤ (ji159)) = true := decide_eq_true c160
                         clear c160
                         by_cases c161 : (ji159) < (t216.length : Int)
                         ·rw [if_pos c161] at H
                          have c161b0 : decide ((ji159) < (t216.length : Int)) = true := decide_eq_true c161
                          clear c161
                          by_cases c162 : (rd t213 (ji17)) = (rd t216 (ji159))
                          ·rw [if_pos c162] at H
                           have c162b0 : ((rd t213 (ji17)) == (rd t216 (ji159))) = true := beq_iff_eq.mpr c162
                           have c162b1 : ((rd t213 (ji17)) != (rd t216 (ji159))) = false := bne_eq_false_iff_eq.mpr c162
                           clear c162
                           replace H := Option.bind_eq_some_iff.mp H
                           obtain ⟨t316, A1630, H⟩ := H
                           replace H : ((retargetref01_truth.f t316).bind fun t317 => (some (t317, 0))) = some (r1, r2) := H
                           have A163 := Aside0.mk A1630
                           clear A1630
                           replace H := Option.bind_eq_some_iff.mp H
                           obtain ⟨t317, A1640, H⟩ := H
                           replace H : (some (t317, 0)) = some (r1, r2) := H
                           have A164 := Aside0.mk A1640
                           clear A1640
                           simp only [Option.some.injEq, Prod.mk.injEq] at H
                           obtain ⟨rfl, rfl⟩ := H
                           obtain ⟨Ao165, co165, eo165⟩ := Kd.R_slice HO_11.out
                           subst eo165
                           have p315 : 0 ≤ ((ji159) : Int) := of_decide_eq_true (by first | (with_reducible assumption) | assumption)
                           have q315 : (ji159) < (t216.length : Int) := of_decide_eq_true (by first | (with_reducible assumption) | assumption)
                           obtain ⟨ad315, e315, hx315_0⟩ := Kd.at_int (Kd.R_reads' HO_11.out).2.2 (ji159) p315 q315
                           cases e315
                           replace p315 := eq_true p315
                           replace q315 := eq_true q315
                           go_wp2_with (first | (go_at_call 94; (with_reducible refine (retargetref01_less.calls kj49 _ _ t213 _ _ t216 t316 _ ?side1 ?side2 ?side3 ?side4 A163.out).mono ?_); (case side1 => repeat (first | exact (Kd.R_reads' HO_10.out).2.2 | (with_reducible refine Kd.C_alloc ?_ _) | (with_reducible refine Kd.C_drewN ?_ _) | (with_reducible refine Kd.C_drew ?_))); (case side2 => exact (Kd.R_reads' HO_10.out).2.1); (case side3 => repeat (first | exact (Kd.R_reads' HO_11.out).2.2 | (with_reducible refine Kd.C_alloc ?_ _) | (with_reducible refine Kd.C_drewN ?_ _) | (with_reducible refine Kd.C_drew ?_))); (case side4 => exact (Kd.R_reads' HO_11.out).2.1); rintro e w' ⟨rfl, ⟨nd, rfl⟩⟩; (try first | exact ⟨rfl, _, World.drewN_drewN _ _ _⟩ | exact ⟨rfl, _, Eq.trans (World.drewN_drewN _ _ _) (congrArg (World.drewN _) (Nat.add_assoc _ _ _))⟩)) | (go_at_call 93; (with_reducible refine (retargetref01_truth.calls t316 t317 _ A164.out).mono ?_); rintro e w' ⟨rfl, ⟨nd, rfl⟩⟩; (try first | exact ⟨rfl, _, World.drewN_drewN _ _ _⟩ | exact ⟨rfl, _, Eq.trans (World.drewN_drewN _ _ _) (congrArg (World.drewN _) (Nat.add_assoc _ _ _))⟩)))
                           repeat (go_quiet (first | (go_at_call 94; (with_reducible refine (retargetref01_less.calls kj49 _ _ t213 _ _ t216 t316 _ ?side1 ?side2 ?side3 ?side4 A163.out).mono ?_); (case side1 => repeat (first | exact (Kd.R_reads' HO_10.out).2.2 | (with_reducible refine Kd.C_alloc ?_ _) | (with_reducible refine Kd.C_drewN ?_ _) | (with_reducible refine Kd.C_drew ?_))); (case side2 => exact (Kd.R_reads' HO_10.out).2.1); (case side3 => repeat (first | exact (Kd.R_reads' HO_11.out).2.2 | (with_reducible refine Kd.C_alloc ?_ _) | (with_reducible refine Kd.C_drewN ?_ _) | (with_reducible refine Kd.C_drew ?_))); (case side4 => exact (Kd.R_reads' HO_11.out).2.1); rintro e w' ⟨rfl, ⟨nd, rfl⟩⟩; (try first | exact ⟨rfl, _, World.drewN_drewN _ _ _⟩ | exact ⟨rfl, _, Eq.trans (World.drewN_drewN _ _ _) (congrArg (World.drewN _) (Nat.add_assoc _ _ _))⟩)) | (go_at_call 93; (with_reducible refine (retargetref01_truth.calls t316 t317 _ A164.out).mono ?_); rintro e w' ⟨rfl, ⟨nd, rfl⟩⟩; (try first | exact ⟨rfl, _, World.drewN_drewN _ _ _⟩ | exact ⟨rfl, _, Eq.trans (World.drewN_drewN _ _ _) (congrArg (World.drewN _) (Nat.add_assoc _ _ _))⟩))); try go_wp2_with (first | (go_at_call 94; (with_reducible refine (retargetref01_less.calls kj49 _ _ t213 _ _ t216 t316 _ ?side1 ?side2 ?side3 ?side4 A163.out).mono ?_); (case side1 => repeat (first | exact (Kd.R_reads' HO_10.out).2.2 | (with_reducible refine Kd.C_alloc ?_ _) | (with_reducible refine Kd.C_drewN ?_ _) | (with_reducible refine Kd.C_drew ?_))); (case side2 => exact (Kd.R_reads' HO_10.out).2.1); (case side3 => repeat (first | exact (Kd.R_reads' HO_11.out).2.2 | (with_reducible refine Kd.C_alloc ?_ _) | (with_reducible refine Kd.C_drewN ?_ _) | (with_reducible refine Kd.C_drew ?_))); (case side4 => exact (Kd.R_reads' HO_11.out).2.1); rintro e w' ⟨rfl, ⟨nd, rfl⟩⟩; (try first | exact ⟨rfl, _, World.drewN_drewN _ _ _⟩ | exact ⟨rfl, _, Eq.trans (World.drewN_drewN _ _ _) (congrArg (World.drewN _) (Nat.add_assoc _ _ _))⟩)) | (go_at_call 93; (with_reducible refine (retargetref01_truth.calls t316 t317 _ A164.out).mono ?_); rintro e w' ⟨rfl, ⟨nd, rfl⟩⟩; (try first | exact ⟨rfl, _, World.drewN_drewN _ _ _⟩ | exact ⟨rfl, _, Eq.trans (World.drewN_drewN _ _ _) (congrArg (World.drewN _) (Nat.add_assoc _ _ _))⟩))))
                           go_ret2
                           exact ⟨by first | rfl | (simp [errW_none, errW_some] <;> rfl) | (simp only [← hji17, ← hji159]; first | rfl | (simp [errW_none, errW_some] <;> rfl)) | (simp [*, errW_none, errW_some] <;> rfl), by repeat (first | (with_reducible first | exact HB.out | apply below_alloc | apply pw_below_drewN | apply below_drew1) | exact HB.out)⟩
                          ·rw [if_neg c162] at H
                           have c162b0 : ((rd t213 (ji17)) == (rd t216 (ji159))) = false := beq_eq_false_iff_ne.mpr c162
                           have c162b1 : ((rd t213 (ji17)) != (rd t216 (ji159))) = true := bne_iff_ne.mpr c162
                           replace H := Option.bind_eq_some_iff.mp H
                           obtain ⟨t318, A1660, H⟩ := H
                           replace H : (some (t318, 0)) = some (r1, r2) := H
                           have A166 := Aside0.mk A1660
                           clear A1660
                           simp only [Option.some.injEq, Prod.mk.injEq] at H
                           obtain ⟨rfl, rfl⟩ := H
                           obtain ⟨Ao167, co167, eo167⟩ := Kd.R_slice HO_11.out
                           subst eo167
                           have p315 : 0 ≤ ((ji159) : Int) := of_decide_eq_true (by first | (with_reducible assumption) | assumption)
                           have q315 : (ji159) < (t216.length : Int) := of_decide_eq_true (by first | (with_reducible assumption) | assumption)
                           obtain ⟨ad315, e315, hx315_0⟩ := Kd.at_int (Kd.R_reads' HO_11.out).2.2 (ji159) p315 q315
                           cases e315
                           replace p315 := eq_true p315
                           replace q315 := eq_true q315
                           go_wp2_with (first | (go_at_call 93; (with_reducible refine (retargetref01_truth.calls ((rd t213 (ji17)) == 1) t318 _ A166.out).mono ?_); rintro e w' ⟨rfl, ⟨nd, rfl⟩⟩; (try first | exact ⟨rfl, _, World.drewN_drewN _ _ _⟩ | exact ⟨rfl, _, Eq.trans (World.drewN_drewN _ _ _) (congrArg (World.drewN _) (Nat.add_assoc _ _ _))⟩)))
                           repeat (go_quiet (first | (go_at_call 93; (with_reducible refine (retargetref01_truth.calls ((rd t213 (ji17)) == 1) t318 _ A166.out).mono ?_); rintro e w' ⟨rfl, ⟨nd, rfl⟩⟩; (try first | exact ⟨rfl, _, World.drewN_drewN _ _ _⟩ | exact ⟨rfl, _, Eq.trans (World.drewN_drewN _ _ _) (congrArg (World.drewN _) (Nat.add_assoc _ _ _))⟩))); try go_wp2_with (first | (go_at_call 93; (with_reducible refine (retargetref01_truth.calls ((rd t213 (ji17)) == 1) t318 _ A166.out).mono ?_); rintro e w' ⟨rfl, ⟨nd, rfl⟩⟩; (try first | exact ⟨rfl, _, World.drewN_drewN _ _ _⟩ | exact ⟨rfl, _, Eq.trans (World.drewN_drewN _ _ _) (congrArg (World.drewN _) (Nat.add_assoc _ _ _))⟩))))
                           go_ret2
                           exact ⟨by first | rfl | (simp [errW_none, errW_some] <;> rfl) | (simp only [← hji17, ← hji159]; first | rfl | (simp [errW_none, errW_some] <;> rfl)) | (simp [*, errW_none, errW_some] <;> rfl), by repeat (first | (with_reducible first | exact HB.out | apply below_alloc | apply pw_below_drewN | apply below_drew1) | exact HB.out)⟩
                         ·rw [if_neg c161] at H
                          exact absurd H (by simp)
                        ·rw [if_neg c160] at H
                         exact absurd H (by simp)
                       ·rw [if_neg c158] at H
                        have c158b0 : (a0 == 18) = false := beq_eq_false_iff_ne.mpr c158
                        have c158b1 : (a0 != 18) = true := bne_iff_ne.mpr c158
                        replace H := Option.bind_eq_some_iff.mp H
                        obtain ⟨t319, A1680, H⟩ := H
                        replace H : (some (t319, 0)) = some (r1, r2) := H
                        have A168 := Aside0.mk A1680
                        clear A1680
                        simp only [Option.some.injEq, Prod.mk.injEq] at H
                        obtain ⟨rfl, rfl⟩ := H
                        go_wp2_with (first | (go_at_call 83; refine calls_of_args (args' := #[.slice none ([] : List Int).length 0]) (by first | (rw [show ([] : List Int).length = 0 from (Kd.R_reads' HO_13.out).1.symm] <;> rfl) | rfl) ?_; (with_reducible refine (retargetref01_Number.calls kj49 _ _ ([] : List Int) t319 _ ?side1 ?side2 A168.out).mono ?_); (case side1 => repeat (first | exact (Kd.R_reads' HO_13.out).2.2 | (with_reducible refine Kd.C_alloc ?_ _) | (with_reducible refine Kd.C_drewN ?_ _) | (with_reducible refine Kd.C_drew ?_))); (case side2 => rw [show ([] : List Int).length = 0 from (Kd.R_reads' HO_13.out).1.symm]; exact (Kd.R_reads' HO_13.out).2.1); rintro e w' ⟨rfl, ⟨nd, rfl⟩⟩; (try first | exact ⟨rfl, _, World.drewN_drewN _ _ _⟩ | exact ⟨rfl, _, Eq.trans (World.drewN_drewN _ _ _) (congrArg (World.drewN _) (Nat.add_assoc _ _ _))⟩)))
                        go_ret2
                        exact ⟨by first | rfl | (simp [errW_none, errW_some] <;> rfl) | (simp only [← hji17]; first | rfl | (simp [errW_none, errW_some] <;> rfl)) | (simp [*, errW_none, errW_some] <;> rfl), by repeat (first | (with_reducible first | exact HB.out | apply below_alloc | apply pw_below_drewN | apply below_drew1) | exact HB.out)⟩
         ·rw [if_neg c19] at H
          exact absurd H (by simp)
        ·rw [if_neg c18] at H
         exact absurd H (by simp)
 ·replace c6 := Bool.eq_false_iff.mpr c6
  subst c6
  have H1 : (some (0, 14)) = some (r1, r2) := by rw [if_neg (show ¬ (false = true) by decide)] at H; exact H
  clear H
  have H := H1
  clear H1
  simp only [Option.some.injEq, Prod.mk.injEq] at H
  obtain ⟨rfl, rfl⟩ := H
  go_enter Try.func48, Try.ntmps48
  go_wp2_with (first | (go_at_call 78; (with_reducible refine (retargetref01_Wide.calls a1 false _ A5.out).mono ?_); rintro e w' ⟨rfl, ⟨nd, rfl⟩⟩; (try first | exact ⟨rfl, _, World.drewN_drewN _ _ _⟩ | exact ⟨rfl, _, Eq.trans (World.drewN_drewN _ _ _) (congrArg (World.drewN _) (Nat.add_assoc _ _ _))⟩)))
  go_ret2
  exact ⟨by first | rfl | (simp [errW_none, errW_some] <;> rfl) | (simp [*, errW_none, errW_some] <;> rfl), by repeat (first | (with_reducible first | exact HB.out | apply below_alloc | apply pw_below_drewN | apply below_drew1) | exact HB.out)⟩

end Go.Proofs.Ytbckdelbkcfjkaa.Bi
