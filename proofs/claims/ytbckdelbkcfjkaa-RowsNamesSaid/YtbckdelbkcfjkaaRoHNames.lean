/- The walk of the law RowsNames: every call by its answer at these very tables and bytes. -/
import Derived.Lib.Hide
import Derived.Test.YtbckdelbkcfjkaaRox0
import Derived.Test.YtbckdelbkcfjkaaRoFretargetlaw42alive
import Derived.Test.YtbckdelbkcfjkaaRoFretargetref42Same
import Derived.Test.YtbckdelbkcfjkaaRoFretargetref42SameBytes
import Derived.Test.YtbckdelbkcfjkaaRoFrowsCheck
import Derived.Test.YtbckdelbkcfjkaaRoFrowsFind
import Derived.Test.YtbckdelbkcfjkaaRoFrowsShift
import Derived.Test.YtbckdelbkcfjkaaRoHJoin
import Derived.Test.YtbckdelbkcfjkaaRoHPack
import Derived.Test.YtbckdelbkcfjkaaRoHUnpack
namespace Go.Proofs.Ytbckdelbkcfjkaa.Ro
open Go.RowKit Go.Proofs.YtbckdelbkcfjkaaW.PrintWords Go.Proofs.YtbckdelbkcfjkaaW.PrintLast Go.Proofs.YtbckdelbkcfjkaaW.PrintMore
set_option linter.unusedVariables false
set_option linter.unusedSimpArgs false
instance rn_dec : DecidableEq S72 := fun a b => decidable_of_iff (a.f0 = b.f0 ∧ a.f1 = b.f1) ⟨fun ⟨h1, h2⟩ => by cases a; cases b; simp_all, fun h => by rw [h]; exact ⟨rfl, rfl⟩⟩
theorem rn_add (b o j : Nat) : (⟨b, o, none⟩ : Addr).add j = ⟨b, o + j, none⟩ := by
  unfold Addr.add
  split
  · rename_i h; subst h; rfl
  · rfl
theorem rn_cell {w : World} {b : Nat} {c : Array Value} {e : Nat} {f : Nat × Nat} (h : w.heap[b]? = some (.cells c e f)) (i : Nat) : w.cell? ⟨b, i, none⟩ = c[i]? := by
  unfold World.cell?
  simp [h]
/-- What a row reads that has just been laid. -/
theorem C_new {α : Type} (d : Kd α) (w : World) (e : Nat) (xs : List α) (inner : List Value) (h : Reps (d.K (w.alloc (.cells inner.toArray e))) d.sz xs inner) (hm : xs.length ≤ 9223372036854775807) :
    d.C (w.alloc (.cells inner.toArray e)) (some ⟨w.heap.size, 0, none⟩) xs.length xs := by
  refine ⟨rfl, hm, fun _ => ⟨_, rfl, fun j p hj => ⟨_, d.K_len (h.2 j p hj), h.2 j p hj, fun i u hu => ?_⟩⟩⟩
  rw [List.getElem?_take] at hu
  split at hu
  · rw [List.getElem?_drop] at hu
    rw [rn_add, rn_cell (World.alloc_heap_new w _)]
    simpa using hu
  · cases hu
theorem l_a (w : World) : k72.C (w.alloc (.cells #[.int .u64 4, .int .i64 1] 72)) (some ⟨w.heap.size, 0, none⟩) 1 ([⟨4, 1⟩] : List S72) := C_new k72 w 72 ([⟨4, 1⟩] : List S72) [.int .u64 4, .int .i64 1] (Reps.c2 (k72_mk _ (⟨4, 1⟩ : S72)) (Reps.none _ _)) (by decide)
theorem l_last (w : World) : k72.C (w.alloc (.cells #[.int .u64 4294967295, .int .i64 1048576] 72)) (some ⟨w.heap.size, 0, none⟩) 1 ([⟨4294967295, 1048576⟩] : List S72) := C_new k72 w 72 ([⟨4294967295, 1048576⟩] : List S72) [.int .u64 4294967295, .int .i64 1048576] (Reps.c2 (k72_mk _ (⟨4294967295, 1048576⟩ : S72)) (Reps.none _ _)) (by decide)
theorem l_long (w : World) : (Kd.int .u8).C (w.alloc (.cells #[.int .u8 1, .int .u8 255, .int .u8 255, .int .u8 255, .int .u8 255, .int .u8 15, .int .u8 128, .int .u8 128, .int .u8 128, .int .u8 1, .int .u8 0] 5)) (some ⟨w.heap.size, 0, none⟩) 11 ([1, 255, 255, 255, 255, 15, 128, 128, 128, 1, 0] : List Int) := C_new (Kd.int .u8) w 5 ([1, 255, 255, 255, 255, 15, 128, 128, 128, 1, 0] : List Int) [.int .u8 1, .int .u8 255, .int .u8 255, .int .u8 255, .int .u8 255, .int .u8 15, .int .u8 128, .int .u8 128, .int .u8 128, .int .u8 1, .int .u8 0] (Reps.one (show (Kd.int .u8).K _ 1 [.int .u8 1] from rfl) (Reps.one (show (Kd.int .u8).K _ 255 [.int .u8 255] from rfl) (Reps.one (show (Kd.int .u8).K _ 255 [.int .u8 255] from rfl) (Reps.one (show (Kd.int .u8).K _ 255 [.int .u8 255] from rfl) (Reps.one (show (Kd.int .u8).K _ 255 [.int .u8 255] from rfl) (Reps.one (show (Kd.int .u8).K _ 15 [.int .u8 15] from rfl) (Reps.one (show (Kd.int .u8).K _ 128 [.int .u8 128] from rfl) (Reps.one (show (Kd.int .u8).K _ 128 [.int .u8 128] from rfl) (Reps.one (show (Kd.int .u8).K _ 128 [.int .u8 128] from rfl) (Reps.one (show (Kd.int .u8).K _ 1 [.int .u8 1] from rfl) (Reps.one (show (Kd.int .u8).K _ 0 [.int .u8 0] from rfl) (Reps.none _ _)))))))))))) (by decide)
theorem l_1 (w : World) : k72.C (w.alloc (.cells #[.int .u64 1, .int .i64 5] 72)) (some ⟨w.heap.size, 0, none⟩) 1 ([⟨1, 5⟩] : List S72) := C_new k72 w 72 ([⟨1, 5⟩] : List S72) [.int .u64 1, .int .i64 5] (Reps.c2 (k72_mk _ (⟨1, 5⟩ : S72)) (Reps.none _ _)) (by decide)
theorem l_2 (w : World) : k72.C (w.alloc (.cells #[.int .u64 2, .int .i64 5, .int .u64 3, .int .i64 6] 72)) (some ⟨w.heap.size, 0, none⟩) 2 ([⟨2, 5⟩, ⟨3, 6⟩] : List S72) := C_new k72 w 72 ([⟨2, 5⟩, ⟨3, 6⟩] : List S72) [.int .u64 2, .int .i64 5, .int .u64 3, .int .i64 6] (Reps.c2 (k72_mk _ (⟨2, 5⟩ : S72)) (Reps.c2 (k72_mk _ (⟨3, 6⟩ : S72)) (Reps.none _ _))) (by decide)
theorem l_o (w : World) : k72.C (w.alloc (.cells #[.int .u64 1, .int .i64 5, .int .u64 3, .int .i64 6] 72)) (some ⟨w.heap.size, 0, none⟩) 2 ([⟨1, 5⟩, ⟨3, 6⟩] : List S72) := C_new k72 w 72 ([⟨1, 5⟩, ⟨3, 6⟩] : List S72) [.int .u64 1, .int .i64 5, .int .u64 3, .int .i64 6] (Reps.c2 (k72_mk _ (⟨1, 5⟩ : S72)) (Reps.c2 (k72_mk _ (⟨3, 6⟩ : S72)) (Reps.none _ _))) (by decide)
theorem l_0 (w : World) : (Kd.int .u8).C (w.alloc (.cells #[.int .u8 0] 5)) (some ⟨w.heap.size, 0, none⟩) 1 ([0] : List Int) := C_new (Kd.int .u8) w 5 ([0] : List Int) [.int .u8 0] (Reps.one (show (Kd.int .u8).K _ 0 [.int .u8 0] from rfl) (Reps.none _ _)) (by decide)
theorem l_c1 (w : World) : k72.C (w.alloc (.cells #[.int .u64 4294967296, .int .i64 1] 72)) (some ⟨w.heap.size, 0, none⟩) 1 ([⟨4294967296, 1⟩] : List S72) := C_new k72 w 72 ([⟨4294967296, 1⟩] : List S72) [.int .u64 4294967296, .int .i64 1] (Reps.c2 (k72_mk _ (⟨4294967296, 1⟩ : S72)) (Reps.none _ _)) (by decide)
theorem l_c2 (w : World) : k72.C (w.alloc (.cells #[.int .u64 0, .int .i64 0] 72)) (some ⟨w.heap.size, 0, none⟩) 1 ([⟨0, 0⟩] : List S72) := C_new k72 w 72 ([⟨0, 0⟩] : List S72) [.int .u64 0, .int .i64 0] (Reps.c2 (k72_mk _ (⟨0, 0⟩ : S72)) (Reps.none _ _)) (by decide)
theorem l_c3 (w : World) : k72.C (w.alloc (.cells #[.int .u64 0, .int .i64 1048577] 72)) (some ⟨w.heap.size, 0, none⟩) 1 ([⟨0, 1048577⟩] : List S72) := C_new k72 w 72 ([⟨0, 1048577⟩] : List S72) [.int .u64 0, .int .i64 1048577] (Reps.c2 (k72_mk _ (⟨0, 1048577⟩ : S72)) (Reps.none _ _)) (by decide)
theorem l_c4 (w : World) : k72.C (w.alloc (.cells #[.int .u64 1, .int .i64 1, .int .u64 1, .int .i64 2] 72)) (some ⟨w.heap.size, 0, none⟩) 2 ([⟨1, 1⟩, ⟨1, 2⟩] : List S72) := C_new k72 w 72 ([⟨1, 1⟩, ⟨1, 2⟩] : List S72) [.int .u64 1, .int .i64 1, .int .u64 1, .int .i64 2] (Reps.c2 (k72_mk _ (⟨1, 1⟩ : S72)) (Reps.c2 (k72_mk _ (⟨1, 2⟩ : S72)) (Reps.none _ _))) (by decide)
theorem l_c5 (w : World) : k72.C (w.alloc (.cells #[.int .u64 1, .int .i64 1, .int .u64 2, .int .i64 1] 72)) (some ⟨w.heap.size, 0, none⟩) 2 ([⟨1, 1⟩, ⟨2, 1⟩] : List S72) := C_new k72 w 72 ([⟨1, 1⟩, ⟨2, 1⟩] : List S72) [.int .u64 1, .int .i64 1, .int .u64 2, .int .i64 1] (Reps.c2 (k72_mk _ (⟨1, 1⟩ : S72)) (Reps.c2 (k72_mk _ (⟨2, 1⟩ : S72)) (Reps.none _ _))) (by decide)
theorem l_f0 (w : World) : (Kd.int .u8).C (w.alloc (.cells #[] 5)) (some ⟨w.heap.size, 0, none⟩) 0 ([] : List Int) := C_new (Kd.int .u8) w 5 ([] : List Int) [] (Reps.none _ _) (by decide)
theorem l_f1 (w : World) : (Kd.int .u8).C (w.alloc (.cells #[.int .u8 89] 5)) (some ⟨w.heap.size, 0, none⟩) 1 ([89] : List Int) := C_new (Kd.int .u8) w 5 ([89] : List Int) [.int .u8 89] (Reps.one (show (Kd.int .u8).K _ 89 [.int .u8 89] from rfl) (Reps.none _ _)) (by decide)
theorem l_f2 (w : World) : (Kd.int .u8).C (w.alloc (.cells #[.int .u8 0, .int .u8 0] 5)) (some ⟨w.heap.size, 0, none⟩) 2 ([0, 0] : List Int) := C_new (Kd.int .u8) w 5 ([0, 0] : List Int) [.int .u8 0, .int .u8 0] (Reps.one (show (Kd.int .u8).K _ 0 [.int .u8 0] from rfl) (Reps.one (show (Kd.int .u8).K _ 0 [.int .u8 0] from rfl) (Reps.none _ _))) (by decide)
theorem l_f3 (w : World) : (Kd.int .u8).C (w.alloc (.cells #[.int .u8 1, .int .u8 4, .int .u8 2, .int .u8 0] 5)) (some ⟨w.heap.size, 0, none⟩) 4 ([1, 4, 2, 0] : List Int) := C_new (Kd.int .u8) w 5 ([1, 4, 2, 0] : List Int) [.int .u8 1, .int .u8 4, .int .u8 2, .int .u8 0] (Reps.one (show (Kd.int .u8).K _ 1 [.int .u8 1] from rfl) (Reps.one (show (Kd.int .u8).K _ 4 [.int .u8 4] from rfl) (Reps.one (show (Kd.int .u8).K _ 2 [.int .u8 2] from rfl) (Reps.one (show (Kd.int .u8).K _ 0 [.int .u8 0] from rfl) (Reps.none _ _))))) (by decide)
theorem l_f4 (w : World) : (Kd.int .u8).C (w.alloc (.cells #[.int .u8 1, .int .u8 128, .int .u8 0, .int .u8 2, .int .u8 0] 5)) (some ⟨w.heap.size, 0, none⟩) 5 ([1, 128, 0, 2, 0] : List Int) := C_new (Kd.int .u8) w 5 ([1, 128, 0, 2, 0] : List Int) [.int .u8 1, .int .u8 128, .int .u8 0, .int .u8 2, .int .u8 0] (Reps.one (show (Kd.int .u8).K _ 1 [.int .u8 1] from rfl) (Reps.one (show (Kd.int .u8).K _ 128 [.int .u8 128] from rfl) (Reps.one (show (Kd.int .u8).K _ 0 [.int .u8 0] from rfl) (Reps.one (show (Kd.int .u8).K _ 2 [.int .u8 2] from rfl) (Reps.one (show (Kd.int .u8).K _ 0 [.int .u8 0] from rfl) (Reps.none _ _)))))) (by decide)
theorem l_f5 (w : World) : (Kd.int .u8).C (w.alloc (.cells #[.int .u8 2, .int .u8 0] 5)) (some ⟨w.heap.size, 0, none⟩) 2 ([2, 0] : List Int) := C_new (Kd.int .u8) w 5 ([2, 0] : List Int) [.int .u8 2, .int .u8 0] (Reps.one (show (Kd.int .u8).K _ 2 [.int .u8 2] from rfl) (Reps.one (show (Kd.int .u8).K _ 0 [.int .u8 0] from rfl) (Reps.none _ _))) (by decide)
theorem l_f6 (w : World) : (Kd.int .u8).C (w.alloc (.cells #[.int .u8 31, .int .u8 0] 5)) (some ⟨w.heap.size, 0, none⟩) 2 ([31, 0] : List Int) := C_new (Kd.int .u8) w 5 ([31, 0] : List Int) [.int .u8 31, .int .u8 0] (Reps.one (show (Kd.int .u8).K _ 31 [.int .u8 31] from rfl) (Reps.one (show (Kd.int .u8).K _ 0 [.int .u8 0] from rfl) (Reps.none _ _))) (by decide)
theorem l_f7 (w : World) : (Kd.int .u8).C (w.alloc (.cells #[.int .u8 1, .int .u8 0] 5)) (some ⟨w.heap.size, 0, none⟩) 2 ([1, 0] : List Int) := C_new (Kd.int .u8) w 5 ([1, 0] : List Int) [.int .u8 1, .int .u8 0] (Reps.one (show (Kd.int .u8).K _ 1 [.int .u8 1] from rfl) (Reps.one (show (Kd.int .u8).K _ 0 [.int .u8 0] from rfl) (Reps.none _ _))) (by decide)
theorem l_f8 (w : World) : (Kd.int .u8).C (w.alloc (.cells #[.int .u8 1, .int .u8 0, .int .u8 0, .int .u8 0] 5)) (some ⟨w.heap.size, 0, none⟩) 4 ([1, 0, 0, 0] : List Int) := C_new (Kd.int .u8) w 5 ([1, 0, 0, 0] : List Int) [.int .u8 1, .int .u8 0, .int .u8 0, .int .u8 0] (Reps.one (show (Kd.int .u8).K _ 1 [.int .u8 1] from rfl) (Reps.one (show (Kd.int .u8).K _ 0 [.int .u8 0] from rfl) (Reps.one (show (Kd.int .u8).K _ 0 [.int .u8 0] from rfl) (Reps.one (show (Kd.int .u8).K _ 0 [.int .u8 0] from rfl) (Reps.none _ _))))) (by decide)
theorem l_f9 (w : World) : (Kd.int .u8).C (w.alloc (.cells #[.int .u8 89, .int .u8 88, .int .u8 0] 5)) (some ⟨w.heap.size, 0, none⟩) 3 ([89, 88, 0] : List Int) := C_new (Kd.int .u8) w 5 ([89, 88, 0] : List Int) [.int .u8 89, .int .u8 88, .int .u8 0] (Reps.one (show (Kd.int .u8).K _ 89 [.int .u8 89] from rfl) (Reps.one (show (Kd.int .u8).K _ 88 [.int .u8 88] from rfl) (Reps.one (show (Kd.int .u8).K _ 0 [.int .u8 0] from rfl) (Reps.none _ _)))) (by decide)
theorem l_f10 (w : World) : (Kd.int .u8).C (w.alloc (.cells #[.int .u8 32, .int .u8 0] 5)) (some ⟨w.heap.size, 0, none⟩) 2 ([32, 0] : List Int) := C_new (Kd.int .u8) w 5 ([32, 0] : List Int) [.int .u8 32, .int .u8 0] (Reps.one (show (Kd.int .u8).K _ 32 [.int .u8 32] from rfl) (Reps.one (show (Kd.int .u8).K _ 0 [.int .u8 0] from rfl) (Reps.none _ _))) (by decide)
theorem l_f11 (w : World) : (Kd.int .u8).C (w.alloc (.cells #[.int .u8 1, .int .u8 255, .int .u8 255, .int .u8 255, .int .u8 255, .int .u8 31, .int .u8 2, .int .u8 0] 5)) (some ⟨w.heap.size, 0, none⟩) 8 ([1, 255, 255, 255, 255, 31, 2, 0] : List Int) := C_new (Kd.int .u8) w 5 ([1, 255, 255, 255, 255, 31, 2, 0] : List Int) [.int .u8 1, .int .u8 255, .int .u8 255, .int .u8 255, .int .u8 255, .int .u8 31, .int .u8 2, .int .u8 0] (Reps.one (show (Kd.int .u8).K _ 1 [.int .u8 1] from rfl) (Reps.one (show (Kd.int .u8).K _ 255 [.int .u8 255] from rfl) (Reps.one (show (Kd.int .u8).K _ 255 [.int .u8 255] from rfl) (Reps.one (show (Kd.int .u8).K _ 255 [.int .u8 255] from rfl) (Reps.one (show (Kd.int .u8).K _ 255 [.int .u8 255] from rfl) (Reps.one (show (Kd.int .u8).K _ 31 [.int .u8 31] from rfl) (Reps.one (show (Kd.int .u8).K _ 2 [.int .u8 2] from rfl) (Reps.one (show (Kd.int .u8).K _ 0 [.int .u8 0] from rfl) (Reps.none _ _))))))))) (by decide)
theorem c30 (w : World) : Calls Try.prog 62 #[.slice none 0 0] w fun e w' => ∃ A c, e = .returned (.tuple #[.slice A 1 c, .int .i64 0]) ∧ 1 ≤ c ∧ (Kd.int .u8).C w' A 1 ([0] : List Int) ∧ Below w.heap.size w w' := (rows_Pack.calls 64 none 0 [] ([0] : List Int) 0 w (Kd.C_nil k72 _) (by decide) (by decide +kernel)).mono fun e w' ⟨v, he, hr, hb⟩ => by obtain ⟨A, c, rfl, hl, hc⟩ := Kd.R_reads hr; exact ⟨A, c, he, hl, hc, hb⟩
theorem c34 (w : World) : Calls Try.prog 21 #[.slice none 0 0, .int .u64 0] w fun e w' => e = .returned (.tuple #[.int .i64 0, .int .i64 6]) ∧ Below w.heap.size w w' := (rows_Find.calls 64 none 0 [] 0 0 6 _ (Kd.C_nil k72 _) (by decide) (by decide +kernel)).mono fun e w' ⟨he, hb⟩ => ⟨he, hb⟩
theorem c40 (w : World) : Calls Try.prog 21 #[.slice (some ⟨w.heap.size, 0, none⟩) 1 1, .int .u64 3] (w.alloc (.cells #[.int .u64 4, .int .i64 1] 72)) fun e w' => e = .returned (.tuple #[.int .i64 0, .int .i64 6]) ∧ Below w.heap.size w w' := (rows_Find.calls 64 (some ⟨w.heap.size, 0, none⟩) 1 ([⟨4, 1⟩] : List S72) 3 0 6 _ (l_a w) (by decide) (by decide +kernel)).mono fun e w' ⟨he, hb⟩ => ⟨he, below_step (below_alloc (Below.refl _ _) _) hb⟩
theorem c44 (w : World) : Calls Try.prog 21 #[.slice none 0 0, .int .u64 4294967296] w fun e w' => e = .returned (.tuple #[.int .i64 0, .int .i64 2]) ∧ Below w.heap.size w w' := (rows_Find.calls 64 none 0 [] 4294967296 0 2 _ (Kd.C_nil k72 _) (by decide) (by decide +kernel)).mono fun e w' ⟨he, hb⟩ => ⟨he, hb⟩
theorem c51 (w : World) (ad : Addr) (h : k72.C w (some ad) 1 ([⟨4294967295, 1048576⟩] : List S72)) : Calls Try.prog 62 #[.slice (some ad) 1 1] w fun e w' => ∃ A c, e = .returned (.tuple #[.slice A 11 c, .int .i64 0]) ∧ 11 ≤ c ∧ (Kd.int .u8).C w' A 11 ([1, 255, 255, 255, 255, 15, 128, 128, 128, 1, 0] : List Int) ∧ Below w.heap.size w w' := (rows_Pack.calls 64 (some ad) 1 ([⟨4294967295, 1048576⟩] : List S72) ([1, 255, 255, 255, 255, 15, 128, 128, 128, 1, 0] : List Int) 0 w h (by decide) (by decide +kernel)).mono fun e w' ⟨v, he, hr, hb⟩ => by obtain ⟨A, c, rfl, hl, hc⟩ := Kd.R_reads hr; exact ⟨A, c, he, hl, hc, hb⟩
theorem c56 (w : World) : Calls Try.prog 64 #[.slice (some ⟨w.heap.size, 0, none⟩) 11 11] (w.alloc (.cells #[.int .u8 1, .int .u8 255, .int .u8 255, .int .u8 255, .int .u8 255, .int .u8 15, .int .u8 128, .int .u8 128, .int .u8 128, .int .u8 1, .int .u8 0] 5)) fun e w' => ∃ A c, e = .returned (.tuple #[.slice A 1 c, .int .i64 0]) ∧ 1 ≤ c ∧ k72.C w' A 1 ([⟨4294967295, 1048576⟩] : List S72) ∧ Below w.heap.size w w' := (rows_Unpack.calls 64 (some ⟨w.heap.size, 0, none⟩) 11 ([1, 255, 255, 255, 255, 15, 128, 128, 128, 1, 0] : List Int) ([⟨4294967295, 1048576⟩] : List S72) 0 _ (l_long w) (by decide) (by decide +kernel)).mono fun e w' ⟨v, he, hr, hb⟩ => by obtain ⟨A, c, rfl, hl, hc⟩ := Kd.R_reads hr; exact ⟨A, c, he, hl, hc, below_step (below_alloc (Below.refl _ _) _) hb⟩
theorem c61 (w : World) (ad : Addr) (h : k72.C w (some ad) 1 ([⟨4294967295, 1048576⟩] : List S72)) : Calls Try.prog 49 #[.slice (some ad) 1 1, .int .u64 1] w fun e w' => ∃ v, e = .returned (.tuple #[v, .int .i64 2]) ∧ Below w.heap.size w w' := (rows_Shift.calls 64 (some ad) 1 ([⟨4294967295, 1048576⟩] : List S72) 1 [] 2 w h (by decide) (by decide +kernel)).mono fun e w' ⟨v, he, hr, hb⟩ => ⟨v, he, hb⟩
theorem c65 (w : World) : Calls Try.prog 49 #[.slice none 0 0, .int .u64 9223372036854775808] w fun e w' => ∃ v, e = .returned (.tuple #[v, .int .i64 0]) ∧ Below w.heap.size w w' := (rows_Shift.calls 64 none 0 [] 9223372036854775808 [] 0 w (Kd.C_nil k72 _) (by decide) (by decide +kernel)).mono fun e w' ⟨v, he, hr, hb⟩ => ⟨v, he, hb⟩
theorem c71 (w : World) (ad : Addr) (h : k72.C w (some ad) 1 ([⟨4294967295, 1048576⟩] : List S72)) : Calls Try.prog 51 #[.slice (some ad) 1 1, .slice (some ad) 1 1] w fun e w' => ∃ v, e = .returned (.tuple #[v, .int .i64 2]) ∧ Below w.heap.size w w' := (rows_Join.calls 64 (some ad) 1 ([⟨4294967295, 1048576⟩] : List S72) (some ad) 1 ([⟨4294967295, 1048576⟩] : List S72) [] 2 w h (by decide) h (by decide) (by decide +kernel)).mono fun e w' ⟨v, he, hr, hb⟩ => ⟨v, he, hb⟩
theorem c80 (w : World) : Calls Try.prog 51 #[.slice (some ⟨w.heap.size, 0, none⟩) 1 1, .slice (some ⟨w.heap.size + 1, 0, none⟩) 2 2] ((w.alloc (.cells #[.int .u64 1, .int .i64 5] 72)).alloc (.cells #[.int .u64 2, .int .i64 5, .int .u64 3, .int .i64 6] 72)) fun e w' => ∃ A c, e = .returned (.tuple #[.slice A 2 c, .int .i64 0]) ∧ 2 ≤ c ∧ k72.C w' A 2 ([⟨1, 5⟩, ⟨3, 6⟩] : List S72) ∧ Below w.heap.size w w' := by
  have h2 := l_2 (w.alloc (.cells #[.int .u64 1, .int .i64 5] 72))
  rw [World.size_alloc] at h2
  exact (rows_Join.calls 64 (some ⟨w.heap.size, 0, none⟩) 1 ([⟨1, 5⟩] : List S72) (some ⟨w.heap.size + 1, 0, none⟩) 2 ([⟨2, 5⟩, ⟨3, 6⟩] : List S72) ([⟨1, 5⟩, ⟨3, 6⟩] : List S72) 0 _ (Kd.C_alloc (l_1 w) _) (by decide) h2 (by decide) (by decide +kernel)).mono fun e w' ⟨v, he, hr, hb⟩ => by obtain ⟨A, c, rfl, hl, hc⟩ := Kd.R_reads hr; exact ⟨A, c, he, hl, hc, below_step (below_alloc (below_alloc (Below.refl _ _) _) _) hb⟩
theorem c85 (w : World) : Calls Try.prog 23 #[.slice (some ⟨w.heap.size, 0, none⟩) 1 1] (w.alloc (.cells #[.int .u64 4294967296, .int .i64 1] 72)) fun e w' => e = .returned (.int .i64 8) ∧ Below w.heap.size w w' := (rows_Check.calls 64 (some ⟨w.heap.size, 0, none⟩) 1 ([⟨4294967296, 1⟩] : List S72) 8 _ (l_c1 w) (by decide) (by decide +kernel)).mono fun e w' ⟨he, hb⟩ => ⟨he, below_step (below_alloc (Below.refl _ _) _) hb⟩
theorem c90 (w : World) : Calls Try.prog 23 #[.slice (some ⟨w.heap.size, 0, none⟩) 1 1] (w.alloc (.cells #[.int .u64 0, .int .i64 0] 72)) fun e w' => e = .returned (.int .i64 8) ∧ Below w.heap.size w w' := (rows_Check.calls 64 (some ⟨w.heap.size, 0, none⟩) 1 ([⟨0, 0⟩] : List S72) 8 _ (l_c2 w) (by decide) (by decide +kernel)).mono fun e w' ⟨he, hb⟩ => ⟨he, below_step (below_alloc (Below.refl _ _) _) hb⟩
theorem c96 (w : World) : Calls Try.prog 23 #[.slice (some ⟨w.heap.size, 0, none⟩) 1 1] (w.alloc (.cells #[.int .u64 0, .int .i64 1048577] 72)) fun e w' => e = .returned (.int .i64 8) ∧ Below w.heap.size w w' := (rows_Check.calls 64 (some ⟨w.heap.size, 0, none⟩) 1 ([⟨0, 1048577⟩] : List S72) 8 _ (l_c3 w) (by decide) (by decide +kernel)).mono fun e w' ⟨he, hb⟩ => ⟨he, below_step (below_alloc (Below.refl _ _) _) hb⟩
theorem c103 (w : World) : Calls Try.prog 23 #[.slice (some ⟨w.heap.size, 0, none⟩) 2 2] (w.alloc (.cells #[.int .u64 1, .int .i64 1, .int .u64 1, .int .i64 2] 72)) fun e w' => e = .returned (.int .i64 8) ∧ Below w.heap.size w w' := (rows_Check.calls 64 (some ⟨w.heap.size, 0, none⟩) 2 ([⟨1, 1⟩, ⟨1, 2⟩] : List S72) 8 _ (l_c4 w) (by decide) (by decide +kernel)).mono fun e w' ⟨he, hb⟩ => ⟨he, below_step (below_alloc (Below.refl _ _) _) hb⟩
theorem c110 (w : World) : Calls Try.prog 23 #[.slice (some ⟨w.heap.size, 0, none⟩) 2 2] (w.alloc (.cells #[.int .u64 1, .int .i64 1, .int .u64 2, .int .i64 1] 72)) fun e w' => e = .returned (.int .i64 8) ∧ Below w.heap.size w w' := (rows_Check.calls 64 (some ⟨w.heap.size, 0, none⟩) 2 ([⟨1, 1⟩, ⟨2, 1⟩] : List S72) 8 _ (l_c5 w) (by decide) (by decide +kernel)).mono fun e w' ⟨he, hb⟩ => ⟨he, below_step (below_alloc (Below.refl _ _) _) hb⟩
theorem c115 (w : World) (A : Option Addr) (c : Nat) (l : List S72) (hl : l.length = 1001) (h : k72.C w A l.length l) (hc : l.length ≤ c) : Calls Try.prog 23 #[.slice A 1001 c] w fun e w' => e = .returned (.int .i64 4) ∧ Below w.heap.size w w' := by
  have q := rows_Check.calls 64 A c l 4 w h hc (by unfold rows_Check.f; rw [if_pos (by omega)])
  rw [hl] at q
  exact q
def nmF : List (List Int) := ([[], [89], [0, 0], [1, 4, 2, 0], [1, 128, 0, 2, 0], [2, 0], [31, 0], [1, 0], [1, 0, 0, 0], [89, 88, 0], [32, 0], [1, 255, 255, 255, 255, 31, 2, 0]] : List (List Int))
theorem formsC (w : World) : (Kd.slice 5 (Kd.int .u8)).C (((((((((((((w.alloc (.cells #[] 5)).alloc (.cells #[.int .u8 89] 5)).alloc (.cells #[.int .u8 0, .int .u8 0] 5)).alloc (.cells #[.int .u8 1, .int .u8 4, .int .u8 2, .int .u8 0] 5)).alloc (.cells #[.int .u8 1, .int .u8 128, .int .u8 0, .int .u8 2, .int .u8 0] 5)).alloc (.cells #[.int .u8 2, .int .u8 0] 5)).alloc (.cells #[.int .u8 31, .int .u8 0] 5)).alloc (.cells #[.int .u8 1, .int .u8 0] 5)).alloc (.cells #[.int .u8 1, .int .u8 0, .int .u8 0, .int .u8 0] 5)).alloc (.cells #[.int .u8 89, .int .u8 88, .int .u8 0] 5)).alloc (.cells #[.int .u8 32, .int .u8 0] 5)).alloc (.cells #[.int .u8 1, .int .u8 255, .int .u8 255, .int .u8 255, .int .u8 255, .int .u8 31, .int .u8 2, .int .u8 0] 5)).alloc (.cells #[.slice (some ⟨w.heap.size, 0, none⟩) 0 0, .slice (some ⟨w.heap.size + 1, 0, none⟩) 1 1, .slice (some ⟨w.heap.size + 2, 0, none⟩) 2 2, .slice (some ⟨w.heap.size + 3, 0, none⟩) 4 4, .slice (some ⟨w.heap.size + 4, 0, none⟩) 5 5, .slice (some ⟨w.heap.size + 5, 0, none⟩) 2 2, .slice (some ⟨w.heap.size + 6, 0, none⟩) 2 2, .slice (some ⟨w.heap.size + 7, 0, none⟩) 2 2, .slice (some ⟨w.heap.size + 8, 0, none⟩) 4 4, .slice (some ⟨w.heap.size + 9, 0, none⟩) 3 3, .slice (some ⟨w.heap.size + 10, 0, none⟩) 2 2, .slice (some ⟨w.heap.size + 11, 0, none⟩) 8 8] 79)) (some ⟨w.heap.size + 12, 0, none⟩) 12 nmF := by
  obtain ⟨u1, hu1⟩ : ∃ u, w.alloc (.cells #[] 5) = u := ⟨_, rfl⟩
  have f0 := l_f0 w
  have s1 : u1.heap.size = w.heap.size + 1 := by rw [← hu1, World.size_alloc]
  rw [hu1] at f0 ⊢
  obtain ⟨u2, hu2⟩ : ∃ u, u1.alloc (.cells #[.int .u8 89] 5) = u := ⟨_, rfl⟩
  have f1 := l_f1 u1
  have s2 : u2.heap.size = w.heap.size + 2 := by rw [← hu2, World.size_alloc, s1]
  rw [s1] at f1
  rw [hu2] at f1 ⊢
  replace f0 := Kd.C_below f0 (show Below u1.heap.size u1 u2 from hu2 ▸ below_alloc (Below.refl _ _) _)
  obtain ⟨u3, hu3⟩ : ∃ u, u2.alloc (.cells #[.int .u8 0, .int .u8 0] 5) = u := ⟨_, rfl⟩
  have f2 := l_f2 u2
  have s3 : u3.heap.size = w.heap.size + 3 := by rw [← hu3, World.size_alloc, s2]
  rw [s2] at f2
  rw [hu3] at f2 ⊢
  replace f0 := Kd.C_below f0 (show Below u2.heap.size u2 u3 from hu3 ▸ below_alloc (Below.refl _ _) _)
  replace f1 := Kd.C_below f1 (show Below u2.heap.size u2 u3 from hu3 ▸ below_alloc (Below.refl _ _) _)
  obtain ⟨u4, hu4⟩ : ∃ u, u3.alloc (.cells #[.int .u8 1, .int .u8 4, .int .u8 2, .int .u8 0] 5) = u := ⟨_, rfl⟩
  have f3 := l_f3 u3
  have s4 : u4.heap.size = w.heap.size + 4 := by rw [← hu4, World.size_alloc, s3]
  rw [s3] at f3
  rw [hu4] at f3 ⊢
  replace f0 := Kd.C_below f0 (show Below u3.heap.size u3 u4 from hu4 ▸ below_alloc (Below.refl _ _) _)
  replace f1 := Kd.C_below f1 (show Below u3.heap.size u3 u4 from hu4 ▸ below_alloc (Below.refl _ _) _)
  replace f2 := Kd.C_below f2 (show Below u3.heap.size u3 u4 from hu4 ▸ below_alloc (Below.refl _ _) _)
  obtain ⟨u5, hu5⟩ : ∃ u, u4.alloc (.cells #[.int .u8 1, .int .u8 128, .int .u8 0, .int .u8 2, .int .u8 0] 5) = u := ⟨_, rfl⟩
  have f4 := l_f4 u4
  have s5 : u5.heap.size = w.heap.size + 5 := by rw [← hu5, World.size_alloc, s4]
  rw [s4] at f4
  rw [hu5] at f4 ⊢
  replace f0 := Kd.C_below f0 (show Below u4.heap.size u4 u5 from hu5 ▸ below_alloc (Below.refl _ _) _)
  replace f1 := Kd.C_below f1 (show Below u4.heap.size u4 u5 from hu5 ▸ below_alloc (Below.refl _ _) _)
  replace f2 := Kd.C_below f2 (show Below u4.heap.size u4 u5 from hu5 ▸ below_alloc (Below.refl _ _) _)
  replace f3 := Kd.C_below f3 (show Below u4.heap.size u4 u5 from hu5 ▸ below_alloc (Below.refl _ _) _)
  obtain ⟨u6, hu6⟩ : ∃ u, u5.alloc (.cells #[.int .u8 2, .int .u8 0] 5) = u := ⟨_, rfl⟩
  have f5 := l_f5 u5
  have s6 : u6.heap.size = w.heap.size + 6 := by rw [← hu6, World.size_alloc, s5]
  rw [s5] at f5
  rw [hu6] at f5 ⊢
  replace f0 := Kd.C_below f0 (show Below u5.heap.size u5 u6 from hu6 ▸ below_alloc (Below.refl _ _) _)
  replace f1 := Kd.C_below f1 (show Below u5.heap.size u5 u6 from hu6 ▸ below_alloc (Below.refl _ _) _)
  replace f2 := Kd.C_below f2 (show Below u5.heap.size u5 u6 from hu6 ▸ below_alloc (Below.refl _ _) _)
  replace f3 := Kd.C_below f3 (show Below u5.heap.size u5 u6 from hu6 ▸ below_alloc (Below.refl _ _) _)
  replace f4 := Kd.C_below f4 (show Below u5.heap.size u5 u6 from hu6 ▸ below_alloc (Below.refl _ _) _)
  obtain ⟨u7, hu7⟩ : ∃ u, u6.alloc (.cells #[.int .u8 31, .int .u8 0] 5) = u := ⟨_, rfl⟩
  have f6 := l_f6 u6
  have s7 : u7.heap.size = w.heap.size + 7 := by rw [← hu7, World.size_alloc, s6]
  rw [s6] at f6
  rw [hu7] at f6 ⊢
  replace f0 := Kd.C_below f0 (show Below u6.heap.size u6 u7 from hu7 ▸ below_alloc (Below.refl _ _) _)
  replace f1 := Kd.C_below f1 (show Below u6.heap.size u6 u7 from hu7 ▸ below_alloc (Below.refl _ _) _)
  replace f2 := Kd.C_below f2 (show Below u6.heap.size u6 u7 from hu7 ▸ below_alloc (Below.refl _ _) _)
  replace f3 := Kd.C_below f3 (show Below u6.heap.size u6 u7 from hu7 ▸ below_alloc (Below.refl _ _) _)
  replace f4 := Kd.C_below f4 (show Below u6.heap.size u6 u7 from hu7 ▸ below_alloc (Below.refl _ _) _)
  replace f5 := Kd.C_below f5 (show Below u6.heap.size u6 u7 from hu7 ▸ below_alloc (Below.refl _ _) _)
  obtain ⟨u8, hu8⟩ : ∃ u, u7.alloc (.cells #[.int .u8 1, .int .u8 0] 5) = u := ⟨_, rfl⟩
  have f7 := l_f7 u7
  have s8 : u8.heap.size = w.heap.size + 8 := by rw [← hu8, World.size_alloc, s7]
  rw [s7] at f7
  rw [hu8] at f7 ⊢
  replace f0 := Kd.C_below f0 (show Below u7.heap.size u7 u8 from hu8 ▸ below_alloc (Below.refl _ _) _)
  replace f1 := Kd.C_below f1 (show Below u7.heap.size u7 u8 from hu8 ▸ below_alloc (Below.refl _ _) _)
  replace f2 := Kd.C_below f2 (show Below u7.heap.size u7 u8 from hu8 ▸ below_alloc (Below.refl _ _) _)
  replace f3 := Kd.C_below f3 (show Below u7.heap.size u7 u8 from hu8 ▸ below_alloc (Below.refl _ _) _)
  replace f4 := Kd.C_below f4 (show Below u7.heap.size u7 u8 from hu8 ▸ below_alloc (Below.refl _ _) _)
  replace f5 := Kd.C_below f5 (show Below u7.heap.size u7 u8 from hu8 ▸ below_alloc (Below.refl _ _) _)
  replace f6 := Kd.C_below f6 (show Below u7.heap.size u7 u8 from hu8 ▸ below_alloc (Below.refl _ _) _)
  obtain ⟨u9, hu9⟩ : ∃ u, u8.alloc (.cells #[.int .u8 1, .int .u8 0, .int .u8 0, .int .u8 0] 5) = u := ⟨_, rfl⟩
  have f8 := l_f8 u8
  have s9 : u9.heap.size = w.heap.size + 9 := by rw [← hu9, World.size_alloc, s8]
  rw [s8] at f8
  rw [hu9] at f8 ⊢
  replace f0 := Kd.C_below f0 (show Below u8.heap.size u8 u9 from hu9 ▸ below_alloc (Below.refl _ _) _)
  replace f1 := Kd.C_below f1 (show Below u8.heap.size u8 u9 from hu9 ▸ below_alloc (Below.refl _ _) _)
  replace f2 := Kd.C_below f2 (show Below u8.heap.size u8 u9 from hu9 ▸ below_alloc (Below.refl _ _) _)
  replace f3 := Kd.C_below f3 (show Below u8.heap.size u8 u9 from hu9 ▸ below_alloc (Below.refl _ _) _)
  replace f4 := Kd.C_below f4 (show Below u8.heap.size u8 u9 from hu9 ▸ below_alloc (Below.refl _ _) _)
  replace f5 := Kd.C_below f5 (show Below u8.heap.size u8 u9 from hu9 ▸ below_alloc (Below.refl _ _) _)
  replace f6 := Kd.C_below f6 (show Below u8.heap.size u8 u9 from hu9 ▸ below_alloc (Below.refl _ _) _)
  replace f7 := Kd.C_below f7 (show Below u8.heap.size u8 u9 from hu9 ▸ below_alloc (Below.refl _ _) _)
  obtain ⟨u10, hu10⟩ : ∃ u, u9.alloc (.cells #[.int .u8 89, .int .u8 88, .int .u8 0] 5) = u := ⟨_, rfl⟩
  have f9 := l_f9 u9
  have s10 : u10.heap.size = w.heap.size + 10 := by rw [← hu10, World.size_alloc, s9]
  rw [s9] at f9
  rw [hu10] at f9 ⊢
  replace f0 := Kd.C_below f0 (show Below u9.heap.size u9 u10 from hu10 ▸ below_alloc (Below.refl _ _) _)
  replace f1 := Kd.C_below f1 (show Below u9.heap.size u9 u10 from hu10 ▸ below_alloc (Below.refl _ _) _)
  replace f2 := Kd.C_below f2 (show Below u9.heap.size u9 u10 from hu10 ▸ below_alloc (Below.refl _ _) _)
  replace f3 := Kd.C_below f3 (show Below u9.heap.size u9 u10 from hu10 ▸ below_alloc (Below.refl _ _) _)
  replace f4 := Kd.C_below f4 (show Below u9.heap.size u9 u10 from hu10 ▸ below_alloc (Below.refl _ _) _)
  replace f5 := Kd.C_below f5 (show Below u9.heap.size u9 u10 from hu10 ▸ below_alloc (Below.refl _ _) _)
  replace f6 := Kd.C_below f6 (show Below u9.heap.size u9 u10 from hu10 ▸ below_alloc (Below.refl _ _) _)
  replace f7 := Kd.C_below f7 (show Below u9.heap.size u9 u10 from hu10 ▸ below_alloc (Below.refl _ _) _)
  replace f8 := Kd.C_below f8 (show Below u9.heap.size u9 u10 from hu10 ▸ below_alloc (Below.refl _ _) _)
  obtain ⟨u11, hu11⟩ : ∃ u, u10.alloc (.cells #[.int .u8 32, .int .u8 0] 5) = u := ⟨_, rfl⟩
  have f10 := l_f10 u10
  have s11 : u11.heap.size = w.heap.size + 11 := by rw [← hu11, World.size_alloc, s10]
  rw [s10] at f10
  rw [hu11] at f10 ⊢
  replace f0 := Kd.C_below f0 (show Below u10.heap.size u10 u11 from hu11 ▸ below_alloc (Below.refl _ _) _)
  replace f1 := Kd.C_below f1 (show Below u10.heap.size u10 u11 from hu11 ▸ below_alloc (Below.refl _ _) _)
  replace f2 := Kd.C_below f2 (show Below u10.heap.size u10 u11 from hu11 ▸ below_alloc (Below.refl _ _) _)
  replace f3 := Kd.C_below f3 (show Below u10.heap.size u10 u11 from hu11 ▸ below_alloc (Below.refl _ _) _)
  replace f4 := Kd.C_below f4 (show Below u10.heap.size u10 u11 from hu11 ▸ below_alloc (Below.refl _ _) _)
  replace f5 := Kd.C_below f5 (show Below u10.heap.size u10 u11 from hu11 ▸ below_alloc (Below.refl _ _) _)
  replace f6 := Kd.C_below f6 (show Below u10.heap.size u10 u11 from hu11 ▸ below_alloc (Below.refl _ _) _)
  replace f7 := Kd.C_below f7 (show Below u10.heap.size u10 u11 from hu11 ▸ below_alloc (Below.refl _ _) _)
  replace f8 := Kd.C_below f8 (show Below u10.heap.size u10 u11 from hu11 ▸ below_alloc (Below.refl _ _) _)
  replace f9 := Kd.C_below f9 (show Below u10.heap.size u10 u11 from hu11 ▸ below_alloc (Below.refl _ _) _)
  obtain ⟨u12, hu12⟩ : ∃ u, u11.alloc (.cells #[.int .u8 1, .int .u8 255, .int .u8 255, .int .u8 255, .int .u8 255, .int .u8 31, .int .u8 2, .int .u8 0] 5) = u := ⟨_, rfl⟩
  have f11 := l_f11 u11
  have s12 : u12.heap.size = w.heap.size + 12 := by rw [← hu12, World.size_alloc, s11]
  rw [s11] at f11
  rw [hu12] at f11 ⊢
  replace f0 := Kd.C_below f0 (show Below u11.heap.size u11 u12 from hu12 ▸ below_alloc (Below.refl _ _) _)
  replace f1 := Kd.C_below f1 (show Below u11.heap.size u11 u12 from hu12 ▸ below_alloc (Below.refl _ _) _)
  replace f2 := Kd.C_below f2 (show Below u11.heap.size u11 u12 from hu12 ▸ below_alloc (Below.refl _ _) _)
  replace f3 := Kd.C_below f3 (show Below u11.heap.size u11 u12 from hu12 ▸ below_alloc (Below.refl _ _) _)
  replace f4 := Kd.C_below f4 (show Below u11.heap.size u11 u12 from hu12 ▸ below_alloc (Below.refl _ _) _)
  replace f5 := Kd.C_below f5 (show Below u11.heap.size u11 u12 from hu12 ▸ below_alloc (Below.refl _ _) _)
  replace f6 := Kd.C_below f6 (show Below u11.heap.size u11 u12 from hu12 ▸ below_alloc (Below.refl _ _) _)
  replace f7 := Kd.C_below f7 (show Below u11.heap.size u11 u12 from hu12 ▸ below_alloc (Below.refl _ _) _)
  replace f8 := Kd.C_below f8 (show Below u11.heap.size u11 u12 from hu12 ▸ below_alloc (Below.refl _ _) _)
  replace f9 := Kd.C_below f9 (show Below u11.heap.size u11 u12 from hu12 ▸ below_alloc (Below.refl _ _) _)
  replace f10 := Kd.C_below f10 (show Below u11.heap.size u11 u12 from hu12 ▸ below_alloc (Below.refl _ _) _)
  have hs : w.heap.size + 12 = u12.heap.size := s12.symm
  rw [hs]
  replace f0 := Kd.C_below f0 (below_alloc (Below.refl u12.heap.size u12) (.cells #[.slice (some ⟨w.heap.size, 0, none⟩) 0 0, .slice (some ⟨w.heap.size + 1, 0, none⟩) 1 1, .slice (some ⟨w.heap.size + 2, 0, none⟩) 2 2, .slice (some ⟨w.heap.size + 3, 0, none⟩) 4 4, .slice (some ⟨w.heap.size + 4, 0, none⟩) 5 5, .slice (some ⟨w.heap.size + 5, 0, none⟩) 2 2, .slice (some ⟨w.heap.size + 6, 0, none⟩) 2 2, .slice (some ⟨w.heap.size + 7, 0, none⟩) 2 2, .slice (some ⟨w.heap.size + 8, 0, none⟩) 4 4, .slice (some ⟨w.heap.size + 9, 0, none⟩) 3 3, .slice (some ⟨w.heap.size + 10, 0, none⟩) 2 2, .slice (some ⟨w.heap.size + 11, 0, none⟩) 8 8] 79))
  replace f1 := Kd.C_below f1 (below_alloc (Below.refl u12.heap.size u12) (.cells #[.slice (some ⟨w.heap.size, 0, none⟩) 0 0, .slice (some ⟨w.heap.size + 1, 0, none⟩) 1 1, .slice (some ⟨w.heap.size + 2, 0, none⟩) 2 2, .slice (some ⟨w.heap.size + 3, 0, none⟩) 4 4, .slice (some ⟨w.heap.size + 4, 0, none⟩) 5 5, .slice (some ⟨w.heap.size + 5, 0, none⟩) 2 2, .slice (some ⟨w.heap.size + 6, 0, none⟩) 2 2, .slice (some ⟨w.heap.size + 7, 0, none⟩) 2 2, .slice (some ⟨w.heap.size + 8, 0, none⟩) 4 4, .slice (some ⟨w.heap.size + 9, 0, none⟩) 3 3, .slice (some ⟨w.heap.size + 10, 0, none⟩) 2 2, .slice (some ⟨w.heap.size + 11, 0, none⟩) 8 8] 79))
  replace f2 := Kd.C_below f2 (below_alloc (Below.refl u12.heap.size u12) (.cells #[.slice (some ⟨w.heap.size, 0, none⟩) 0 0, .slice (some ⟨w.heap.size + 1, 0, none⟩) 1 1, .slice (some ⟨w.heap.size + 2, 0, none⟩) 2 2, .slice (some ⟨w.heap.size + 3, 0, none⟩) 4 4, .slice (some ⟨w.heap.size + 4, 0, none⟩) 5 5, .slice (some ⟨w.heap.size + 5, 0, none⟩) 2 2, .slice (some ⟨w.heap.size + 6, 0, none⟩) 2 2, .slice (some ⟨w.heap.size + 7, 0, none⟩) 2 2, .slice (some ⟨w.heap.size + 8, 0, none⟩) 4 4, .slice (some ⟨w.heap.size + 9, 0, none⟩) 3 3, .slice (some ⟨w.heap.size + 10, 0, none⟩) 2 2, .slice (some ⟨w.heap.size + 11, 0, none⟩) 8 8] 79))
  replace f3 := Kd.C_below f3 (below_alloc (Below.refl u12.heap.size u12) (.cells #[.slice (some ⟨w.heap.size, 0, none⟩) 0 0, .slice (some ⟨w.heap.size + 1, 0, none⟩) 1 1, .slice (some ⟨w.heap.size + 2, 0, none⟩) 2 2, .slice (some ⟨w.heap.size + 3, 0, none⟩) 4 4, .slice (some ⟨w.heap.size + 4, 0, none⟩) 5 5, .slice (some ⟨w.heap.size + 5, 0, none⟩) 2 2, .slice (some ⟨w.heap.size + 6, 0, none⟩) 2 2, .slice (some ⟨w.heap.size + 7, 0, none⟩) 2 2, .slice (some ⟨w.heap.size + 8, 0, none⟩) 4 4, .slice (some ⟨w.heap.size + 9, 0, none⟩) 3 3, .slice (some ⟨w.heap.size + 10, 0, none⟩) 2 2, .slice (some ⟨w.heap.size + 11, 0, none⟩) 8 8] 79))
  replace f4 := Kd.C_below f4 (below_alloc (Below.refl u12.heap.size u12) (.cells #[.slice (some ⟨w.heap.size, 0, none⟩) 0 0, .slice (some ⟨w.heap.size + 1, 0, none⟩) 1 1, .slice (some ⟨w.heap.size + 2, 0, none⟩) 2 2, .slice (some ⟨w.heap.size + 3, 0, none⟩) 4 4, .slice (some ⟨w.heap.size + 4, 0, none⟩) 5 5, .slice (some ⟨w.heap.size + 5, 0, none⟩) 2 2, .slice (some ⟨w.heap.size + 6, 0, none⟩) 2 2, .slice (some ⟨w.heap.size + 7, 0, none⟩) 2 2, .slice (some ⟨w.heap.size + 8, 0, none⟩) 4 4, .slice (some ⟨w.heap.size + 9, 0, none⟩) 3 3, .slice (some ⟨w.heap.size + 10, 0, none⟩) 2 2, .slice (some ⟨w.heap.size + 11, 0, none⟩) 8 8] 79))
  replace f5 := Kd.C_below f5 (below_alloc (Below.refl u12.heap.size u12) (.cells #[.slice (some ⟨w.heap.size, 0, none⟩) 0 0, .slice (some ⟨w.heap.size + 1, 0, none⟩) 1 1, .slice (some ⟨w.heap.size + 2, 0, none⟩) 2 2, .slice (some ⟨w.heap.size + 3, 0, none⟩) 4 4, .slice (some ⟨w.heap.size + 4, 0, none⟩) 5 5, .slice (some ⟨w.heap.size + 5, 0, none⟩) 2 2, .slice (some ⟨w.heap.size + 6, 0, none⟩) 2 2, .slice (some ⟨w.heap.size + 7, 0, none⟩) 2 2, .slice (some ⟨w.heap.size + 8, 0, none⟩) 4 4, .slice (some ⟨w.heap.size + 9, 0, none⟩) 3 3, .slice (some ⟨w.heap.size + 10, 0, none⟩) 2 2, .slice (some ⟨w.heap.size + 11, 0, none⟩) 8 8] 79))
  replace f6 := Kd.C_below f6 (below_alloc (Below.refl u12.heap.size u12) (.cells #[.slice (some ⟨w.heap.size, 0, none⟩) 0 0, .slice (some ⟨w.heap.size + 1, 0, none⟩) 1 1, .slice (some ⟨w.heap.size + 2, 0, none⟩) 2 2, .slice (some ⟨w.heap.size + 3, 0, none⟩) 4 4, .slice (some ⟨w.heap.size + 4, 0, none⟩) 5 5, .slice (some ⟨w.heap.size + 5, 0, none⟩) 2 2, .slice (some ⟨w.heap.size + 6, 0, none⟩) 2 2, .slice (some ⟨w.heap.size + 7, 0, none⟩) 2 2, .slice (some ⟨w.heap.size + 8, 0, none⟩) 4 4, .slice (some ⟨w.heap.size + 9, 0, none⟩) 3 3, .slice (some ⟨w.heap.size + 10, 0, none⟩) 2 2, .slice (some ⟨w.heap.size + 11, 0, none⟩) 8 8] 79))
  replace f7 := Kd.C_below f7 (below_alloc (Below.refl u12.heap.size u12) (.cells #[.slice (some ⟨w.heap.size, 0, none⟩) 0 0, .slice (some ⟨w.heap.size + 1, 0, none⟩) 1 1, .slice (some ⟨w.heap.size + 2, 0, none⟩) 2 2, .slice (some ⟨w.heap.size + 3, 0, none⟩) 4 4, .slice (some ⟨w.heap.size + 4, 0, none⟩) 5 5, .slice (some ⟨w.heap.size + 5, 0, none⟩) 2 2, .slice (some ⟨w.heap.size + 6, 0, none⟩) 2 2, .slice (some ⟨w.heap.size + 7, 0, none⟩) 2 2, .slice (some ⟨w.heap.size + 8, 0, none⟩) 4 4, .slice (some ⟨w.heap.size + 9, 0, none⟩) 3 3, .slice (some ⟨w.heap.size + 10, 0, none⟩) 2 2, .slice (some ⟨w.heap.size + 11, 0, none⟩) 8 8] 79))
  replace f8 := Kd.C_below f8 (below_alloc (Below.refl u12.heap.size u12) (.cells #[.slice (some ⟨w.heap.size, 0, none⟩) 0 0, .slice (some ⟨w.heap.size + 1, 0, none⟩) 1 1, .slice (some ⟨w.heap.size + 2, 0, none⟩) 2 2, .slice (some ⟨w.heap.size + 3, 0, none⟩) 4 4, .slice (some ⟨w.heap.size + 4, 0, none⟩) 5 5, .slice (some ⟨w.heap.size + 5, 0, none⟩) 2 2, .slice (some ⟨w.heap.size + 6, 0, none⟩) 2 2, .slice (some ⟨w.heap.size + 7, 0, none⟩) 2 2, .slice (some ⟨w.heap.size + 8, 0, none⟩) 4 4, .slice (some ⟨w.heap.size + 9, 0, none⟩) 3 3, .slice (some ⟨w.heap.size + 10, 0, none⟩) 2 2, .slice (some ⟨w.heap.size + 11, 0, none⟩) 8 8] 79))
  replace f9 := Kd.C_below f9 (below_alloc (Below.refl u12.heap.size u12) (.cells #[.slice (some ⟨w.heap.size, 0, none⟩) 0 0, .slice (some ⟨w.heap.size + 1, 0, none⟩) 1 1, .slice (some ⟨w.heap.size + 2, 0, none⟩) 2 2, .slice (some ⟨w.heap.size + 3, 0, none⟩) 4 4, .slice (some ⟨w.heap.size + 4, 0, none⟩) 5 5, .slice (some ⟨w.heap.size + 5, 0, none⟩) 2 2, .slice (some ⟨w.heap.size + 6, 0, none⟩) 2 2, .slice (some ⟨w.heap.size + 7, 0, none⟩) 2 2, .slice (some ⟨w.heap.size + 8, 0, none⟩) 4 4, .slice (some ⟨w.heap.size + 9, 0, none⟩) 3 3, .slice (some ⟨w.heap.size + 10, 0, none⟩) 2 2, .slice (some ⟨w.heap.size + 11, 0, none⟩) 8 8] 79))
  replace f10 := Kd.C_below f10 (below_alloc (Below.refl u12.heap.size u12) (.cells #[.slice (some ⟨w.heap.size, 0, none⟩) 0 0, .slice (some ⟨w.heap.size + 1, 0, none⟩) 1 1, .slice (some ⟨w.heap.size + 2, 0, none⟩) 2 2, .slice (some ⟨w.heap.size + 3, 0, none⟩) 4 4, .slice (some ⟨w.heap.size + 4, 0, none⟩) 5 5, .slice (some ⟨w.heap.size + 5, 0, none⟩) 2 2, .slice (some ⟨w.heap.size + 6, 0, none⟩) 2 2, .slice (some ⟨w.heap.size + 7, 0, none⟩) 2 2, .slice (some ⟨w.heap.size + 8, 0, none⟩) 4 4, .slice (some ⟨w.heap.size + 9, 0, none⟩) 3 3, .slice (some ⟨w.heap.size + 10, 0, none⟩) 2 2, .slice (some ⟨w.heap.size + 11, 0, none⟩) 8 8] 79))
  replace f11 := Kd.C_below f11 (below_alloc (Below.refl u12.heap.size u12) (.cells #[.slice (some ⟨w.heap.size, 0, none⟩) 0 0, .slice (some ⟨w.heap.size + 1, 0, none⟩) 1 1, .slice (some ⟨w.heap.size + 2, 0, none⟩) 2 2, .slice (some ⟨w.heap.size + 3, 0, none⟩) 4 4, .slice (some ⟨w.heap.size + 4, 0, none⟩) 5 5, .slice (some ⟨w.heap.size + 5, 0, none⟩) 2 2, .slice (some ⟨w.heap.size + 6, 0, none⟩) 2 2, .slice (some ⟨w.heap.size + 7, 0, none⟩) 2 2, .slice (some ⟨w.heap.size + 8, 0, none⟩) 4 4, .slice (some ⟨w.heap.size + 9, 0, none⟩) 3 3, .slice (some ⟨w.heap.size + 10, 0, none⟩) 2 2, .slice (some ⟨w.heap.size + 11, 0, none⟩) 8 8] 79))
  exact C_new (Kd.slice 5 (Kd.int .u8)) u12 79 nmF [.slice (some ⟨w.heap.size, 0, none⟩) 0 0, .slice (some ⟨w.heap.size + 1, 0, none⟩) 1 1, .slice (some ⟨w.heap.size + 2, 0, none⟩) 2 2, .slice (some ⟨w.heap.size + 3, 0, none⟩) 4 4, .slice (some ⟨w.heap.size + 4, 0, none⟩) 5 5, .slice (some ⟨w.heap.size + 5, 0, none⟩) 2 2, .slice (some ⟨w.heap.size + 6, 0, none⟩) 2 2, .slice (some ⟨w.heap.size + 7, 0, none⟩) 2 2, .slice (some ⟨w.heap.size + 8, 0, none⟩) 4 4, .slice (some ⟨w.heap.size + 9, 0, none⟩) 3 3, .slice (some ⟨w.heap.size + 10, 0, none⟩) 2 2, .slice (some ⟨w.heap.size + 11, 0, none⟩) 8 8] (Reps.one ⟨_, _, rfl, Nat.le_refl _, f0⟩ (Reps.one ⟨_, _, rfl, Nat.le_refl _, f1⟩ (Reps.one ⟨_, _, rfl, Nat.le_refl _, f2⟩ (Reps.one ⟨_, _, rfl, Nat.le_refl _, f3⟩ (Reps.one ⟨_, _, rfl, Nat.le_refl _, f4⟩ (Reps.one ⟨_, _, rfl, Nat.le_refl _, f5⟩ (Reps.one ⟨_, _, rfl, Nat.le_refl _, f6⟩ (Reps.one ⟨_, _, rfl, Nat.le_refl _, f7⟩ (Reps.one ⟨_, _, rfl, Nat.le_refl _, f8⟩ (Reps.one ⟨_, _, rfl, Nat.le_refl _, f9⟩ (Reps.one ⟨_, _, rfl, Nat.le_refl _, f10⟩ (Reps.one ⟨_, _, rfl, Nat.le_refl _, f11⟩ (Reps.none _ _))))))))))))) (by decide)
def nmG (k : Nat) : List Int := rdOf [] nmF (k : Int)
theorem nmP : ∀ k : Fin 12, rows_Unpack.f 64 (nmG k.val) = some ([], 12) := by decide +kernel
theorem c138 (k : Nat) (hk : k < 12) (w : World) (A : Option Addr) (n c : Nat) (hn : n = (nmG k).length) (hc : n ≤ c) (h : (Kd.int .u8).C w A n (nmG k)) : Calls Try.prog 64 #[.slice A n c] w fun e w' => ∃ B d, e = .returned (.tuple #[.slice B 0 d, .int .i64 12]) ∧ Below w.heap.size w w' := by
  subst hn
  exact (rows_Unpack.calls 64 A c (nmG k) [] 12 w h hc (nmP ⟨k, hk⟩)).mono fun e w' ⟨v, he, hr, hb⟩ => by obtain ⟨B, d, rfl, _, _⟩ := Kd.R_reads hr; exact ⟨B, d, he, hb⟩
theorem c153 (w : World) : Calls Try.prog 67 #[] w fun e w' => e = .returned (.bool true) ∧ Below w.heap.size w w' := retargetlaw42_alive.calls 64 true w (by decide +kernel)
theorem c161 (w : World) (A : Option Addr) (c : Nat) (hc : 1 ≤ c) (h : (Kd.int .u8).C w A 1 ([0] : List Int)) : Calls Try.prog 66 #[.slice A 1 c, .slice (some ⟨w.heap.size, 0, none⟩) 1 1] (w.alloc (.cells #[.int .u8 0] 5)) fun e w' => e = .returned (.bool true) ∧ Below w.heap.size w w' := (retargetref42_SameBytes.calls 64 A c ([0] : List Int) (some ⟨w.heap.size, 0, none⟩) 1 ([0] : List Int) true _ (Kd.C_alloc h _) hc (l_0 w) (by decide) (by decide +kernel)).mono fun e w' ⟨he, hb⟩ => ⟨he, below_step (below_alloc (Below.refl _ _) _) hb.below⟩
theorem c182 (w : World) (A B : Option Addr) (c d : Nat) (hc : 11 ≤ c) (hd : 11 ≤ d) (h : (Kd.int .u8).C w A 11 ([1, 255, 255, 255, 255, 15, 128, 128, 128, 1, 0] : List Int)) (h2 : (Kd.int .u8).C w B 11 ([1, 255, 255, 255, 255, 15, 128, 128, 128, 1, 0] : List Int)) : Calls Try.prog 66 #[.slice A 11 c, .slice B 11 d] w fun e w' => e = .returned (.bool true) ∧ Below w.heap.size w w' := (retargetref42_SameBytes.calls 64 A c ([1, 255, 255, 255, 255, 15, 128, 128, 128, 1, 0] : List Int) B d ([1, 255, 255, 255, 255, 15, 128, 128, 128, 1, 0] : List Int) true w h hc h2 hd (by decide +kernel)).mono fun e w' ⟨he, hb⟩ => ⟨he, hb.below⟩
theorem c191 (w : World) (A B : Option Addr) (c d : Nat) (hc : 1 ≤ c) (hd : 1 ≤ d) (h : k72.C w A 1 ([⟨4294967295, 1048576⟩] : List S72)) (h2 : k72.C w B 1 ([⟨4294967295, 1048576⟩] : List S72)) : Calls Try.prog 53 #[.slice A 1 c, .slice B 1 d] w fun e w' => e = .returned (.bool true) ∧ Below w.heap.size w w' := (retargetref42_Same.calls 64 A c ([⟨4294967295, 1048576⟩] : List S72) B d ([⟨4294967295, 1048576⟩] : List S72) true w h hc h2 hd (by decide +kernel)).mono fun e w' ⟨he, hb⟩ => ⟨he, hb.below⟩
theorem c214 (w : World) (A : Option Addr) (c : Nat) (hc : 2 ≤ c) (h : k72.C w A 2 ([⟨1, 5⟩, ⟨3, 6⟩] : List S72)) : Calls Try.prog 53 #[.slice A 2 c, .slice (some ⟨w.heap.size, 0, none⟩) 2 2] (w.alloc (.cells #[.int .u64 1, .int .i64 5, .int .u64 3, .int .i64 6] 72)) fun e w' => e = .returned (.bool true) ∧ Below w.heap.size w w' := (retargetref42_Same.calls 64 A c ([⟨1, 5⟩, ⟨3, 6⟩] : List S72) (some ⟨w.heap.size, 0, none⟩) 2 ([⟨1, 5⟩, ⟨3, 6⟩] : List S72) true _ (Kd.C_alloc h _) hc (l_o w) (by decide) (by decide +kernel)).mono fun e w' ⟨he, hb⟩ => ⟨he, below_step (below_alloc (Below.refl _ _) _) hb.below⟩
theorem formsB (w : World) : Below w.heap.size w (((((((((((((w.alloc (.cells #[] 5)).alloc (.cells #[.int .u8 89] 5)).alloc (.cells #[.int .u8 0, .int .u8 0] 5)).alloc (.cells #[.int .u8 1, .int .u8 4, .int .u8 2, .int .u8 0] 5)).alloc (.cells #[.int .u8 1, .int .u8 128, .int .u8 0, .int .u8 2, .int .u8 0] 5)).alloc (.cells #[.int .u8 2, .int .u8 0] 5)).alloc (.cells #[.int .u8 31, .int .u8 0] 5)).alloc (.cells #[.int .u8 1, .int .u8 0] 5)).alloc (.cells #[.int .u8 1, .int .u8 0, .int .u8 0, .int .u8 0] 5)).alloc (.cells #[.int .u8 89, .int .u8 88, .int .u8 0] 5)).alloc (.cells #[.int .u8 32, .int .u8 0] 5)).alloc (.cells #[.int .u8 1, .int .u8 255, .int .u8 255, .int .u8 255, .int .u8 255, .int .u8 31, .int .u8 2, .int .u8 0] 5)).alloc (.cells #[.slice (some ⟨w.heap.size, 0, none⟩) 0 0, .slice (some ⟨w.heap.size + 1, 0, none⟩) 1 1, .slice (some ⟨w.heap.size + 2, 0, none⟩) 2 2, .slice (some ⟨w.heap.size + 3, 0, none⟩) 4 4, .slice (some ⟨w.heap.size + 4, 0, none⟩) 5 5, .slice (some ⟨w.heap.size + 5, 0, none⟩) 2 2, .slice (some ⟨w.heap.size + 6, 0, none⟩) 2 2, .slice (some ⟨w.heap.size + 7, 0, none⟩) 2 2, .slice (some ⟨w.heap.size + 8, 0, none⟩) 4 4, .slice (some ⟨w.heap.size + 9, 0, none⟩) 3 3, .slice (some ⟨w.heap.size + 10, 0, none⟩) 2 2, .slice (some ⟨w.heap.size + 11, 0, none⟩) 8 8] 79)) := by
  repeat (first | exact Below.refl _ _ | apply below_alloc)
set_option maxHeartbeats 8000000 in
set_option maxRecDepth 100000 in
theorem rowsNames_any (w : World) : Calls Try.prog 19 #[] w fun e w' => e = .returned (.bool true) ∧ Below w.heap.size w w' := by
  have hu72 := Try.underlying72
  have HB := Aside0.mk (Below.refl w.heap.size w)
  go_enter Try.func19, Try.ntmps19
  go_wp2_with (go_at_call 62; (with_reducible refine (c30 _).mono ?_); rintro e w30 ⟨A1, c1, rfl, h1, hc1, hb⟩; have HBn := Aside0.mk (below_step HB.out hb); clear hb HB; have HB := HBn; clear HBn; have L1 := Aside0.mk hc1; have G1 := Aside0.mk h1; clear hc1 h1; refine Hid.out ?_)
  refine Go.Lib.hid ?_
  go_wp2_with (go_at_call 21; (with_reducible refine (c34 _).mono ?_); rintro e w34 ⟨rfl, hb⟩; have HBn := Aside0.mk (below_step HB.out hb); have L1n := Aside0.mk (Kd.C_below L1.out hb); clear hb HB L1; have HB := HBn; have L1 := L1n; clear HBn L1n; refine Hid.out ?_)
  refine Go.Lib.hid ?_
  go_wp2_with (go_at_call 21; (with_reducible refine (c40 _).mono ?_); rintro e w40 ⟨rfl, hb⟩; have HBn := Aside0.mk (below_step HB.out hb); have L1n := Aside0.mk (Kd.C_below L1.out hb); clear hb HB L1; have HB := HBn; have L1 := L1n; clear HBn L1n; refine Hid.out ?_)
  refine Go.Lib.hid ?_
  go_wp2_with (go_at_call 21; (with_reducible refine (c44 _).mono ?_); rintro e w44 ⟨rfl, hb⟩; have HBn := Aside0.mk (below_step HB.out hb); have L1n := Aside0.mk (Kd.C_below L1.out hb); clear hb HB L1; have HB := HBn; have L1 := L1n; clear HBn L1n; refine Hid.out ?_)
  refine Go.Lib.hid ?_
  go_wp2_with (go_at_call 62; (with_reducible refine (c51 _ _ (l_last w44)).mono ?_); rintro e w51 ⟨A10, c10, rfl, h10, hc10, hb⟩; have HBn := Aside0.mk (below_step (below_alloc HB.out _) hb); have L1n := Aside0.mk (Kd.C_below (Kd.C_alloc L1.out _) hb); have LLn := Aside0.mk (Kd.C_below (l_last w44) hb); clear hb HB L1; have HB := HBn; have L1 := L1n; clear HBn L1n; have L10 := Aside0.mk hc10; have G10 := Aside0.mk h10; clear hc10 h10; have LL := LLn; clear LLn; refine Hid.out ?_)
  refine Go.Lib.hid ?_
  go_wp2_with (go_at_call 64; (with_reducible refine (c56 _).mono ?_); rintro e w56 ⟨A12, c12, rfl, h12, hc12, hb⟩; have HBn := Aside0.mk (below_step HB.out hb); have L1n := Aside0.mk (Kd.C_below L1.out hb); have L10n := Aside0.mk (Kd.C_below L10.out hb); have LLn := Aside0.mk (Kd.C_below LL.out hb); clear hb HB L1 L10 LL; have HB := HBn; have L1 := L1n; have L10 := L10n; have LL := LLn; clear HBn L1n L10n LLn; have L12 := Aside0.mk hc12; have G12 := Aside0.mk h12; clear hc12 h12; refine Hid.out ?_)
  refine Go.Lib.hid ?_
  go_wp2_with (go_at_call 49; (with_reducible refine (c61 _ _ LL.out).mono ?_); rintro e w61 ⟨v14, rfl, hb⟩; have HBn := Aside0.mk (below_step HB.out hb); have L1n := Aside0.mk (Kd.C_below L1.out hb); have L10n := Aside0.mk (Kd.C_below L10.out hb); have LLn := Aside0.mk (Kd.C_below LL.out hb); have L12n := Aside0.mk (Kd.C_below L12.out hb); clear hb HB L1 L10 LL L12; have HB := HBn; have L1 := L1n; have L10 := L10n; have LL := LLn; have L12 := L12n; clear HBn L1n L10n LLn L12n; refine Hid.out ?_)
  refine Go.Lib.hid ?_
  go_wp2_with (go_at_call 49; (with_reducible refine (c65 _).mono ?_); rintro e w65 ⟨v16, rfl, hb⟩; have HBn := Aside0.mk (below_step HB.out hb); have L1n := Aside0.mk (Kd.C_below L1.out hb); have L10n := Aside0.mk (Kd.C_below L10.out hb); have LLn := Aside0.mk (Kd.C_below LL.out hb); have L12n := Aside0.mk (Kd.C_below L12.out hb); clear hb HB L1 L10 LL L12; have HB := HBn; have L1 := L1n; have L10 := L10n; have LL := LLn; have L12 := L12n; clear HBn L1n L10n LLn L12n; refine Hid.out ?_)
  refine Go.Lib.hid ?_
  go_wp2_with (go_at_call 51; (with_reducible refine (c71 _ _ LL.out).mono ?_); rintro e w71 ⟨v18, rfl, hb⟩; have HBn := Aside0.mk (below_step HB.out hb); have L1n := Aside0.mk (Kd.C_below L1.out hb); have L10n := Aside0.mk (Kd.C_below L10.out hb); have LLn := Aside0.mk (Kd.C_below LL.out hb); have L12n := Aside0.mk (Kd.C_below L12.out hb); clear hb HB L1 L10 LL L12; have HB := HBn; have L1 := L1n; have L10 := L10n; have LL := LLn; have L12 := L12n; clear HBn L1n L10n LLn L12n; refine Hid.out ?_)
  refine Go.Lib.hid ?_
  go_wp2_with (go_at_call 51; (with_reducible refine (c80 _).mono ?_); rintro e w80 ⟨A20, c20, rfl, h20, hc20, hb⟩; have HBn := Aside0.mk (below_step HB.out hb); have L1n := Aside0.mk (Kd.C_below L1.out hb); have L10n := Aside0.mk (Kd.C_below L10.out hb); have LLn := Aside0.mk (Kd.C_below LL.out hb); have L12n := Aside0.mk (Kd.C_below L12.out hb); clear hb HB L1 L10 LL L12; have HB := HBn; have L1 := L1n; have L10 := L10n; have LL := LLn; have L12 := L12n; clear HBn L1n L10n LLn L12n; have L20 := Aside0.mk hc20; have G20 := Aside0.mk h20; clear hc20 h20; refine Hid.out ?_)
  refine Go.Lib.hid ?_
  go_wp2_with (go_at_call 23; (with_reducible refine (c85 _).mono ?_); rintro e w85 ⟨rfl, hb⟩; have HBn := Aside0.mk (below_step HB.out hb); have L1n := Aside0.mk (Kd.C_below L1.out hb); have L10n := Aside0.mk (Kd.C_below L10.out hb); have LLn := Aside0.mk (Kd.C_below LL.out hb); have L12n := Aside0.mk (Kd.C_below L12.out hb); have L20n := Aside0.mk (Kd.C_below L20.out hb); clear hb HB L1 L10 LL L12 L20; have HB := HBn; have L1 := L1n; have L10 := L10n; have LL := LLn; have L12 := L12n; have L20 := L20n; clear HBn L1n L10n LLn L12n L20n; refine Hid.out ?_)
  refine Go.Lib.hid ?_
  go_wp2_with (go_at_call 23; (with_reducible refine (c90 _).mono ?_); rintro e w90 ⟨rfl, hb⟩; have HBn := Aside0.mk (below_step HB.out hb); have L1n := Aside0.mk (Kd.C_below L1.out hb); have L10n := Aside0.mk (Kd.C_below L10.out hb); have LLn := Aside0.mk (Kd.C_below LL.out hb); have L12n := Aside0.mk (Kd.C_below L12.out hb); have L20n := Aside0.mk (Kd.C_below L20.out hb); clear hb HB L1 L10 LL L12 L20; have HB := HBn; have L1 := L1n; have L10 := L10n; have LL := LLn; have L12 := L12n; have L20 := L20n; clear HBn L1n L10n LLn L12n L20n; refine Hid.out ?_)
  refine Go.Lib.hid ?_
  go_wp2_with (go_at_call 23; (with_reducible refine (c96 _).mono ?_); rintro e w96 ⟨rfl, hb⟩; have HBn := Aside0.mk (below_step HB.out hb); have L1n := Aside0.mk (Kd.C_below L1.out hb); have L10n := Aside0.mk (Kd.C_below L10.out hb); have LLn := Aside0.mk (Kd.C_below LL.out hb); have L12n := Aside0.mk (Kd.C_below L12.out hb); have L20n := Aside0.mk (Kd.C_below L20.out hb); clear hb HB L1 L10 LL L12 L20; have HB := HBn; have L1 := L1n; have L10 := L10n; have LL := LLn; have L12 := L12n; have L20 := L20n; clear HBn L1n L10n LLn L12n L20n; refine Hid.out ?_)
  refine Go.Lib.hid ?_
  go_wp2_with (go_at_call 23; (with_reducible refine (c103 _).mono ?_); rintro e w103 ⟨rfl, hb⟩; have HBn := Aside0.mk (below_step HB.out hb); have L1n := Aside0.mk (Kd.C_below L1.out hb); have L10n := Aside0.mk (Kd.C_below L10.out hb); have LLn := Aside0.mk (Kd.C_below LL.out hb); have L12n := Aside0.mk (Kd.C_below L12.out hb); have L20n := Aside0.mk (Kd.C_below L20.out hb); clear hb HB L1 L10 LL L12 L20; have HB := HBn; have L1 := L1n; have L10 := L10n; have LL := LLn; have L12 := L12n; have L20 := L20n; clear HBn L1n L10n LLn L12n L20n; refine Hid.out ?_)
  refine Go.Lib.hid ?_
  go_wp2_with (go_at_call 23; (with_reducible refine (c110 _).mono ?_); rintro e w110 ⟨rfl, hb⟩; have HBn := Aside0.mk (below_step HB.out hb); have L1n := Aside0.mk (Kd.C_below L1.out hb); have L10n := Aside0.mk (Kd.C_below L10.out hb); have LLn := Aside0.mk (Kd.C_below LL.out hb); have L12n := Aside0.mk (Kd.C_below L12.out hb); have L20n := Aside0.mk (Kd.C_below L20.out hb); clear hb HB L1 L10 LL L12 L20; have HB := HBn; have L1 := L1n; have L10 := L10n; have LL := LLn; have L12 := L12n; have L20 := L20n; clear HBn L1n L10n LLn L12n L20n; refine Hid.out ?_)
  refine Go.Lib.hid ?_
  go_wp2_with (first | ((with_reducible refine gate_dst (N := 114) rfl ?_); (try (refine gate_guard (by rfl) ?_; dsimp only)); refine Kd.R_make k72 _ 72 rfl (N := 114) rfl 22 _ _ rfl 1001 rfl rfl Try.underlying22 (.agg #[(.int .u64 0), (.int .i64 0)]) 16 info72 rfl (by decide) (by omega) z72 (ok := fun _ => True) (okp := fun _ => True) (k72_mkM _ _ _ z72 ) (fun _ hk => hk) trivial (by omega) (by omega) (Below.refl _ _) (Nat.le_refl _) ?_; intro v114 w114 ho hb hg_ hnew_; clear hg_ hnew_; obtain ⟨A114, c114, e114, h114, hc114⟩ := Kd.R_reads ho; subst e114; have L114 := Aside0.mk hc114; have G114 := Aside0.mk h114; clear ho hc114 h114; have HBn := Aside0.mk (below_step HB.out hb); have L1n := Aside0.mk (Kd.C_below L1.out hb); have L10n := Aside0.mk (Kd.C_below L10.out hb); have LLn := Aside0.mk (Kd.C_below LL.out hb); have L12n := Aside0.mk (Kd.C_below L12.out hb); have L20n := Aside0.mk (Kd.C_below L20.out hb); clear hb HB L1 L10 LL L12 L20; have HB := HBn; have L1 := L1n; have L10 := L10n; have LL := LLn; have L12 := L12n; have L20 := L20n; clear HBn L1n L10n LLn L12n L20n; refine Hid.out ?_))
  refine Go.Lib.hid ?_
  go_wp2_with (go_at_call 23; (with_reducible refine (c115 _ _ _ _ (by simp) L114.out G114.out).mono ?_); rintro e w115 ⟨rfl, hb⟩; have HBn := Aside0.mk (below_step HB.out hb); have L1n := Aside0.mk (Kd.C_below L1.out hb); have L10n := Aside0.mk (Kd.C_below L10.out hb); have LLn := Aside0.mk (Kd.C_below LL.out hb); have L12n := Aside0.mk (Kd.C_below L12.out hb); have L20n := Aside0.mk (Kd.C_below L20.out hb); clear hb HB L1 L10 LL L12 L20; have HB := HBn; have L1 := L1n; have L10 := L10n; have LL := LLn; have L12 := L12n; have L20 := L20n; clear HBn L1n L10n LLn L12n L20n; refine Hid.out ?_)
  refine Go.Lib.hid ?_
  go_wp2
  have FC := Aside0.mk (formsC w115)
  have hb := formsB w115
  have HBn := Aside0.mk (below_step HB.out hb)
  have L1n := Aside0.mk (Kd.C_below L1.out hb)
  have L10n := Aside0.mk (Kd.C_below L10.out hb)
  have LLn := Aside0.mk (Kd.C_below LL.out hb)
  have L12n := Aside0.mk (Kd.C_below L12.out hb)
  have L20n := Aside0.mk (Kd.C_below L20.out hb)
  clear hb HB L1 L10 LL L12 L20
  go_loopw [23, 132] (fun fo i wr => fo = .bool true ∧ ∃ k : Nat, k ≤ 12 ∧ i = .int .i64 k ∧ Aside0 (Below w.heap.size w wr) ∧ Aside0 ((Kd.slice 5 (Kd.int .u8)).C wr (some ⟨w115.heap.size + 12, 0, none⟩) 12 nmF) ∧ Aside0 ((Kd.int .u8).C wr A1 1 ([0] : List Int)) ∧ Aside0 ((Kd.int .u8).C wr A10 11 ([1, 255, 255, 255, 255, 15, 128, 128, 128, 1, 0] : List Int)) ∧ Aside0 (k72.C wr (some ⟨w44.heap.size, 0, none⟩) 1 ([⟨4294967295, 1048576⟩] : List S72)) ∧ Aside0 (k72.C wr A12 1 ([⟨4294967295, 1048576⟩] : List S72)) ∧ Aside0 (k72.C wr A20 2 ([⟨1, 5⟩, ⟨3, 6⟩] : List S72))) (fun _ i _ => 12 - (intOf i).toNat)
  case atStart => exact ⟨rfl, 0, by decide, rfl, HBn, FC, L1n, L10n, LLn, L12n, L20n⟩
  case round =>
    clear HBn FC L1n L10n LLn L12n L20n
    obtain ⟨rfl, k, hk, rfl, HB, FC, L1, L10, LL, L12, L20⟩ := hrel
    by_cases hlt : k < 12
    · obtain ⟨ad, cs, e, hcl, ⟨A, c, rfl, hle, hC⟩, hcell⟩ := ReadsRow.get_ FC.out [] (k : Int) (by omega) (by omega)
      cases e
      have hc0 := hcell 0 _ rfl
      have e0 : (⟨w115.heap.size + 12, 0, none⟩ : Addr).add ((k : Int).toNat * (Kd.slice 5 (Kd.int .u8)).sz + 0) = ⟨w115.heap.size + 12, k, none⟩ := by rw [rn_add]; simp [Kd.slice]
      rw [e0] at hc0
      obtain ⟨x, hx⟩ : ∃ x, (nmG k).length = x := ⟨_, rfl⟩
      have hc1 : wr.cell? ⟨w115.heap.size + 12, k, none⟩ = some (.slice A x c) := by rw [← hx]; exact hc0
      have X := Aside0.mk hx
      have H := Aside0.mk (show (Kd.int .u8).C wr A x (nmG k) by rw [← hx]; exact hC)
      have Y := Aside0.mk (show x ≤ c by rw [← hx]; exact hle)
      clear hc0 e0 hx hC hle hcell hcl
      go_wp2_with (go_at_call 64; (with_reducible refine (c138 k hlt _ A x c X.out.symm Y.out H.out).mono ?_); rintro e w138 ⟨B, d, rfl, hb⟩; have HBn := Aside0.mk (below_step HB.out hb); have FCn := Aside0.mk (Kd.C_below FC.out hb); have L1n := Aside0.mk (Kd.C_below L1.out hb); have L10n := Aside0.mk (Kd.C_below L10.out hb); have LLn := Aside0.mk (Kd.C_below LL.out hb); have L12n := Aside0.mk (Kd.C_below L12.out hb); have L20n := Aside0.mk (Kd.C_below L20.out hb); clear hb hc1)
      go_roundw
      case rel => exact ⟨rfl, k + 1, by omega, by go_num, HBn, FCn, L1n, L10n, LLn, L12n, L20n⟩
      case measure => simp [intOf]; omega
    · obtain rfl : k = 12 := by omega
      clear FC
      go_wp2_with (go_at_call 67; (with_reducible refine (c153 _).mono ?_); rintro e w153 ⟨rfl, hb⟩; have HBn := Aside0.mk (below_step (below_alloc HB.out _) hb); have L1n := Aside0.mk (Kd.C_below (Kd.C_alloc L1.out _) hb); have L10n := Aside0.mk (Kd.C_below (Kd.C_alloc L10.out _) hb); have LLn := Aside0.mk (Kd.C_below (Kd.C_alloc LL.out _) hb); have L12n := Aside0.mk (Kd.C_below (Kd.C_alloc L12.out _) hb); have L20n := Aside0.mk (Kd.C_below (Kd.C_alloc L20.out _) hb); have LGn := Aside0.mk (Kd.C_below (l_long wr) hb); clear hb HB L1 L10 LL L12 L20; have HB := HBn; have L1 := L1n; have L10 := L10n; have LL := LLn; have L12 := L12n; have L20 := L20n; clear HBn L1n L10n LLn L12n L20n; have LG := LGn; clear LGn; refine Hid.out ?_)
      refine Go.Lib.hid ?_
      go_wp2_with (go_at_call 66; (with_reducible refine (c161 _ A1 c1 G1.out L1.out).mono ?_); rintro e w161 ⟨rfl, hb⟩; have HBn := Aside0.mk (below_step HB.out hb); have L1n := Aside0.mk (Kd.C_below L1.out hb); have L10n := Aside0.mk (Kd.C_below L10.out hb); have LLn := Aside0.mk (Kd.C_below LL.out hb); have L12n := Aside0.mk (Kd.C_below L12.out hb); have L20n := Aside0.mk (Kd.C_below L20.out hb); have LGn := Aside0.mk (Kd.C_below LG.out hb); clear hb HB L1 L10 LL L12 L20 LG; have HB := HBn; have L1 := L1n; have L10 := L10n; have LL := LLn; have L12 := L12n; have L20 := L20n; have LG := LGn; clear HBn L1n L10n LLn L12n L20n LGn; refine Hid.out ?_)
      refine Go.Lib.hid ?_
      go_wp2_with (go_at_call 66; (with_reducible refine (c182 _ A10 _ c10 _ G10.out (Nat.le_refl _) L10.out LG.out).mono ?_); rintro e w182 ⟨rfl, hb⟩; have HBn := Aside0.mk (below_step HB.out hb); have L1n := Aside0.mk (Kd.C_below L1.out hb); have L10n := Aside0.mk (Kd.C_below L10.out hb); have LLn := Aside0.mk (Kd.C_below LL.out hb); have L12n := Aside0.mk (Kd.C_below L12.out hb); have L20n := Aside0.mk (Kd.C_below L20.out hb); have LGn := Aside0.mk (Kd.C_below LG.out hb); clear hb HB L1 L10 LL L12 L20 LG; have HB := HBn; have L1 := L1n; have L10 := L10n; have LL := LLn; have L12 := L12n; have L20 := L20n; have LG := LGn; clear HBn L1n L10n LLn L12n L20n LGn; refine Hid.out ?_)
      refine Go.Lib.hid ?_
      go_wp2_with (go_at_call 53; (with_reducible refine (c191 _ A12 _ c12 _ G12.out (Nat.le_refl _) L12.out LL.out).mono ?_); rintro e w191 ⟨rfl, hb⟩; have HBn := Aside0.mk (below_step HB.out hb); have L1n := Aside0.mk (Kd.C_below L1.out hb); have L10n := Aside0.mk (Kd.C_below L10.out hb); have LLn := Aside0.mk (Kd.C_below LL.out hb); have L12n := Aside0.mk (Kd.C_below L12.out hb); have L20n := Aside0.mk (Kd.C_below L20.out hb); have LGn := Aside0.mk (Kd.C_below LG.out hb); clear hb HB L1 L10 LL L12 L20 LG; have HB := HBn; have L1 := L1n; have L10 := L10n; have LL := LLn; have L12 := L12n; have L20 := L20n; have LG := LGn; clear HBn L1n L10n LLn L12n L20n LGn; refine Hid.out ?_)
      refine Go.Lib.hid ?_
      go_wp2_with (go_at_call 53; (with_reducible refine (c214 _ A20 c20 G20.out L20.out).mono ?_); rintro e w214 ⟨rfl, hb⟩; have HBn := Aside0.mk (below_step HB.out hb); have L1n := Aside0.mk (Kd.C_below L1.out hb); have L10n := Aside0.mk (Kd.C_below L10.out hb); have LLn := Aside0.mk (Kd.C_below LL.out hb); have L12n := Aside0.mk (Kd.C_below L12.out hb); have L20n := Aside0.mk (Kd.C_below L20.out hb); have LGn := Aside0.mk (Kd.C_below LG.out hb); clear hb HB L1 L10 LL L12 L20 LG; have HB := HBn; have L1 := L1n; have L10 := L10n; have LL := LLn; have L12 := L12n; have L20 := L20n; have LG := LGn; clear HBn L1n L10n LLn L12n L20n LGn; refine Hid.out ?_)
      refine Go.Lib.hid ?_
      go_wp2
      go_ret
      exact ⟨rfl, HB.out⟩
end Go.Proofs.Ytbckdelbkcfjkaa.Ro
