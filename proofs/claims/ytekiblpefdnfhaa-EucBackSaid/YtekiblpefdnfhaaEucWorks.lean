/- The function works of layer 17 returns true. -/
import Derived.Test.YtekiblpefdnfhaaEucMore
namespace Go.Proofs.Ytekiblpefdnfhaa
open Go.RowKit
set_option maxRecDepth 100000

theorem begins_new (w : World) (x y : Int) (hx : 0 ≤ x ∧ x ≤ 255) (hy : 0 ≤ y ∧ y ≤ 255) : Begins (w.alloc (.cells #[.int .u8 x, .int .u8 y] 5)) (some ⟨w.heap.size, 0, none⟩) 2 x y := fun _ => by
  refine ⟨w.heap.size, 0, rfl, by simp, ?_, hx.1, hx.2, fun _ => ⟨?_, hy.1, hy.2⟩⟩
  · rw [World.cell?_alloc_at _ _ _ _ rfl]; rfl
  · rw [World.cell?_alloc_at _ _ _ _ rfl]; rfl
theorem works_a : getRes jisRow true 2 164 162 = ⟨0, 2, 1, 12354⟩ := by
  have h1 : has (jisRow 4) 2 = true := by decide +kernel
  have h2 : scal (jisRow 4) 2 = 12354 := by decide +kernel
  unfold getRes
  rw [if_neg (by omega), if_neg (by omega), if_neg (by omega), if_neg (by omega), if_neg (by omega), if_neg (by omega)]
  show (if has (jisRow 4) 2 = true then _ else _) = _
  rw [if_pos h1]
  show GotR.mk 0 2 1 (scal (jisRow 4) 2) = _
  rw [h2]
theorem works_b : getRes gbRow false 2 254 254 = ⟨10, 2, 0, 0⟩ := by
  have h1 : ¬ has (gbRow 94) 94 = true := by decide +kernel
  unfold getRes
  rw [if_neg (by omega), if_neg (by omega), if_neg (by omega), if_neg (by omega), if_neg (by omega), if_neg (by omega)]
  show (if has (gbRow 94) 94 = true then _ else _) = _
  rw [if_neg h1]
theorem works_c : IsPlace kscRow 44032 16 1 true := isPlace_of_clear (a := 16) (b := 1) (by decide +kernel) (by omega) (by omega) (by decide +kernel) (by decide +kernel)
theorem works_get_a (w : World) : Calls Try.prog 44 #[.int .i64 81, .slice (some ⟨w.heap.size, 0, none⟩) 2 2] (w.alloc (.cells #[.int .u8 164, .int .u8 162] 5)) fun e w' =>
    e = .returned (.agg #[.int .i64 0, .int .i64 2, .int .i64 1, .int .i32 12354, .int .i32 0, .int .i64 0, .int .i64 0, .int .u32 0, .int .i32 0]) ∧ Below w.heap.size w w' := by
  refine (Get_all_81 _ 2 2 164 162 _ (begins_new w 164 162 (by omega) (by omega))).mono ?_
  rw [works_a]
  rintro e w1 ⟨rfl, hb⟩
  exact ⟨rfl, (Below.alloc (Below.refl w.heap.size w) (Nat.le_refl _) _).trans (hb.mono (by simp))⟩
theorem works_get_b (w : World) : Calls Try.prog 44 #[.int .i64 84, .slice (some ⟨w.heap.size, 0, none⟩) 2 2] (w.alloc (.cells #[.int .u8 254, .int .u8 254] 5)) fun e w' =>
    e = .returned (.agg #[.int .i64 10, .int .i64 2, .int .i64 0, .int .i32 0, .int .i32 0, .int .i64 0, .int .i64 0, .int .u32 0, .int .i32 0]) ∧ Below w.heap.size w w' := by
  refine (Get_all_84 _ 2 2 254 254 _ (begins_new w 254 254 (by omega) (by omega))).mono ?_
  rw [works_b]
  rintro e w1 ⟨rfl, hb⟩
  exact ⟨rfl, (Below.alloc (Below.refl w.heap.size w) (Nat.le_refl _) _).trans (hb.mono (by simp))⟩
theorem works_set (w : World) : Calls Try.prog 42 #[.int .i64 86, .int .i32 44032] w fun e w' =>
    e = .returned (.agg #[.int .i64 0, .string ⟨#[176, 161]⟩, .int .i64 0, .int .i64 0, .int .u32 0, .int .i32 0]) ∧ Below w.heap.size w w' := by
  refine (Set_at_86 44032 (by omega) w).mono ?_
  rintro e w1 ⟨a, b, ok, hp, rfl, hb⟩
  obtain ⟨rfl, rfl, rfl⟩ := hp.unique works_c
  exact ⟨rfl, hb⟩
theorem euc_works (w : World) : Calls Try.prog 48 #[] w fun e w' => e = .returned (.bool true) ∧ Below w.heap.size w w' := by
  go_enter Try.func48, Try.ntmps48
  go_wp2_with fail
  refine (works_get_a _).mono ?_
  rintro e w1 ⟨rfl, hb1⟩
  go_wp2_with fail
  refine (works_set _).mono ?_
  rintro e w2 ⟨rfl, hb2⟩
  go_wp2_with fail
  refine (works_get_b _).mono ?_
  rintro e w3 ⟨rfl, hb3⟩
  go_wp2_with fail
  go_ret
  exact ⟨rfl, below_then (below_then hb1 hb2 (Nat.le_refl _)) hb3 (Nat.le_refl _)⟩
end Go.Proofs.Ytekiblpefdnfhaa
