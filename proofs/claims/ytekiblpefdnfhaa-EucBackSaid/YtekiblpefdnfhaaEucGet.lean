/- What layer 17's Get leans on: graphic, Half, the reference's Scalar. -/
import Derived.Test.YtekiblpefdnfhaaEucSet
import Derived.Deep.RegionHeld3
namespace Go.Proofs.Ytekiblpefdnfhaa
open Go.RowKit
set_option maxRecDepth 100000
set_option linter.unusedSimpArgs false
theorem past1 {w : World} {b o : Nat} {v : Value} (hb : b < w.heap.size) (h : w.cell? ⟨b, o, none⟩ = some v) : ∀ O1, (w.alloc O1).cell? ⟨b, o, none⟩ = some v := fun O1 => by
  rw [World.cell?_alloc_past _ _ _ hb]; exact h
theorem past3 {w : World} {b o : Nat} {v : Value} (hb : b < w.heap.size) (h : w.cell? ⟨b, o, none⟩ = some v) : ∀ O1 O2 O3, (((w.alloc O1).alloc O2).alloc O3).cell? ⟨b, o, none⟩ = some v := fun O1 O2 O3 => by
  rw [World.cell?_alloc_past _ _ _ (by simp; omega), World.cell?_alloc_past _ _ _ (by simp; omega), World.cell?_alloc_past _ _ _ hb]; exact h
theorem below_keep {W w2 : World} {p : Addr} {v : Value} (hb : Below W.heap.size W w2) (h : W.cell? p = some v) : w2.cell? p = some v := (hb.cell (World.block_lt_of_cell? W _ h)).trans h
theorem below_undrew {B : Nat} {W w2 : World} (hb : Below B W.drew w2) : Below B W w2 := ⟨hb.os, hb.tape, hb.output, hb.size, hb.block⟩
/-- the zero of api.Got -/
theorem got_zero {w2 : World} {b : Nat} (h : ∀ j, w2.cell? ⟨b, j, none⟩ = #[.int .i64 0, .int .i64 0, .int .i64 0, .int .i32 0, .int .i32 0, .int .i64 0, .int .i64 0, .int .u32 0, .int .i32 0][j]?) :
    w2.cell? ⟨b, 0, none⟩ = some (.int .i64 0) ∧ w2.cell? ⟨b, 1, none⟩ = some (.int .i64 0) ∧ w2.cell? ⟨b, 2, none⟩ = some (.int .i64 0) ∧ w2.cell? ⟨b, 3, none⟩ = some (.int .i32 0) ∧ w2.cell? ⟨b, 4, none⟩ = some (.int .i32 0) ∧
    w2.cell? ⟨b, 5, none⟩ = some (.int .i64 0) ∧ w2.cell? ⟨b, 6, none⟩ = some (.int .i64 0) ∧ w2.cell? ⟨b, 7, none⟩ = some (.int .u32 0) ∧ w2.cell? ⟨b, 8, none⟩ = some (.int .i32 0) :=
  ⟨h 0, h 1, h 2, h 3, h 4, h 5, h 6, h 7, h 8⟩
/-- a byte of the upper half that stands -/
def grB (c : Int) : Bool := decide (160 < c ∧ c < 255)
theorem graphic_yes (c : Int) (h0 : 160 < c) (h1 : c < 255) (w : World) : Calls Try.prog 62 #[.int .u8 c] w fun e w' => e = .returned (.bool true) ∧ w' = w := by
  go_enter Try.func62, Try.ntmps62
  go_wp2
  go_ret
  exact ⟨rfl, rfl⟩
theorem graphic_no (c : Int) (h : c ≤ 160 ∨ 255 ≤ c) (w : World) : Calls Try.prog 62 #[.int .u8 c] w fun e w' => e = .returned (.bool false) ∧ w' = w := by
  rcases h with h | h
  · go_enter Try.func62, Try.ntmps62
    go_wp2
    go_ret
    exact ⟨rfl, rfl⟩
  · have h' : 160 < c := by omega
    have h2 : decide (c < 255) = false := decide_eq_false (by omega)
    go_enter Try.func62, Try.ntmps62
    go_wp2
    go_ret
    exact ⟨rfl, rfl⟩
theorem Half_kana (c : Int) (h0 : 161 ≤ c) (h1 : c ≤ 223) (w : World) : Calls Try.prog 63 #[.int .u8 c] w fun e w' => e = .returned (.tuple #[.int .i32 (65377 + c - 161), .bool true]) ∧ w = w' := by
  go_enter Try.func63, Try.ntmps63
  go_wp2_with fail
  go_ret2
  exact ⟨rfl, rfl⟩
theorem Half_none (c : Int) (h0 : 223 < c) (w : World) : Calls Try.prog 63 #[.int .u8 c] w fun e w' => e = .returned (.tuple #[.int .i32 0, .bool false]) ∧ w = w' := by
  have h1 : 161 ≤ c := by omega
  go_enter Try.func63, Try.ntmps63
  go_wp2_with fail
  go_ret2
  exact ⟨rfl, rfl⟩
theorem refScalar_81 (r c : Int) (w : World) : Calls Try.prog 65 #[.int .i64 81, .int .i64 r, .int .i64 c] w fun e w' => e = .returned (.tuple #[.int .i32 (scal (jisRow r) c), .bool (has (jisRow r) c)]) ∧ ∃ n, w' = w.drewN n := by
  go_enter Try.func65, Try.ntmps65
  go_wp2_with (go_at_call 22; refine (refjis_Scalar _ _ _).mono ?_; rintro e w2 ⟨rfl, n, rfl⟩)
  go_ret2
  exact ⟨rfl, n, rfl⟩
theorem refScalar_84 (r c : Int) (w : World) : Calls Try.prog 65 #[.int .i64 84, .int .i64 r, .int .i64 c] w fun e w' => e = .returned (.tuple #[.int .i32 (scal (gbRow r) c), .bool (has (gbRow r) c)]) ∧ ∃ n, w' = w.drewN n := by
  go_enter Try.func65, Try.ntmps65
  go_wp2_with (go_at_call 29; refine (refgb_Scalar _ _ _).mono ?_; rintro e w2 ⟨rfl, n, rfl⟩)
  go_ret2
  exact ⟨rfl, n, rfl⟩
theorem refScalar_86 (r c : Int) (w : World) : Calls Try.prog 65 #[.int .i64 86, .int .i64 r, .int .i64 c] w fun e w' => e = .returned (.tuple #[.int .i32 (scal (kscRow r) c), .bool (has (kscRow r) c)]) ∧ ∃ n, w' = w.drewN n := by
  go_enter Try.func65, Try.ntmps65
  go_wp2_with (go_at_call 36; refine (refksc_Scalar _ _ _).mono ?_; rintro e w2 ⟨rfl, n, rfl⟩)
  go_ret2
  exact ⟨rfl, n, rfl⟩
theorem Get_none (k : Int) (v : Value) (h1 : (k == 81) = false) (h2 : (k == 84) = false) (h3 : (k == 86) = false) (w : World) : Calls Try.prog 44 #[.int .i64 k, v] w fun e w' => e = .returned (.agg #[.int .i64 5, .int .i64 0, .int .i64 0, .int .i32 0, .int .i32 0, .int .i64 0, .int .i64 0, .int .u32 0, .int .i32 0]) ∧ Below w.heap.size w w' := by
  go_enter Try.func44, Try.ntmps44
  go_wp2_with (go_at_call 58; refine (rowsOf_none k h1 h2 h3 _).mono ?_; rintro e w1 ⟨rfl, rfl⟩)
  refine bodyPost_ret (v := .agg #[.int .i64 5, .int .i64 0, .int .i64 0, .int .i32 0, .int .i32 0, .int .i64 0, .int .i64 0, .int .u32 0, .int .i32 0]) (by simp [results, Try.results44, go_sem]) rfl ⟨rfl, by go_grown⟩
theorem RGet_none (k : Int) (v : Value) (h : ¬ IsKind k) (w : World) : Calls Try.prog 45 #[.int .i64 k, v] w fun e w' => e = .returned (.agg #[.int .i64 5, .int .i64 0, .int .i64 0, .int .i32 0, .int .i32 0, .int .i64 0, .int .i64 0, .int .u32 0, .int .i32 0]) ∧ Below w.heap.size w w' := by
  have hd : decide (k = 81 ∨ k = 84 ∨ k = 86) = false := decide_eq_false h
  have HD := Lib.hid (refHas k)
  rw [hd] at HD
  clear h hd
  go_enter Try.func45, Try.ntmps45
  go_wp2_with (go_at_call 47; refine (HD.out _).mono ?_; rintro e w1 ⟨rfl, rfl⟩)
  refine bodyPost_ret (v := .agg #[.int .i64 5, .int .i64 0, .int .i64 0, .int .i32 0, .int .i32 0, .int .i64 0, .int .i64 0, .int .u32 0, .int .i32 0]) (by simp [results, Try.results45, go_sem]) rfl ⟨rfl, by go_grown⟩
end Go.Proofs.Ytekiblpefdnfhaa
