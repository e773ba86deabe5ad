/- The walks of layer gb: listOf, by its rows. -/
import Derived.Test.YtekiblpefdnfhaaProg
import Derived.Test.YtekiblpefdnfhaaTabs
import Derived.Test.YtekiblpefdnfhaaWords
namespace Go.Proofs.Ytekiblpefdnfhaa
open Go.RowKit
set_option maxRecDepth 100000
theorem gb_row1 (w : World) : Calls Try.prog 75 #[] w fun e w' => e = .returned (.pointer (some ⟨w.heap.size, 0, none⟩)) ∧ w.alloc (.cells (cellsOf gb1) 75) = w' := by
  go_enter Try.func75, Try.ntmps75
  go_wp2_with (refine wpList_build (.agg (cellsOf gb1)) (by kernel_rfl) ?_)
  go_ret
  exact ⟨rfl, rfl⟩
theorem gb_row2 (w : World) : Calls Try.prog 76 #[] w fun e w' => e = .returned (.pointer (some ⟨w.heap.size, 0, none⟩)) ∧ w.alloc (.cells (cellsOf gb2) 75) = w' := by
  go_enter Try.func76, Try.ntmps76
  go_wp2_with (refine wpList_build (.agg (cellsOf gb2)) (by kernel_rfl) ?_)
  go_ret
  exact ⟨rfl, rfl⟩
theorem gb_row3 (w : World) : Calls Try.prog 77 #[] w fun e w' => e = .returned (.pointer (some ⟨w.heap.size, 0, none⟩)) ∧ w.alloc (.cells (cellsOf gb3) 75) = w' := by
  go_enter Try.func77, Try.ntmps77
  go_wp2_with (refine wpList_build (.agg (cellsOf gb3)) (by kernel_rfl) ?_)
  go_ret
  exact ⟨rfl, rfl⟩
theorem gb_row4 (w : World) : Calls Try.prog 78 #[] w fun e w' => e = .returned (.pointer (some ⟨w.heap.size, 0, none⟩)) ∧ w.alloc (.cells (cellsOf gb4) 75) = w' := by
  go_enter Try.func78, Try.ntmps78
  go_wp2_with (refine wpList_build (.agg (cellsOf gb4)) (by kernel_rfl) ?_)
  go_ret
  exact ⟨rfl, rfl⟩
theorem gb_row5 (w : World) : Calls Try.prog 79 #[] w fun e w' => e = .returned (.pointer (some ⟨w.heap.size, 0, none⟩)) ∧ w.alloc (.cells (cellsOf gb5) 75) = w' := by
  go_enter Try.func79, Try.ntmps79
  go_wp2_with (refine wpList_build (.agg (cellsOf gb5)) (by kernel_rfl) ?_)
  go_ret
  exact ⟨rfl, rfl⟩
theorem gb_row6 (w : World) : Calls Try.prog 80 #[] w fun e w' => e = .returned (.pointer (some ⟨w.heap.size, 0, none⟩)) ∧ w.alloc (.cells (cellsOf gb6) 75) = w' := by
  go_enter Try.func80, Try.ntmps80
  go_wp2_with (refine wpList_build (.agg (cellsOf gb6)) (by kernel_rfl) ?_)
  go_ret
  exact ⟨rfl, rfl⟩
theorem gb_row7 (w : World) : Calls Try.prog 81 #[] w fun e w' => e = .returned (.pointer (some ⟨w.heap.size, 0, none⟩)) ∧ w.alloc (.cells (cellsOf gb7) 75) = w' := by
  go_enter Try.func81, Try.ntmps81
  go_wp2_with (refine wpList_build (.agg (cellsOf gb7)) (by kernel_rfl) ?_)
  go_ret
  exact ⟨rfl, rfl⟩
theorem gb_row8 (w : World) : Calls Try.prog 82 #[] w fun e w' => e = .returned (.pointer (some ⟨w.heap.size, 0, none⟩)) ∧ w.alloc (.cells (cellsOf gb8) 75) = w' := by
  go_enter Try.func82, Try.ntmps82
  go_wp2_with (refine wpList_build (.agg (cellsOf gb8)) (by kernel_rfl) ?_)
  go_ret
  exact ⟨rfl, rfl⟩
theorem gb_row9 (w : World) : Calls Try.prog 83 #[] w fun e w' => e = .returned (.pointer (some ⟨w.heap.size, 0, none⟩)) ∧ w.alloc (.cells (cellsOf gb9) 75) = w' := by
  go_enter Try.func83, Try.ntmps83
  go_wp2_with (refine wpList_build (.agg (cellsOf gb9)) (by kernel_rfl) ?_)
  go_ret
  exact ⟨rfl, rfl⟩
theorem gb_row16 (w : World) : Calls Try.prog 84 #[] w fun e w' => e = .returned (.pointer (some ⟨w.heap.size, 0, none⟩)) ∧ w.alloc (.cells (cellsOf gb16) 75) = w' := by
  go_enter Try.func84, Try.ntmps84
  go_wp2_with (refine wpList_build (.agg (cellsOf gb16)) (by kernel_rfl) ?_)
  go_ret
  exact ⟨rfl, rfl⟩
theorem gb_listOf_1 (w : World) : Calls Try.prog 52 #[.int .i64 1] w fun e w' => e = .returned (.pointer (some ⟨w.heap.size, 0, none⟩)) ∧ w.alloc (.cells (cellsOf gb1) 75) = w' := by
  go_enter Try.func52, Try.ntmps52
  go_wp2_with (go_at_call 75; refine (gb_row1 _).mono ?_; rintro e w' ⟨rfl, rfl⟩)
  go_ret
  exact ⟨rfl, rfl⟩
theorem gb_listOf_2 (w : World) : Calls Try.prog 52 #[.int .i64 2] w fun e w' => e = .returned (.pointer (some ⟨w.heap.size, 0, none⟩)) ∧ w.alloc (.cells (cellsOf gb2) 75) = w' := by
  go_enter Try.func52, Try.ntmps52
  go_wp2_with (go_at_call 76; refine (gb_row2 _).mono ?_; rintro e w' ⟨rfl, rfl⟩)
  go_ret
  exact ⟨rfl, rfl⟩
theorem gb_listOf_3 (w : World) : Calls Try.prog 52 #[.int .i64 3] w fun e w' => e = .returned (.pointer (some ⟨w.heap.size, 0, none⟩)) ∧ w.alloc (.cells (cellsOf gb3) 75) = w' := by
  go_enter Try.func52, Try.ntmps52
  go_wp2_with (go_at_call 77; refine (gb_row3 _).mono ?_; rintro e w' ⟨rfl, rfl⟩)
  go_ret
  exact ⟨rfl, rfl⟩
theorem gb_listOf_4 (w : World) : Calls Try.prog 52 #[.int .i64 4] w fun e w' => e = .returned (.pointer (some ⟨w.heap.size, 0, none⟩)) ∧ w.alloc (.cells (cellsOf gb4) 75) = w' := by
  go_enter Try.func52, Try.ntmps52
  go_wp2_with (go_at_call 78; refine (gb_row4 _).mono ?_; rintro e w' ⟨rfl, rfl⟩)
  go_ret
  exact ⟨rfl, rfl⟩
theorem gb_listOf_5 (w : World) : Calls Try.prog 52 #[.int .i64 5] w fun e w' => e = .returned (.pointer (some ⟨w.heap.size, 0, none⟩)) ∧ w.alloc (.cells (cellsOf gb5) 75) = w' := by
  go_enter Try.func52, Try.ntmps52
  go_wp2_with (go_at_call 79; refine (gb_row5 _).mono ?_; rintro e w' ⟨rfl, rfl⟩)
  go_ret
  exact ⟨rfl, rfl⟩
theorem gb_listOf_6 (w : World) : Calls Try.prog 52 #[.int .i64 6] w fun e w' => e = .returned (.pointer (some ⟨w.heap.size, 0, none⟩)) ∧ w.alloc (.cells (cellsOf gb6) 75) = w' := by
  go_enter Try.func52, Try.ntmps52
  go_wp2_with (go_at_call 80; refine (gb_row6 _).mono ?_; rintro e w' ⟨rfl, rfl⟩)
  go_ret
  exact ⟨rfl, rfl⟩
theorem gb_listOf_7 (w : World) : Calls Try.prog 52 #[.int .i64 7] w fun e w' => e = .returned (.pointer (some ⟨w.heap.size, 0, none⟩)) ∧ w.alloc (.cells (cellsOf gb7) 75) = w' := by
  go_enter Try.func52, Try.ntmps52
  go_wp2_with (go_at_call 81; refine (gb_row7 _).mono ?_; rintro e w' ⟨rfl, rfl⟩)
  go_ret
  exact ⟨rfl, rfl⟩
theorem gb_listOf_8 (w : World) : Calls Try.prog 52 #[.int .i64 8] w fun e w' => e = .returned (.pointer (some ⟨w.heap.size, 0, none⟩)) ∧ w.alloc (.cells (cellsOf gb8) 75) = w' := by
  go_enter Try.func52, Try.ntmps52
  go_wp2_with (go_at_call 82; refine (gb_row8 _).mono ?_; rintro e w' ⟨rfl, rfl⟩)
  go_ret
  exact ⟨rfl, rfl⟩
theorem gb_listOf_9 (w : World) : Calls Try.prog 52 #[.int .i64 9] w fun e w' => e = .returned (.pointer (some ⟨w.heap.size, 0, none⟩)) ∧ w.alloc (.cells (cellsOf gb9) 75) = w' := by
  go_enter Try.func52, Try.ntmps52
  go_wp2_with (go_at_call 83; refine (gb_row9 _).mono ?_; rintro e w' ⟨rfl, rfl⟩)
  go_ret
  exact ⟨rfl, rfl⟩
theorem gb_listOf_16 (w : World) : Calls Try.prog 52 #[.int .i64 16] w fun e w' => e = .returned (.pointer (some ⟨w.heap.size, 0, none⟩)) ∧ w.alloc (.cells (cellsOf gb16) 75) = w' := by
  go_enter Try.func52, Try.ntmps52
  go_wp2_with (go_at_call 84; refine (gb_row16 _).mono ?_; rintro e w' ⟨rfl, rfl⟩)
  go_ret
  exact ⟨rfl, rfl⟩
theorem gb_listOf_nil (r : Int) (h : gbRow r = []) (w : World) : Calls Try.prog 52 #[.int .i64 r] w fun e w' => e = .returned (.pointer none) ∧ w = w' := by
  rcases gbRow_cases r with ⟨_, h0⟩ | ⟨_, h0⟩ | ⟨_, h0⟩ | ⟨_, h0⟩ | ⟨_, h0⟩ | ⟨_, h0⟩ | ⟨_, h0⟩ | ⟨_, h0⟩ | ⟨_, h0⟩ | ⟨_, h0⟩ | ⟨_, h1, h2, h3, h4, h5, h6, h7, h8, h9, h16⟩
  · rw [h0] at h; exact absurd h (by decide)
  · rw [h0] at h; exact absurd h (by decide)
  · rw [h0] at h; exact absurd h (by decide)
  · rw [h0] at h; exact absurd h (by decide)
  · rw [h0] at h; exact absurd h (by decide)
  · rw [h0] at h; exact absurd h (by decide)
  · rw [h0] at h; exact absurd h (by decide)
  · rw [h0] at h; exact absurd h (by decide)
  · rw [h0] at h; exact absurd h (by decide)
  · rw [h0] at h; exact absurd h (by decide)
  · clear h
    have g1 : (r == 1) = false := by simp [h1]
    have g2 : (r == 2) = false := by simp [h2]
    have g3 : (r == 3) = false := by simp [h3]
    have g4 : (r == 4) = false := by simp [h4]
    have g5 : (r == 5) = false := by simp [h5]
    have g6 : (r == 6) = false := by simp [h6]
    have g7 : (r == 7) = false := by simp [h7]
    have g8 : (r == 8) = false := by simp [h8]
    have g9 : (r == 9) = false := by simp [h9]
    have g16 : (r == 16) = false := by simp [h16]
    clear h1 h2 h3 h4 h5 h6 h7 h8 h9 h16
    go_enter Try.func52, Try.ntmps52
    go_wp2_with fail
    go_ret
    exact ⟨rfl, rfl⟩
theorem gb_listOf_at (r : Int) (h : gbRow r ≠ []) (w : World) : Calls Try.prog 52 #[.int .i64 r] w fun e w' => e = .returned (.pointer (some ⟨w.heap.size, 0, none⟩)) ∧ w.alloc (.cells (cellsOf (gbRow r)) 75) = w' := by
  rcases gbRow_cases r with ⟨rfl, h0⟩ | ⟨rfl, h0⟩ | ⟨rfl, h0⟩ | ⟨rfl, h0⟩ | ⟨rfl, h0⟩ | ⟨rfl, h0⟩ | ⟨rfl, h0⟩ | ⟨rfl, h0⟩ | ⟨rfl, h0⟩ | ⟨rfl, h0⟩ | ⟨h0, _⟩
  · rw [h0]; exact gb_listOf_1 w
  · rw [h0]; exact gb_listOf_2 w
  · rw [h0]; exact gb_listOf_3 w
  · rw [h0]; exact gb_listOf_4 w
  · rw [h0]; exact gb_listOf_5 w
  · rw [h0]; exact gb_listOf_6 w
  · rw [h0]; exact gb_listOf_7 w
  · rw [h0]; exact gb_listOf_8 w
  · rw [h0]; exact gb_listOf_9 w
  · rw [h0]; exact gb_listOf_16 w
  · exact absurd h0 h
end Go.Proofs.Ytekiblpefdnfhaa
