/- The walks of layer jis: listOf, by its rows. -/
import Derived.Test.YtekiblpefdnfhaaProg
import Derived.Test.YtekiblpefdnfhaaTabs
import Derived.Test.YtekiblpefdnfhaaWords
namespace Go.Proofs.Ytekiblpefdnfhaa
open Go.RowKit
set_option maxRecDepth 100000
theorem jis_row1 (w : World) : Calls Try.prog 66 #[] w fun e w' => e = .returned (.pointer (some ⟨w.heap.size, 0, none⟩)) ∧ w.alloc (.cells (cellsOf jis1) 74) = w' := by
  go_enter Try.func66, Try.ntmps66
  go_wp2_with (refine wpList_build (.agg (cellsOf jis1)) (by kernel_rfl) ?_)
  go_ret
  exact ⟨rfl, rfl⟩
theorem jis_row2 (w : World) : Calls Try.prog 67 #[] w fun e w' => e = .returned (.pointer (some ⟨w.heap.size, 0, none⟩)) ∧ w.alloc (.cells (cellsOf jis2) 74) = w' := by
  go_enter Try.func67, Try.ntmps67
  go_wp2_with (refine wpList_build (.agg (cellsOf jis2)) (by kernel_rfl) ?_)
  go_ret
  exact ⟨rfl, rfl⟩
theorem jis_row3 (w : World) : Calls Try.prog 68 #[] w fun e w' => e = .returned (.pointer (some ⟨w.heap.size, 0, none⟩)) ∧ w.alloc (.cells (cellsOf jis3) 74) = w' := by
  go_enter Try.func68, Try.ntmps68
  go_wp2_with (refine wpList_build (.agg (cellsOf jis3)) (by kernel_rfl) ?_)
  go_ret
  exact ⟨rfl, rfl⟩
theorem jis_row4 (w : World) : Calls Try.prog 69 #[] w fun e w' => e = .returned (.pointer (some ⟨w.heap.size, 0, none⟩)) ∧ w.alloc (.cells (cellsOf jis4) 74) = w' := by
  go_enter Try.func69, Try.ntmps69
  go_wp2_with (refine wpList_build (.agg (cellsOf jis4)) (by kernel_rfl) ?_)
  go_ret
  exact ⟨rfl, rfl⟩
theorem jis_row5 (w : World) : Calls Try.prog 70 #[] w fun e w' => e = .returned (.pointer (some ⟨w.heap.size, 0, none⟩)) ∧ w.alloc (.cells (cellsOf jis5) 74) = w' := by
  go_enter Try.func70, Try.ntmps70
  go_wp2_with (refine wpList_build (.agg (cellsOf jis5)) (by kernel_rfl) ?_)
  go_ret
  exact ⟨rfl, rfl⟩
theorem jis_row6 (w : World) : Calls Try.prog 71 #[] w fun e w' => e = .returned (.pointer (some ⟨w.heap.size, 0, none⟩)) ∧ w.alloc (.cells (cellsOf jis6) 74) = w' := by
  go_enter Try.func71, Try.ntmps71
  go_wp2_with (refine wpList_build (.agg (cellsOf jis6)) (by kernel_rfl) ?_)
  go_ret
  exact ⟨rfl, rfl⟩
theorem jis_row7 (w : World) : Calls Try.prog 72 #[] w fun e w' => e = .returned (.pointer (some ⟨w.heap.size, 0, none⟩)) ∧ w.alloc (.cells (cellsOf jis7) 74) = w' := by
  go_enter Try.func72, Try.ntmps72
  go_wp2_with (refine wpList_build (.agg (cellsOf jis7)) (by kernel_rfl) ?_)
  go_ret
  exact ⟨rfl, rfl⟩
theorem jis_row8 (w : World) : Calls Try.prog 73 #[] w fun e w' => e = .returned (.pointer (some ⟨w.heap.size, 0, none⟩)) ∧ w.alloc (.cells (cellsOf jis8) 74) = w' := by
  go_enter Try.func73, Try.ntmps73
  go_wp2_with (refine wpList_build (.agg (cellsOf jis8)) (by kernel_rfl) ?_)
  go_ret
  exact ⟨rfl, rfl⟩
theorem jis_row16 (w : World) : Calls Try.prog 74 #[] w fun e w' => e = .returned (.pointer (some ⟨w.heap.size, 0, none⟩)) ∧ w.alloc (.cells (cellsOf jis16) 74) = w' := by
  go_enter Try.func74, Try.ntmps74
  go_wp2_with (refine wpList_build (.agg (cellsOf jis16)) (by kernel_rfl) ?_)
  go_ret
  exact ⟨rfl, rfl⟩
theorem jis_listOf_1 (w : World) : Calls Try.prog 49 #[.int .i64 1] w fun e w' => e = .returned (.pointer (some ⟨w.heap.size, 0, none⟩)) ∧ w.alloc (.cells (cellsOf jis1) 74) = w' := by
  go_enter Try.func49, Try.ntmps49
  go_wp2_with (go_at_call 66; refine (jis_row1 _).mono ?_; rintro e w' ⟨rfl, rfl⟩)
  go_ret
  exact ⟨rfl, rfl⟩
theorem jis_listOf_2 (w : World) : Calls Try.prog 49 #[.int .i64 2] w fun e w' => e = .returned (.pointer (some ⟨w.heap.size, 0, none⟩)) ∧ w.alloc (.cells (cellsOf jis2) 74) = w' := by
  go_enter Try.func49, Try.ntmps49
  go_wp2_with (go_at_call 67; refine (jis_row2 _).mono ?_; rintro e w' ⟨rfl, rfl⟩)
  go_ret
  exact ⟨rfl, rfl⟩
theorem jis_listOf_3 (w : World) : Calls Try.prog 49 #[.int .i64 3] w fun e w' => e = .returned (.pointer (some ⟨w.heap.size, 0, none⟩)) ∧ w.alloc (.cells (cellsOf jis3) 74) = w' := by
  go_enter Try.func49, Try.ntmps49
  go_wp2_with (go_at_call 68; refine (jis_row3 _).mono ?_; rintro e w' ⟨rfl, rfl⟩)
  go_ret
  exact ⟨rfl, rfl⟩
theorem jis_listOf_4 (w : World) : Calls Try.prog 49 #[.int .i64 4] w fun e w' => e = .returned (.pointer (some ⟨w.heap.size, 0, none⟩)) ∧ w.alloc (.cells (cellsOf jis4) 74) = w' := by
  go_enter Try.func49, Try.ntmps49
  go_wp2_with (go_at_call 69; refine (jis_row4 _).mono ?_; rintro e w' ⟨rfl, rfl⟩)
  go_ret
  exact ⟨rfl, rfl⟩
theorem jis_listOf_5 (w : World) : Calls Try.prog 49 #[.int .i64 5] w fun e w' => e = .returned (.pointer (some ⟨w.heap.size, 0, none⟩)) ∧ w.alloc (.cells (cellsOf jis5) 74) = w' := by
  go_enter Try.func49, Try.ntmps49
  go_wp2_with (go_at_call 70; refine (jis_row5 _).mono ?_; rintro e w' ⟨rfl, rfl⟩)
  go_ret
  exact ⟨rfl, rfl⟩
theorem jis_listOf_6 (w : World) : Calls Try.prog 49 #[.int .i64 6] w fun e w' => e = .returned (.pointer (some ⟨w.heap.size, 0, none⟩)) ∧ w.alloc (.cells (cellsOf jis6) 74) = w' := by
  go_enter Try.func49, Try.ntmps49
  go_wp2_with (go_at_call 71; refine (jis_row6 _).mono ?_; rintro e w' ⟨rfl, rfl⟩)
  go_ret
  exact ⟨rfl, rfl⟩
theorem jis_listOf_7 (w : World) : Calls Try.prog 49 #[.int .i64 7] w fun e w' => e = .returned (.pointer (some ⟨w.heap.size, 0, none⟩)) ∧ w.alloc (.cells (cellsOf jis7) 74) = w' := by
  go_enter Try.func49, Try.ntmps49
  go_wp2_with (go_at_call 72; refine (jis_row7 _).mono ?_; rintro e w' ⟨rfl, rfl⟩)
  go_ret
  exact ⟨rfl, rfl⟩
theorem jis_listOf_8 (w : World) : Calls Try.prog 49 #[.int .i64 8] w fun e w' => e = .returned (.pointer (some ⟨w.heap.size, 0, none⟩)) ∧ w.alloc (.cells (cellsOf jis8) 74) = w' := by
  go_enter Try.func49, Try.ntmps49
  go_wp2_with (go_at_call 73; refine (jis_row8 _).mono ?_; rintro e w' ⟨rfl, rfl⟩)
  go_ret
  exact ⟨rfl, rfl⟩
theorem jis_listOf_16 (w : World) : Calls Try.prog 49 #[.int .i64 16] w fun e w' => e = .returned (.pointer (some ⟨w.heap.size, 0, none⟩)) ∧ w.alloc (.cells (cellsOf jis16) 74) = w' := by
  go_enter Try.func49, Try.ntmps49
  go_wp2_with (go_at_call 74; refine (jis_row16 _).mono ?_; rintro e w' ⟨rfl, rfl⟩)
  go_ret
  exact ⟨rfl, rfl⟩
theorem jis_listOf_nil (r : Int) (h : jisRow r = []) (w : World) : Calls Try.prog 49 #[.int .i64 r] w fun e w' => e = .returned (.pointer none) ∧ w = w' := by
  rcases jisRow_cases r with ⟨_, h0⟩ | ⟨_, h0⟩ | ⟨_, h0⟩ | ⟨_, h0⟩ | ⟨_, h0⟩ | ⟨_, h0⟩ | ⟨_, h0⟩ | ⟨_, h0⟩ | ⟨_, h0⟩ | ⟨_, h1, h2, h3, h4, h5, h6, h7, h8, h16⟩
  · rw [h0] at h; exact absurd h (by decide)
  · rw [h0] at h; exact absurd h (by decide)
  · rw [h0] at h; exact absurd h (by decide)
  · rw [h0] at h; exact absurd h (by decide)
  · rw [h0] at h; exact absurd h (by decide)
  · rw [h0] at h; exact absurd h (by decide)
  · rw [h0] at h; exact absurd h (by decide)
  · rw [h0] at h; exact absurd h (by decide)
  · rw [h0] at h; exact absurd h (by decide)
  · clear h
    have g1 : (r == 1) = false := by simp [h1]
    have g2 : (r == 2) = false := by simp [h2]
    have g3 : (r == 3) = false := by simp [h3]
    have g4 : (r == 4) = false := by simp [h4]
    have g5 : (r == 5) = false := by simp [h5]
    have g6 : (r == 6) = false := by simp [h6]
    have g7 : (r == 7) = false := by simp [h7]
    have g8 : (r == 8) = false := by simp [h8]
    have g16 : (r == 16) = false := by simp [h16]
    clear h1 h2 h3 h4 h5 h6 h7 h8 h16
    go_enter Try.func49, Try.ntmps49
    go_wp2_with fail
    go_ret
    exact ⟨rfl, rfl⟩
theorem jis_listOf_at (r : Int) (h : jisRow r ≠ []) (w : World) : Calls Try.prog 49 #[.int .i64 r] w fun e w' => e = .returned (.pointer (some ⟨w.heap.size, 0, none⟩)) ∧ w.alloc (.cells (cellsOf (jisRow r)) 74) = w' := by
  rcases jisRow_cases r with ⟨rfl, h0⟩ | ⟨rfl, h0⟩ | ⟨rfl, h0⟩ | ⟨rfl, h0⟩ | ⟨rfl, h0⟩ | ⟨rfl, h0⟩ | ⟨rfl, h0⟩ | ⟨rfl, h0⟩ | ⟨rfl, h0⟩ | ⟨h0, _⟩
  · rw [h0]; exact jis_listOf_1 w
  · rw [h0]; exact jis_listOf_2 w
  · rw [h0]; exact jis_listOf_3 w
  · rw [h0]; exact jis_listOf_4 w
  · rw [h0]; exact jis_listOf_5 w
  · rw [h0]; exact jis_listOf_6 w
  · rw [h0]; exact jis_listOf_7 w
  · rw [h0]; exact jis_listOf_8 w
  · rw [h0]; exact jis_listOf_16 w
  · exact absurd h0 h
end Go.Proofs.Ytekiblpefdnfhaa
