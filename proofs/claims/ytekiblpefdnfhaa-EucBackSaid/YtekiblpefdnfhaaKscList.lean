/- The walks of layer ksc: listOf, by its rows. -/
import Derived.Test.YtekiblpefdnfhaaProg
import Derived.Test.YtekiblpefdnfhaaTabs
import Derived.Test.YtekiblpefdnfhaaWords
namespace Go.Proofs.Ytekiblpefdnfhaa
open Go.RowKit
set_option maxRecDepth 100000
theorem ksc_row1 (w : World) : Calls Try.prog 85 #[] w fun e w' => e = .returned (.pointer (some ⟨w.heap.size, 0, none⟩)) ∧ w.alloc (.cells (cellsOf ksc1) 76) = w' := by
  go_enter Try.func85, Try.ntmps85
  go_wp2_with (refine wpList_build (.agg (cellsOf ksc1)) (by kernel_rfl) ?_)
  go_ret
  exact ⟨rfl, rfl⟩
theorem ksc_row2 (w : World) : Calls Try.prog 86 #[] w fun e w' => e = .returned (.pointer (some ⟨w.heap.size, 0, none⟩)) ∧ w.alloc (.cells (cellsOf ksc2) 76) = w' := by
  go_enter Try.func86, Try.ntmps86
  go_wp2_with (refine wpList_build (.agg (cellsOf ksc2)) (by kernel_rfl) ?_)
  go_ret
  exact ⟨rfl, rfl⟩
theorem ksc_row3 (w : World) : Calls Try.prog 87 #[] w fun e w' => e = .returned (.pointer (some ⟨w.heap.size, 0, none⟩)) ∧ w.alloc (.cells (cellsOf ksc3) 76) = w' := by
  go_enter Try.func87, Try.ntmps87
  go_wp2_with (refine wpList_build (.agg (cellsOf ksc3)) (by kernel_rfl) ?_)
  go_ret
  exact ⟨rfl, rfl⟩
theorem ksc_row4 (w : World) : Calls Try.prog 88 #[] w fun e w' => e = .returned (.pointer (some ⟨w.heap.size, 0, none⟩)) ∧ w.alloc (.cells (cellsOf ksc4) 76) = w' := by
  go_enter Try.func88, Try.ntmps88
  go_wp2_with (refine wpList_build (.agg (cellsOf ksc4)) (by kernel_rfl) ?_)
  go_ret
  exact ⟨rfl, rfl⟩
theorem ksc_row5 (w : World) : Calls Try.prog 89 #[] w fun e w' => e = .returned (.pointer (some ⟨w.heap.size, 0, none⟩)) ∧ w.alloc (.cells (cellsOf ksc5) 76) = w' := by
  go_enter Try.func89, Try.ntmps89
  go_wp2_with (refine wpList_build (.agg (cellsOf ksc5)) (by kernel_rfl) ?_)
  go_ret
  exact ⟨rfl, rfl⟩
theorem ksc_row6 (w : World) : Calls Try.prog 90 #[] w fun e w' => e = .returned (.pointer (some ⟨w.heap.size, 0, none⟩)) ∧ w.alloc (.cells (cellsOf ksc6) 76) = w' := by
  go_enter Try.func90, Try.ntmps90
  go_wp2_with (refine wpList_build (.agg (cellsOf ksc6)) (by kernel_rfl) ?_)
  go_ret
  exact ⟨rfl, rfl⟩
theorem ksc_row7 (w : World) : Calls Try.prog 91 #[] w fun e w' => e = .returned (.pointer (some ⟨w.heap.size, 0, none⟩)) ∧ w.alloc (.cells (cellsOf ksc7) 76) = w' := by
  go_enter Try.func91, Try.ntmps91
  go_wp2_with (refine wpList_build (.agg (cellsOf ksc7)) (by kernel_rfl) ?_)
  go_ret
  exact ⟨rfl, rfl⟩
theorem ksc_row8 (w : World) : Calls Try.prog 92 #[] w fun e w' => e = .returned (.pointer (some ⟨w.heap.size, 0, none⟩)) ∧ w.alloc (.cells (cellsOf ksc8) 76) = w' := by
  go_enter Try.func92, Try.ntmps92
  go_wp2_with (refine wpList_build (.agg (cellsOf ksc8)) (by kernel_rfl) ?_)
  go_ret
  exact ⟨rfl, rfl⟩
theorem ksc_row9 (w : World) : Calls Try.prog 93 #[] w fun e w' => e = .returned (.pointer (some ⟨w.heap.size, 0, none⟩)) ∧ w.alloc (.cells (cellsOf ksc9) 76) = w' := by
  go_enter Try.func93, Try.ntmps93
  go_wp2_with (refine wpList_build (.agg (cellsOf ksc9)) (by kernel_rfl) ?_)
  go_ret
  exact ⟨rfl, rfl⟩
theorem ksc_row10 (w : World) : Calls Try.prog 94 #[] w fun e w' => e = .returned (.pointer (some ⟨w.heap.size, 0, none⟩)) ∧ w.alloc (.cells (cellsOf ksc10) 76) = w' := by
  go_enter Try.func94, Try.ntmps94
  go_wp2_with (refine wpList_build (.agg (cellsOf ksc10)) (by kernel_rfl) ?_)
  go_ret
  exact ⟨rfl, rfl⟩
theorem ksc_row11 (w : World) : Calls Try.prog 95 #[] w fun e w' => e = .returned (.pointer (some ⟨w.heap.size, 0, none⟩)) ∧ w.alloc (.cells (cellsOf ksc11) 76) = w' := by
  go_enter Try.func95, Try.ntmps95
  go_wp2_with (refine wpList_build (.agg (cellsOf ksc11)) (by kernel_rfl) ?_)
  go_ret
  exact ⟨rfl, rfl⟩
theorem ksc_row12 (w : World) : Calls Try.prog 96 #[] w fun e w' => e = .returned (.pointer (some ⟨w.heap.size, 0, none⟩)) ∧ w.alloc (.cells (cellsOf ksc12) 76) = w' := by
  go_enter Try.func96, Try.ntmps96
  go_wp2_with (refine wpList_build (.agg (cellsOf ksc12)) (by kernel_rfl) ?_)
  go_ret
  exact ⟨rfl, rfl⟩
theorem ksc_row16 (w : World) : Calls Try.prog 97 #[] w fun e w' => e = .returned (.pointer (some ⟨w.heap.size, 0, none⟩)) ∧ w.alloc (.cells (cellsOf ksc16) 76) = w' := by
  go_enter Try.func97, Try.ntmps97
  go_wp2_with (refine wpList_build (.agg (cellsOf ksc16)) (by kernel_rfl) ?_)
  go_ret
  exact ⟨rfl, rfl⟩
theorem ksc_row42 (w : World) : Calls Try.prog 98 #[] w fun e w' => e = .returned (.pointer (some ⟨w.heap.size, 0, none⟩)) ∧ w.alloc (.cells (cellsOf ksc42) 76) = w' := by
  go_enter Try.func98, Try.ntmps98
  go_wp2_with (refine wpList_build (.agg (cellsOf ksc42)) (by kernel_rfl) ?_)
  go_ret
  exact ⟨rfl, rfl⟩
theorem ksc_listOf_1 (w : World) : Calls Try.prog 55 #[.int .i64 1] w fun e w' => e = .returned (.pointer (some ⟨w.heap.size, 0, none⟩)) ∧ w.alloc (.cells (cellsOf ksc1) 76) = w' := by
  go_enter Try.func55, Try.ntmps55
  go_wp2_with (go_at_call 85; refine (ksc_row1 _).mono ?_; rintro e w' ⟨rfl, rfl⟩)
  go_ret
  exact ⟨rfl, rfl⟩
theorem ksc_listOf_2 (w : World) : Calls Try.prog 55 #[.int .i64 2] w fun e w' => e = .returned (.pointer (some ⟨w.heap.size, 0, none⟩)) ∧ w.alloc (.cells (cellsOf ksc2) 76) = w' := by
  go_enter Try.func55, Try.ntmps55
  go_wp2_with (go_at_call 86; refine (ksc_row2 _).mono ?_; rintro e w' ⟨rfl, rfl⟩)
  go_ret
  exact ⟨rfl, rfl⟩
theorem ksc_listOf_3 (w : World) : Calls Try.prog 55 #[.int .i64 3] w fun e w' => e = .returned (.pointer (some ⟨w.heap.size, 0, none⟩)) ∧ w.alloc (.cells (cellsOf ksc3) 76) = w' := by
  go_enter Try.func55, Try.ntmps55
  go_wp2_with (go_at_call 87; refine (ksc_row3 _).mono ?_; rintro e w' ⟨rfl, rfl⟩)
  go_ret
  exact ⟨rfl, rfl⟩
theorem ksc_listOf_4 (w : World) : Calls Try.prog 55 #[.int .i64 4] w fun e w' => e = .returned (.pointer (some ⟨w.heap.size, 0, none⟩)) ∧ w.alloc (.cells (cellsOf ksc4) 76) = w' := by
  go_enter Try.func55, Try.ntmps55
  go_wp2_with (go_at_call 88; refine (ksc_row4 _).mono ?_; rintro e w' ⟨rfl, rfl⟩)
  go_ret
  exact ⟨rfl, rfl⟩
theorem ksc_listOf_5 (w : World) : Calls Try.prog 55 #[.int .i64 5] w fun e w' => e = .returned (.pointer (some ⟨w.heap.size, 0, none⟩)) ∧ w.alloc (.cells (cellsOf ksc5) 76) = w' := by
  go_enter Try.func55, Try.ntmps55
  go_wp2_with (go_at_call 89; refine (ksc_row5 _).mono ?_; rintro e w' ⟨rfl, rfl⟩)
  go_ret
  exact ⟨rfl, rfl⟩
theorem ksc_listOf_6 (w : World) : Calls Try.prog 55 #[.int .i64 6] w fun e w' => e = .returned (.pointer (some ⟨w.heap.size, 0, none⟩)) ∧ w.alloc (.cells (cellsOf ksc6) 76) = w' := by
  go_enter Try.func55, Try.ntmps55
  go_wp2_with (go_at_call 90; refine (ksc_row6 _).mono ?_; rintro e w' ⟨rfl, rfl⟩)
  go_ret
  exact ⟨rfl, rfl⟩
theorem ksc_listOf_7 (w : World) : Calls Try.prog 55 #[.int .i64 7] w fun e w' => e = .returned (.pointer (some ⟨w.heap.size, 0, none⟩)) ∧ w.alloc (.cells (cellsOf ksc7) 76) = w' := by
  go_enter Try.func55, Try.ntmps55
  go_wp2_with (go_at_call 91; refine (ksc_row7 _).mono ?_; rintro e w' ⟨rfl, rfl⟩)
  go_ret
  exact ⟨rfl, rfl⟩
theorem ksc_listOf_8 (w : World) : Calls Try.prog 55 #[.int .i64 8] w fun e w' => e = .returned (.pointer (some ⟨w.heap.size, 0, none⟩)) ∧ w.alloc (.cells (cellsOf ksc8) 76) = w' := by
  go_enter Try.func55, Try.ntmps55
  go_wp2_with (go_at_call 92; refine (ksc_row8 _).mono ?_; rintro e w' ⟨rfl, rfl⟩)
  go_ret
  exact ⟨rfl, rfl⟩
theorem ksc_listOf_9 (w : World) : Calls Try.prog 55 #[.int .i64 9] w fun e w' => e = .returned (.pointer (some ⟨w.heap.size, 0, none⟩)) ∧ w.alloc (.cells (cellsOf ksc9) 76) = w' := by
  go_enter Try.func55, Try.ntmps55
  go_wp2_with (go_at_call 93; refine (ksc_row9 _).mono ?_; rintro e w' ⟨rfl, rfl⟩)
  go_ret
  exact ⟨rfl, rfl⟩
theorem ksc_listOf_10 (w : World) : Calls Try.prog 55 #[.int .i64 10] w fun e w' => e = .returned (.pointer (some ⟨w.heap.size, 0, none⟩)) ∧ w.alloc (.cells (cellsOf ksc10) 76) = w' := by
  go_enter Try.func55, Try.ntmps55
  go_wp2_with (go_at_call 94; refine (ksc_row10 _).mono ?_; rintro e w' ⟨rfl, rfl⟩)
  go_ret
  exact ⟨rfl, rfl⟩
theorem ksc_listOf_11 (w : World) : Calls Try.prog 55 #[.int .i64 11] w fun e w' => e = .returned (.pointer (some ⟨w.heap.size, 0, none⟩)) ∧ w.alloc (.cells (cellsOf ksc11) 76) = w' := by
  go_enter Try.func55, Try.ntmps55
  go_wp2_with (go_at_call 95; refine (ksc_row11 _).mono ?_; rintro e w' ⟨rfl, rfl⟩)
  go_ret
  exact ⟨rfl, rfl⟩
theorem ksc_listOf_12 (w : World) : Calls Try.prog 55 #[.int .i64 12] w fun e w' => e = .returned (.pointer (some ⟨w.heap.size, 0, none⟩)) ∧ w.alloc (.cells (cellsOf ksc12) 76) = w' := by
  go_enter Try.func55, Try.ntmps55
  go_wp2_with (go_at_call 96; refine (ksc_row12 _).mono ?_; rintro e w' ⟨rfl, rfl⟩)
  go_ret
  exact ⟨rfl, rfl⟩
theorem ksc_listOf_16 (w : World) : Calls Try.prog 55 #[.int .i64 16] w fun e w' => e = .returned (.pointer (some ⟨w.heap.size, 0, none⟩)) ∧ w.alloc (.cells (cellsOf ksc16) 76) = w' := by
  go_enter Try.func55, Try.ntmps55
  go_wp2_with (go_at_call 97; refine (ksc_row16 _).mono ?_; rintro e w' ⟨rfl, rfl⟩)
  go_ret
  exact ⟨rfl, rfl⟩
theorem ksc_listOf_42 (w : World) : Calls Try.prog 55 #[.int .i64 42] w fun e w' => e = .returned (.pointer (some ⟨w.heap.size, 0, none⟩)) ∧ w.alloc (.cells (cellsOf ksc42) 76) = w' := by
  go_enter Try.func55, Try.ntmps55
  go_wp2_with (go_at_call 98; refine (ksc_row42 _).mono ?_; rintro e w' ⟨rfl, rfl⟩)
  go_ret
  exact ⟨rfl, rfl⟩
theorem ksc_listOf_nil (r : Int) (h : kscRow r = []) (w : World) : Calls Try.prog 55 #[.int .i64 r] w fun e w' => e = .returned (.pointer none) ∧ w = w' := by
  rcases kscRow_cases r with ⟨_, h0⟩ | ⟨_, h0⟩ | ⟨_, h0⟩ | ⟨_, h0⟩ | ⟨_, h0⟩ | ⟨_, h0⟩ | ⟨_, h0⟩ | ⟨_, h0⟩ | ⟨_, h0⟩ | ⟨_, h0⟩ | ⟨_, h0⟩ | ⟨_, h0⟩ | ⟨_, h0⟩ | ⟨_, h0⟩ | ⟨_, h1, h2, h3, h4, h5, h6, h7, h8, h9, h10, h11, h12, h16, h42⟩
  · rw [h0] at h; exact absurd h (by decide)
  · rw [h0] at h; exact absurd h (by decide)
  · rw [h0] at h; exact absurd h (by decide)
  · rw [h0] at h; exact absurd h (by decide)
  · rw [h0] at h; exact absurd h (by decide)
  · rw [h0] at h; exact absurd h (by decide)
  · rw [h0] at h; exact absurd h (by decide)
  · rw [h0] at h; exact absurd h (by decide)
  · rw [h0] at h; exact absurd h (by decide)
  · rw [h0] at h; exact absurd h (by decide)
  · rw [h0] at h; exact absurd h (by decide)
  · rw [h0] at h; exact absurd h (by decide)
  · rw [h0] at h; exact absurd h (by decide)
  · rw [h0] at h; exact absurd h (by decide)
  · clear h
    have g1 : (r == 1) = false := by simp [h1]
    have g2 : (r == 2) = false := by simp [h2]
    have g3 : (r == 3) = false := by simp [h3]
    have g4 : (r == 4) = false := by simp [h4]
    have g5 : (r == 5) = false := by simp [h5]
    have g6 : (r == 6) = false := by simp [h6]
    have g7 : (r == 7) = false := by simp [h7]
    have g8 : (r == 8) = false := by simp [h8]
    have g9 : (r == 9) = false := by simp [h9]
    have g10 : (r == 10) = false := by simp [h10]
    have g11 : (r == 11) = false := by simp [h11]
    have g12 : (r == 12) = false := by simp [h12]
    have g16 : (r == 16) = false := by simp [h16]
    have g42 : (r == 42) = false := by simp [h42]
    clear h1 h2 h3 h4 h5 h6 h7 h8 h9 h10 h11 h12 h16 h42
    go_enter Try.func55, Try.ntmps55
    go_wp2_with fail
    go_ret
    exact ⟨rfl, rfl⟩
theorem ksc_listOf_at (r : Int) (h : kscRow r ≠ []) (w : World) : Calls Try.prog 55 #[.int .i64 r] w fun e w' => e = .returned (.pointer (some ⟨w.heap.size, 0, none⟩)) ∧ w.alloc (.cells (cellsOf (kscRow r)) 76) = w' := by
  rcases kscRow_cases r with ⟨rfl, h0⟩ | ⟨rfl, h0⟩ | ⟨rfl, h0⟩ | ⟨rfl, h0⟩ | ⟨rfl, h0⟩ | ⟨rfl, h0⟩ | ⟨rfl, h0⟩ | ⟨rfl, h0⟩ | ⟨rfl, h0⟩ | ⟨rfl, h0⟩ | ⟨rfl, h0⟩ | ⟨rfl, h0⟩ | ⟨rfl, h0⟩ | ⟨rfl, h0⟩ | ⟨h0, _⟩
  · rw [h0]; exact ksc_listOf_1 w
  · rw [h0]; exact ksc_listOf_2 w
  · rw [h0]; exact ksc_listOf_3 w
  · rw [h0]; exact ksc_listOf_4 w
  · rw [h0]; exact ksc_listOf_5 w
  · rw [h0]; exact ksc_listOf_6 w
  · rw [h0]; exact ksc_listOf_7 w
  · rw [h0]; exact ksc_listOf_8 w
  · rw [h0]; exact ksc_listOf_9 w
  · rw [h0]; exact ksc_listOf_10 w
  · rw [h0]; exact ksc_listOf_11 w
  · rw [h0]; exact ksc_listOf_12 w
  · rw [h0]; exact ksc_listOf_16 w
  · rw [h0]; exact ksc_listOf_42 w
  · exact absurd h0 h
end Go.Proofs.Ytekiblpefdnfhaa
