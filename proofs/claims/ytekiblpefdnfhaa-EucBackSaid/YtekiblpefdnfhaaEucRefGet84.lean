/- The walks of the reference's Get for kind 84. -/
import Derived.Test.YtekiblpefdnfhaaEucGet
namespace Go.Proofs.Ytekiblpefdnfhaa
open Go.RowKit
set_option maxRecDepth 100000
set_option linter.unusedSimpArgs false
set_option maxHeartbeats 1000000 in
theorem RGet_empty_84 (A : Option Addr) (cap : Nat)  (w : World) : Calls Try.prog 45 #[.int .i64 84, .slice A 0 cap] w fun e w' => e = .returned (.agg #[.int .i64 1, .int .i64 0, .int .i64 0, .int .i32 0, .int .i32 0, .int .i64 0, .int .i64 0, .int .u32 0, .int .i32 0]) ∧ Below w.heap.size w w' := by
  go_enter Try.func45, Try.ntmps45
  go_wp2_with (first
    | (go_at_call 47; refine (refHas _ _).mono ?_; rintro e w1 ⟨rfl, rfl⟩)
    | (go_at_call 64; refine (refHalf _ (by omega) (by omega) _).mono ?_; rintro e w1 ⟨rfl, rfl⟩))
  refine bodyPost_ret (v := .agg #[.int .i64 1, .int .i64 0, .int .i64 0, .int .i32 0, .int .i32 0, .int .i64 0, .int .i64 0, .int .u32 0, .int .i32 0]) (by simp [results, Try.results45, go_sem]) rfl ⟨rfl, by go_grown⟩
set_option maxHeartbeats 1000000 in
theorem RGet_ascii_84 (b o n cap : Nat) (c0 : Int) (hn : ((n : Int) == 0) = false) (hn1 : 0 < n) (h0 : 0 ≤ c0) (h1 : c0 < 128) (w : World) (hb : b < w.heap.size) (hc0 : w.cell? ⟨b, o, none⟩ = some (.int .u8 c0)) : Calls Try.prog 45 #[.int .i64 84, .slice (some ⟨b, o, none⟩) n cap] w fun e w' => e = .returned (.agg #[.int .i64 0, .int .i64 1, .int .i64 1, .int .i32 c0, .int .i32 0, .int .i64 0, .int .i64 0, .int .u32 0, .int .i32 0]) ∧ Below w.heap.size w w' := by
  have p0 := past1 hb hc0
  have h142 : (c0 == 142) = false := by rw [beq_eq_false_iff_ne]; omega
  go_enter Try.func45, Try.ntmps45
  go_wp2_with (first
    | (go_at_call 47; refine (refHas _ _).mono ?_; rintro e w1 ⟨rfl, rfl⟩)
    | (go_at_call 64; refine (refHalf _ (by omega) (by omega) _).mono ?_; rintro e w1 ⟨rfl, rfl⟩))
  refine bodyPost_ret (v := .agg #[.int .i64 0, .int .i64 1, .int .i64 1, .int .i32 c0, .int .i32 0, .int .i64 0, .int .i64 0, .int .u32 0, .int .i32 0]) (by simp [results, Try.results45, go_sem]) rfl ⟨rfl, by go_grown⟩
set_option maxHeartbeats 1000000 in
theorem RGet_bad0lo_84 (b o n cap : Nat) (c0 : Int) (hn : ((n : Int) == 0) = false) (hn1 : 0 < n) (h128 : 128 ≤ c0) (h142 : (c0 == 142) = false) (hg : c0 ≤ 160) (w : World) (hb : b < w.heap.size) (hc0 : w.cell? ⟨b, o, none⟩ = some (.int .u8 c0)) : Calls Try.prog 45 #[.int .i64 84, .slice (some ⟨b, o, none⟩) n cap] w fun e w' => e = .returned (.agg #[.int .i64 10, .int .i64 1, .int .i64 0, .int .i32 0, .int .i32 0, .int .i64 0, .int .i64 0, .int .u32 0, .int .i32 0]) ∧ Below w.heap.size w w' := by
  have p0 := past1 hb hc0
  go_enter Try.func45, Try.ntmps45
  go_wp2_with (first
    | (go_at_call 47; refine (refHas _ _).mono ?_; rintro e w1 ⟨rfl, rfl⟩)
    | (go_at_call 64; refine (refHalf _ (by omega) (by omega) _).mono ?_; rintro e w1 ⟨rfl, rfl⟩))
  refine bodyPost_ret (v := .agg #[.int .i64 10, .int .i64 1, .int .i64 0, .int .i32 0, .int .i32 0, .int .i64 0, .int .i64 0, .int .u32 0, .int .i32 0]) (by simp [results, Try.results45, go_sem]) rfl ⟨rfl, by go_grown⟩
set_option maxHeartbeats 1000000 in
theorem RGet_bad0hi_84 (b o n cap : Nat) (c0 : Int) (hn : ((n : Int) == 0) = false) (hn1 : 0 < n) (h255 : 255 ≤ c0) (w : World) (hb : b < w.heap.size) (hc0 : w.cell? ⟨b, o, none⟩ = some (.int .u8 c0)) : Calls Try.prog 45 #[.int .i64 84, .slice (some ⟨b, o, none⟩) n cap] w fun e w' => e = .returned (.agg #[.int .i64 10, .int .i64 1, .int .i64 0, .int .i32 0, .int .i32 0, .int .i64 0, .int .i64 0, .int .u32 0, .int .i32 0]) ∧ Below w.heap.size w w' := by
  have p0 := past1 hb hc0
  have h142 : (c0 == 142) = false := by rw [beq_eq_false_iff_ne]; omega
  go_enter Try.func45, Try.ntmps45
  go_wp2_with (first
    | (go_at_call 47; refine (refHas _ _).mono ?_; rintro e w1 ⟨rfl, rfl⟩)
    | (go_at_call 64; refine (refHalf _ (by omega) (by omega) _).mono ?_; rintro e w1 ⟨rfl, rfl⟩))
  refine bodyPost_ret (v := .agg #[.int .i64 10, .int .i64 1, .int .i64 0, .int .i32 0, .int .i32 0, .int .i64 0, .int .i64 0, .int .u32 0, .int .i32 0]) (by simp [results, Try.results45, go_sem]) rfl ⟨rfl, by go_grown⟩
set_option maxHeartbeats 1000000 in
theorem RGet_bad142_84 (b o n cap : Nat) (hn : ((n : Int) == 0) = false) (hn1 : 0 < n) (w : World) (hb : b < w.heap.size) (hc0 : w.cell? ⟨b, o, none⟩ = some (.int .u8 142)) : Calls Try.prog 45 #[.int .i64 84, .slice (some ⟨b, o, none⟩) n cap] w fun e w' => e = .returned (.agg #[.int .i64 10, .int .i64 1, .int .i64 0, .int .i32 0, .int .i32 0, .int .i64 0, .int .i64 0, .int .u32 0, .int .i32 0]) ∧ Below w.heap.size w w' := by
  have p0 := past1 hb hc0
  go_enter Try.func45, Try.ntmps45
  go_wp2_with (first
    | (go_at_call 47; refine (refHas _ _).mono ?_; rintro e w1 ⟨rfl, rfl⟩)
    | (go_at_call 64; refine (refHalf _ (by omega) (by omega) _).mono ?_; rintro e w1 ⟨rfl, rfl⟩))
  refine bodyPost_ret (v := .agg #[.int .i64 10, .int .i64 1, .int .i64 0, .int .i32 0, .int .i32 0, .int .i64 0, .int .i64 0, .int .u32 0, .int .i32 0]) (by simp [results, Try.results45, go_sem]) rfl ⟨rfl, by go_grown⟩
set_option maxHeartbeats 1000000 in
theorem RGet_short_84 (b o cap : Nat) (c0 : Int) (g0 : 160 < c0) (g1 : c0 < 255) (w : World) (hb : b < w.heap.size) (hc0 : w.cell? ⟨b, o, none⟩ = some (.int .u8 c0)) : Calls Try.prog 45 #[.int .i64 84, .slice (some ⟨b, o, none⟩) 1 cap] w fun e w' => e = .returned (.agg #[.int .i64 1, .int .i64 0, .int .i64 0, .int .i32 0, .int .i32 0, .int .i64 0, .int .i64 0, .int .u32 0, .int .i32 0]) ∧ Below w.heap.size w w' := by
  have p0 := past1 hb hc0
  have h142 : (c0 == 142) = false := by rw [beq_eq_false_iff_ne]; omega
  go_enter Try.func45, Try.ntmps45
  go_wp2_with (first
    | (go_at_call 47; refine (refHas _ _).mono ?_; rintro e w1 ⟨rfl, rfl⟩)
    | (go_at_call 64; refine (refHalf _ (by omega) (by omega) _).mono ?_; rintro e w1 ⟨rfl, rfl⟩))
  refine bodyPost_ret (v := .agg #[.int .i64 1, .int .i64 0, .int .i64 0, .int .i32 0, .int .i32 0, .int .i64 0, .int .i64 0, .int .u32 0, .int .i32 0]) (by simp [results, Try.results45, go_sem]) rfl ⟨rfl, by go_grown⟩
set_option maxHeartbeats 1000000 in
theorem RGet_bad1lo_84 (b o n cap : Nat) (c0 c1 : Int) (hn : ((n : Int) == 0) = false) (hn1 : 1 < n) (hn2 : ((n : Int) == 1) = false) (g0 : 160 < c0) (g1 : c0 < 255) (hg : c1 ≤ 160) (w : World) (hb : b < w.heap.size) (hc0 : w.cell? ⟨b, o, none⟩ = some (.int .u8 c0)) (hc1 : w.cell? ⟨b, o + 1, none⟩ = some (.int .u8 c1)) : Calls Try.prog 45 #[.int .i64 84, .slice (some ⟨b, o, none⟩) n cap] w fun e w' => e = .returned (.agg #[.int .i64 10, .int .i64 1, .int .i64 0, .int .i32 0, .int .i32 0, .int .i64 0, .int .i64 0, .int .u32 0, .int .i32 0]) ∧ Below w.heap.size w w' := by
  have p0 := past1 hb hc0
  have p1 := past1 hb hc1
  have h142 : (c0 == 142) = false := by rw [beq_eq_false_iff_ne]; omega
  go_enter Try.func45, Try.ntmps45
  go_wp2_with (first
    | (go_at_call 47; refine (refHas _ _).mono ?_; rintro e w1 ⟨rfl, rfl⟩)
    | (go_at_call 64; refine (refHalf _ (by omega) (by omega) _).mono ?_; rintro e w1 ⟨rfl, rfl⟩))
  refine bodyPost_ret (v := .agg #[.int .i64 10, .int .i64 1, .int .i64 0, .int .i32 0, .int .i32 0, .int .i64 0, .int .i64 0, .int .u32 0, .int .i32 0]) (by simp [results, Try.results45, go_sem]) rfl ⟨rfl, by go_grown⟩
set_option maxHeartbeats 1000000 in
theorem RGet_bad1hi_84 (b o n cap : Nat) (c0 c1 : Int) (hn : ((n : Int) == 0) = false) (hn1 : 1 < n) (hn2 : ((n : Int) == 1) = false) (g0 : 160 < c0) (g1 : c0 < 255) (hg : 255 ≤ c1) (w : World) (hb : b < w.heap.size) (hc0 : w.cell? ⟨b, o, none⟩ = some (.int .u8 c0)) (hc1 : w.cell? ⟨b, o + 1, none⟩ = some (.int .u8 c1)) : Calls Try.prog 45 #[.int .i64 84, .slice (some ⟨b, o, none⟩) n cap] w fun e w' => e = .returned (.agg #[.int .i64 10, .int .i64 1, .int .i64 0, .int .i32 0, .int .i32 0, .int .i64 0, .int .i64 0, .int .u32 0, .int .i32 0]) ∧ Below w.heap.size w w' := by
  have p0 := past1 hb hc0
  have p1 := past1 hb hc1
  have h142 : (c0 == 142) = false := by rw [beq_eq_false_iff_ne]; omega
  go_enter Try.func45, Try.ntmps45
  go_wp2_with (first
    | (go_at_call 47; refine (refHas _ _).mono ?_; rintro e w1 ⟨rfl, rfl⟩)
    | (go_at_call 64; refine (refHalf _ (by omega) (by omega) _).mono ?_; rintro e w1 ⟨rfl, rfl⟩))
  refine bodyPost_ret (v := .agg #[.int .i64 10, .int .i64 1, .int .i64 0, .int .i32 0, .int .i32 0, .int .i64 0, .int .i64 0, .int .u32 0, .int .i32 0]) (by simp [results, Try.results45, go_sem]) rfl ⟨rfl, by go_grown⟩
end Go.Proofs.Ytekiblpefdnfhaa
