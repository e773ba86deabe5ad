/- The walks of the reference's Get for kind 84: pairs. -/
import Derived.Test.YtekiblpefdnfhaaEucGet
namespace Go.Proofs.Ytekiblpefdnfhaa
open Go.RowKit
set_option maxRecDepth 100000
set_option linter.unusedSimpArgs false
set_option maxHeartbeats 2000000 in
theorem RGet_yes_84 (b o n cap : Nat) (c0 c1 : Int) (hn : ((n : Int) == 0) = false) (hn1 : 1 < n) (hn2 : ((n : Int) == 1) = false) (g0 : 160 < c0) (g1 : c0 < 255) (k0 : 160 < c1) (k1 : c1 < 255) (hh : has (gbRow (c0 - 160)) (c1 - 160) = true)
    (w : World) (hb : b < w.heap.size) (hc0 : w.cell? ⟨b, o, none⟩ = some (.int .u8 c0)) (hc1 : w.cell? ⟨b, o + 1, none⟩ = some (.int .u8 c1)) : Calls Try.prog 45 #[.int .i64 84, .slice (some ⟨b, o, none⟩) n cap] w fun e w' => e = .returned (.agg #[.int .i64 0, .int .i64 2, .int .i64 1, .int .i32 (scal (gbRow (c0 - 160)) (c1 - 160)), .int .i32 0, .int .i64 0, .int .i64 0, .int .u32 0, .int .i32 0]) ∧ Below w.heap.size w w' := by
  have p0 := past1 hb hc0
  have p1 := past1 hb hc1
  have n0 : (0 : Int) < (n : Int) := by omega
  have n0' : 0 < n := by omega
  have n1 : (1 : Int) < (n : Int) := by omega
  have h142 : (c0 == 142) = false := by rw [beq_eq_false_iff_ne]; omega
  go_enter Try.func45, Try.ntmps45
  go_wp2_with (first
    | (go_at_call 47; refine (refHas _ _).mono ?_; rintro e w1 ⟨rfl, rfl⟩))
  have v0 : IntKind.i64.wrap c0 = c0 := IntWalk.i64_in _ (by omega)
  have v1 : IntKind.i64.wrap c1 = c1 := IntWalk.i64_in _ (by omega)
  have v2 : IntKind.i64.wrap (c0 - 160) = c0 - 160 := IntWalk.i64_in _ (by omega)
  have v3 : IntKind.i64.wrap (c1 - 160) = c1 - 160 := IntWalk.i64_in _ (by omega)
  go_region_held3 (fun w' => w'.cell? ⟨b, o, none⟩ = some (.int .u8 c0) ∧ w'.cell? ⟨b, o + 1, none⟩ = some (.int .u8 c1)) (first | exact ⟨p0 _, p1 _⟩)
    (first | (go_at_call 65; refine (refScalar_84 _ _ _).mono ?_; rintro e w2 ⟨rfl, nq, rfl⟩))
  go_wp2_with fail
  refine bodyPost_ret (v := .agg #[.int .i64 0, .int .i64 2, .int .i64 1, .int .i32 (scal (gbRow (c0 - 160)) (c1 - 160)), .int .i32 0, .int .i64 0, .int .i64 0, .int .u32 0, .int .i32 0]) (by simp [results, Try.results45, go_sem]) rfl ⟨rfl, ?_⟩
  iterate 9 with_reducible refine Below.setCell ?_ (below_at _ _) _
  exact below_drewN ((Below.refl _ _).alloc (Nat.le_refl _) _) _
set_option maxHeartbeats 2000000 in
theorem RGet_no_84 (b o n cap : Nat) (c0 c1 : Int) (hn : ((n : Int) == 0) = false) (hn1 : 1 < n) (hn2 : ((n : Int) == 1) = false) (g0 : 160 < c0) (g1 : c0 < 255) (k0 : 160 < c1) (k1 : c1 < 255) (hh : has (gbRow (c0 - 160)) (c1 - 160) = false)
    (w : World) (hb : b < w.heap.size) (hc0 : w.cell? ⟨b, o, none⟩ = some (.int .u8 c0)) (hc1 : w.cell? ⟨b, o + 1, none⟩ = some (.int .u8 c1)) : Calls Try.prog 45 #[.int .i64 84, .slice (some ⟨b, o, none⟩) n cap] w fun e w' => e = .returned (.agg #[.int .i64 10, .int .i64 2, .int .i64 0, .int .i32 0, .int .i32 0, .int .i64 0, .int .i64 0, .int .u32 0, .int .i32 0]) ∧ Below w.heap.size w w' := by
  have p0 := past1 hb hc0
  have p1 := past1 hb hc1
  have n0 : (0 : Int) < (n : Int) := by omega
  have n0' : 0 < n := by omega
  have n1 : (1 : Int) < (n : Int) := by omega
  have h142 : (c0 == 142) = false := by rw [beq_eq_false_iff_ne]; omega
  go_enter Try.func45, Try.ntmps45
  go_wp2_with (first
    | (go_at_call 47; refine (refHas _ _).mono ?_; rintro e w1 ⟨rfl, rfl⟩))
  have v0 : IntKind.i64.wrap c0 = c0 := IntWalk.i64_in _ (by omega)
  have v1 : IntKind.i64.wrap c1 = c1 := IntWalk.i64_in _ (by omega)
  have v2 : IntKind.i64.wrap (c0 - 160) = c0 - 160 := IntWalk.i64_in _ (by omega)
  have v3 : IntKind.i64.wrap (c1 - 160) = c1 - 160 := IntWalk.i64_in _ (by omega)
  go_region_held3 (fun w' => w'.cell? ⟨b, o, none⟩ = some (.int .u8 c0) ∧ w'.cell? ⟨b, o + 1, none⟩ = some (.int .u8 c1)) (first | exact ⟨p0 _, p1 _⟩)
    (first | (go_at_call 65; refine (refScalar_84 _ _ _).mono ?_; rintro e w2 ⟨rfl, nq, rfl⟩))
  go_wp2_with fail
  refine bodyPost_ret (v := .agg #[.int .i64 10, .int .i64 2, .int .i64 0, .int .i32 0, .int .i32 0, .int .i64 0, .int .i64 0, .int .u32 0, .int .i32 0]) (by simp [results, Try.results45, go_sem]) rfl ⟨rfl, ?_⟩
  iterate 9 with_reducible refine Below.setCell ?_ (below_at _ _) _
  exact below_drewN ((Below.refl _ _).alloc (Nat.le_refl _) _) _
end Go.Proofs.Ytekiblpefdnfhaa
