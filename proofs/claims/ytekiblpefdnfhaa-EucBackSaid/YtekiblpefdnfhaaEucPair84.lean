/- The walks of euc.Get for kind 84: pairs. -/
import Derived.Test.YtekiblpefdnfhaaEucGet
namespace Go.Proofs.Ytekiblpefdnfhaa
open Go.RowKit
set_option maxRecDepth 100000
set_option linter.unusedSimpArgs false
set_option maxHeartbeats 2000000 in
theorem Get_yes_84 (b o n cap : Nat) (c0 c1 : Int) (hn : ((n : Int) == 0) = false) (hn1 : 1 < n) (hn2 : ((n : Int) == 1) = false) (g0 : 160 < c0) (g1 : c0 < 255) (k0 : 160 < c1) (k1 : c1 < 255) (hh : has (gbRow (c0 - 160)) (c1 - 160) = true)
    (w : World) (hb : b < w.heap.size) (hc0 : w.cell? ⟨b, o, none⟩ = some (.int .u8 c0)) (hc1 : w.cell? ⟨b, o + 1, none⟩ = some (.int .u8 c1)) : Calls Try.prog 44 #[.int .i64 84, .slice (some ⟨b, o, none⟩) n cap] w fun e w' => e = .returned (.agg #[.int .i64 0, .int .i64 2, .int .i64 1, .int .i32 (scal (gbRow (c0 - 160)) (c1 - 160)), .int .i32 0, .int .i64 0, .int .i64 0, .int .u32 0, .int .i32 0]) ∧ Below w.heap.size w w' := by
  have p0 := past3 hb hc0
  have p1 := past3 hb hc1
  have n0 : (0 : Int) < (n : Int) := by omega
  have n0' : 0 < n := by omega
  have n1 : (1 : Int) < (n : Int) := by omega
  have q : ∀ O1 O2 : Obj, (((w.alloc O1).alloc O2).alloc (.cells #[.func (.func 28) #[] #[], .func (.func 30) #[] #[], .bool false] 62)).cell? ⟨w.heap.size + 1 + 1, 0, none⟩ = some (.func (.func 28) #[] #[]) := fun O1 O2 => by
    rw [World.cell?_alloc_at _ _ _ _ (by simp)]; rfl
  go_enter Try.func44, Try.ntmps44
  go_wp2_with (first
    | (go_at_call 58; refine (rowsOf_84 _).mono ?_; rintro e w1 ⟨rfl, rfl⟩)
    | (go_at_call 62; refine (graphic_yes _ (by assumption) (by assumption) _).mono ?_; rintro e w1 ⟨rfl, rfl⟩))
  have v0 : IntKind.i64.wrap c0 = c0 := IntWalk.i64_in _ (by omega)
  have v1 : IntKind.i64.wrap c1 = c1 := IntWalk.i64_in _ (by omega)
  have v2 : IntKind.i64.wrap (c0 - 160) = c0 - 160 := IntWalk.i64_in _ (by omega)
  have v3 : IntKind.i64.wrap (c1 - 160) = c1 - 160 := IntWalk.i64_in _ (by omega)
  go_region_held3 (fun w' => w'.cell? ⟨w.heap.size + 1 + 1, 0, none⟩ = some (.func (.func 28) #[] #[]) ∧ w'.cell? ⟨b, o, none⟩ = some (.int .u8 c0) ∧ w'.cell? ⟨b, o + 1, none⟩ = some (.int .u8 c1)) (first | exact ⟨q _ _, p0 _ _ _, p1 _ _ _⟩ | exact ⟨below_keep hb2 (q _ _), below_keep hb2 (p0 _ _ _), below_keep hb2 (p1 _ _ _)⟩)
    (first | (go_at_call 28; refine (gb_Scalar _ _ _).mono ?_; rintro e w2 ⟨rfl, hb2⟩))
  obtain ⟨hc, hf, hz⟩ := first_var (below_undrew hb2)
  obtain ⟨e0, e1, e2, e3, e4, e5, e6, e7, e8⟩ := got_zero hc
  have B2 : Below w.heap.size w w2 := ((((Below.refl _ _).alloc (Nat.le_refl _) _).alloc (by simp) _).alloc (by simp; omega) _).trans ((below_undrew hb2).mono (by simp; omega))
  clear hc hb2 hz v0 v1 v2 v3 p0 p1 q
  go_wp2_with fail
  refine bodyPost_ret (v := .agg #[.int .i64 0, .int .i64 2, .int .i64 1, .int .i32 (scal (gbRow (c0 - 160)) (c1 - 160)), .int .i32 0, .int .i64 0, .int .i64 0, .int .u32 0, .int .i32 0]) (by simp [results, Try.results44, go_sem, hf, e0, e1, e2, e3, e4, e5, e6, e7, e8, World.cell?_setCell_other]) rfl ⟨rfl, ?_⟩
  iterate 9 with_reducible refine Below.setCell ?_ (below_at _ _) _
  exact B2
set_option maxHeartbeats 2000000 in
theorem Get_no_84 (b o n cap : Nat) (c0 c1 : Int) (hn : ((n : Int) == 0) = false) (hn1 : 1 < n) (hn2 : ((n : Int) == 1) = false) (g0 : 160 < c0) (g1 : c0 < 255) (k0 : 160 < c1) (k1 : c1 < 255) (hh : has (gbRow (c0 - 160)) (c1 - 160) = false)
    (w : World) (hb : b < w.heap.size) (hc0 : w.cell? ⟨b, o, none⟩ = some (.int .u8 c0)) (hc1 : w.cell? ⟨b, o + 1, none⟩ = some (.int .u8 c1)) : Calls Try.prog 44 #[.int .i64 84, .slice (some ⟨b, o, none⟩) n cap] w fun e w' => e = .returned (.agg #[.int .i64 10, .int .i64 2, .int .i64 0, .int .i32 0, .int .i32 0, .int .i64 0, .int .i64 0, .int .u32 0, .int .i32 0]) ∧ Below w.heap.size w w' := by
  have p0 := past3 hb hc0
  have p1 := past3 hb hc1
  have n0 : (0 : Int) < (n : Int) := by omega
  have n0' : 0 < n := by omega
  have n1 : (1 : Int) < (n : Int) := by omega
  have q : ∀ O1 O2 : Obj, (((w.alloc O1).alloc O2).alloc (.cells #[.func (.func 28) #[] #[], .func (.func 30) #[] #[], .bool false] 62)).cell? ⟨w.heap.size + 1 + 1, 0, none⟩ = some (.func (.func 28) #[] #[]) := fun O1 O2 => by
    rw [World.cell?_alloc_at _ _ _ _ (by simp)]; rfl
  go_enter Try.func44, Try.ntmps44
  go_wp2_with (first
    | (go_at_call 58; refine (rowsOf_84 _).mono ?_; rintro e w1 ⟨rfl, rfl⟩)
    | (go_at_call 62; refine (graphic_yes _ (by assumption) (by assumption) _).mono ?_; rintro e w1 ⟨rfl, rfl⟩))
  have v0 : IntKind.i64.wrap c0 = c0 := IntWalk.i64_in _ (by omega)
  have v1 : IntKind.i64.wrap c1 = c1 := IntWalk.i64_in _ (by omega)
  have v2 : IntKind.i64.wrap (c0 - 160) = c0 - 160 := IntWalk.i64_in _ (by omega)
  have v3 : IntKind.i64.wrap (c1 - 160) = c1 - 160 := IntWalk.i64_in _ (by omega)
  go_region_held3 (fun w' => w'.cell? ⟨w.heap.size + 1 + 1, 0, none⟩ = some (.func (.func 28) #[] #[]) ∧ w'.cell? ⟨b, o, none⟩ = some (.int .u8 c0) ∧ w'.cell? ⟨b, o + 1, none⟩ = some (.int .u8 c1)) (first | exact ⟨q _ _, p0 _ _ _, p1 _ _ _⟩ | exact ⟨below_keep hb2 (q _ _), below_keep hb2 (p0 _ _ _), below_keep hb2 (p1 _ _ _)⟩)
    (first | (go_at_call 28; refine (gb_Scalar _ _ _).mono ?_; rintro e w2 ⟨rfl, hb2⟩))
  obtain ⟨hc, hf, hz⟩ := first_var (below_undrew hb2)
  obtain ⟨e0, e1, e2, e3, e4, e5, e6, e7, e8⟩ := got_zero hc
  have B2 : Below w.heap.size w w2 := ((((Below.refl _ _).alloc (Nat.le_refl _) _).alloc (by simp) _).alloc (by simp; omega) _).trans ((below_undrew hb2).mono (by simp; omega))
  clear hc hb2 hz v0 v1 v2 v3 p0 p1 q
  go_wp2_with fail
  refine bodyPost_ret (v := .agg #[.int .i64 10, .int .i64 2, .int .i64 0, .int .i32 0, .int .i32 0, .int .i64 0, .int .i64 0, .int .u32 0, .int .i32 0]) (by simp [results, Try.results44, go_sem, hf, e0, e1, e2, e3, e4, e5, e6, e7, e8, World.cell?_setCell_other]) rfl ⟨rfl, ?_⟩
  iterate 9 with_reducible refine Below.setCell ?_ (below_at _ _) _
  exact B2
end Go.Proofs.Ytekiblpefdnfhaa
