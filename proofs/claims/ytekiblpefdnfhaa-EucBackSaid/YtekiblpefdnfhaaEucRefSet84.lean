/- The walk of the reference's Set for kind 84, of scalars that are no byte below 128. -/
import Derived.Test.YtekiblpefdnfhaaEucSet
namespace Go.Proofs.Ytekiblpefdnfhaa
open Go.RowKit
set_option maxRecDepth 100000
set_option linter.unusedSimpArgs false
set_option maxHeartbeats 1000000 in
theorem refSet_half_84 (u : Int) (h0 : 65377 ≤ u) (h1 : u ≤ 65439) (w : World) : Calls Try.prog 43 #[.int .i64 84, .int .i32 u] w (SetPost gbRow false u w) := by
  have hh : isHalf false u = false := by simp [isHalf] 
  have HH := Lib.hid hh
  clear hh
  have cv2 := conv2
  go_enter Try.func43, Try.ntmps43
  go_wp2_with fail
  refine (refHas _ _).mono ?_
  rintro e w1 ⟨rfl, rfl⟩
  go_wp2_with fail
  refine (refPlace_84 _ _).mono ?_
  rintro e w2 ⟨a, b, ok, rfl, hp, hb2⟩
  obtain ⟨hc, hf, hz⟩ := only_var hb2
  obtain ⟨c0, c1, c2, c3, c4, c5⟩ := put_zero hc
  have hv := var_alloc' hz
  have hvf := var_alloc_free' hz
  have B2 : Below w.heap.size w w2 := ((Below.refl _ _).alloc (Nat.le_refl _) _).trans (hb2.mono (by simp))
  have z2 : w.heap.size ≤ w2.heap.size := by omega
  clear hc hb2 hz
  rcases placeBounds hp with ⟨rfl, a1, a2, b1, b2⟩ | rfl
  · go_wp2_with fail
    refine bodyPost_ret (v := .agg #[.int .i64 0, .string (strOfNums [a + 160, b + 160]), .int .i64 0, .int .i64 0, .int .u32 0, .int .i32 0]) (by simp [results, Try.results43, go_sem, hv, hvf, hf, c0, c1, c2, c3, c4, c5, World.cell?_setCell_other]) rfl ⟨a, b, true, hp, by rw [Int.add_comm a, Int.add_comm b]; rfl, ?_⟩
    iterate 6 with_reducible refine Below.setCell ?_ (below_at _ _) _
    exact B2.alloc z2 _
  · go_wp2_with fail
    all_goals
      refine bodyPost_ret (v := .agg #[.int .i64 11, .string ⟨#[]⟩, .int .i64 0, .int .i64 0, .int .u32 0, .int .i32 0]) (by simp [results, Try.results43, go_sem, hv, hvf, hf, c0, c1, c2, c3, c4, c5, World.cell?_setCell_other]) rfl ⟨a, b, false, hp, by rw [setErr_none HH.out, setStr_none _ _ HH.out], ?_⟩
      iterate 6 with_reducible refine Below.setCell ?_ (below_at _ _) _
      exact B2
set_option maxHeartbeats 1000000 in
theorem refSet_neg_84 (u : Int) (h0 : u < 0) (w : World) : Calls Try.prog 43 #[.int .i64 84, .int .i32 u] w (SetPost gbRow false u w) := by
  have hh : isHalf false u = false := by simp [isHalf] 
  have HH := Lib.hid hh
  clear hh
  have cv2 := conv2
  go_enter Try.func43, Try.ntmps43
  go_wp2_with fail
  refine (refHas _ _).mono ?_
  rintro e w1 ⟨rfl, rfl⟩
  go_wp2_with fail
  refine (refPlace_84 _ _).mono ?_
  rintro e w2 ⟨a, b, ok, rfl, hp, hb2⟩
  obtain ⟨hc, hf, hz⟩ := only_var hb2
  obtain ⟨c0, c1, c2, c3, c4, c5⟩ := put_zero hc
  have hv := var_alloc' hz
  have hvf := var_alloc_free' hz
  have B2 : Below w.heap.size w w2 := ((Below.refl _ _).alloc (Nat.le_refl _) _).trans (hb2.mono (by simp))
  have z2 : w.heap.size ≤ w2.heap.size := by omega
  clear hc hb2 hz
  rcases placeBounds hp with ⟨rfl, a1, a2, b1, b2⟩ | rfl
  · go_wp2_with fail
    refine bodyPost_ret (v := .agg #[.int .i64 0, .string (strOfNums [a + 160, b + 160]), .int .i64 0, .int .i64 0, .int .u32 0, .int .i32 0]) (by simp [results, Try.results43, go_sem, hv, hvf, hf, c0, c1, c2, c3, c4, c5, World.cell?_setCell_other]) rfl ⟨a, b, true, hp, by rw [Int.add_comm a, Int.add_comm b]; rfl, ?_⟩
    iterate 6 with_reducible refine Below.setCell ?_ (below_at _ _) _
    exact B2.alloc z2 _
  · go_wp2_with fail
    all_goals
      refine bodyPost_ret (v := .agg #[.int .i64 11, .string ⟨#[]⟩, .int .i64 0, .int .i64 0, .int .u32 0, .int .i32 0]) (by simp [results, Try.results43, go_sem, hv, hvf, hf, c0, c1, c2, c3, c4, c5, World.cell?_setCell_other]) rfl ⟨a, b, false, hp, by rw [setErr_none HH.out, setStr_none _ _ HH.out], ?_⟩
      iterate 6 with_reducible refine Below.setCell ?_ (below_at _ _) _
      exact B2
set_option maxHeartbeats 1000000 in
theorem refSet_mid_84 (u : Int) (h0 : 128 ≤ u) (h1 : u < 65377) (w : World) : Calls Try.prog 43 #[.int .i64 84, .int .i32 u] w (SetPost gbRow false u w) := by
  have hh : isHalf false u = false := by simp [isHalf] 
  have HH := Lib.hid hh
  clear hh
  have cv2 := conv2
  go_enter Try.func43, Try.ntmps43
  go_wp2_with fail
  refine (refHas _ _).mono ?_
  rintro e w1 ⟨rfl, rfl⟩
  go_wp2_with fail
  refine (refPlace_84 _ _).mono ?_
  rintro e w2 ⟨a, b, ok, rfl, hp, hb2⟩
  obtain ⟨hc, hf, hz⟩ := only_var hb2
  obtain ⟨c0, c1, c2, c3, c4, c5⟩ := put_zero hc
  have hv := var_alloc' hz
  have hvf := var_alloc_free' hz
  have B2 : Below w.heap.size w w2 := ((Below.refl _ _).alloc (Nat.le_refl _) _).trans (hb2.mono (by simp))
  have z2 : w.heap.size ≤ w2.heap.size := by omega
  clear hc hb2 hz
  rcases placeBounds hp with ⟨rfl, a1, a2, b1, b2⟩ | rfl
  · go_wp2_with fail
    refine bodyPost_ret (v := .agg #[.int .i64 0, .string (strOfNums [a + 160, b + 160]), .int .i64 0, .int .i64 0, .int .u32 0, .int .i32 0]) (by simp [results, Try.results43, go_sem, hv, hvf, hf, c0, c1, c2, c3, c4, c5, World.cell?_setCell_other]) rfl ⟨a, b, true, hp, by rw [Int.add_comm a, Int.add_comm b]; rfl, ?_⟩
    iterate 6 with_reducible refine Below.setCell ?_ (below_at _ _) _
    exact B2.alloc z2 _
  · go_wp2_with fail
    all_goals
      refine bodyPost_ret (v := .agg #[.int .i64 11, .string ⟨#[]⟩, .int .i64 0, .int .i64 0, .int .u32 0, .int .i32 0]) (by simp [results, Try.results43, go_sem, hv, hvf, hf, c0, c1, c2, c3, c4, c5, World.cell?_setCell_other]) rfl ⟨a, b, false, hp, by rw [setErr_none HH.out, setStr_none _ _ HH.out], ?_⟩
      iterate 6 with_reducible refine Below.setCell ?_ (below_at _ _) _
      exact B2
set_option maxHeartbeats 1000000 in
theorem refSet_big_84 (u : Int) (h0 : 65439 < u) (w : World) : Calls Try.prog 43 #[.int .i64 84, .int .i32 u] w (SetPost gbRow false u w) := by
  have hh : isHalf false u = false := by simp [isHalf] 
  have HH := Lib.hid hh
  clear hh
  have cv2 := conv2
  go_enter Try.func43, Try.ntmps43
  go_wp2_with fail
  refine (refHas _ _).mono ?_
  rintro e w1 ⟨rfl, rfl⟩
  go_wp2_with fail
  refine (refPlace_84 _ _).mono ?_
  rintro e w2 ⟨a, b, ok, rfl, hp, hb2⟩
  obtain ⟨hc, hf, hz⟩ := only_var hb2
  obtain ⟨c0, c1, c2, c3, c4, c5⟩ := put_zero hc
  have hv := var_alloc' hz
  have hvf := var_alloc_free' hz
  have B2 : Below w.heap.size w w2 := ((Below.refl _ _).alloc (Nat.le_refl _) _).trans (hb2.mono (by simp))
  have z2 : w.heap.size ≤ w2.heap.size := by omega
  clear hc hb2 hz
  rcases placeBounds hp with ⟨rfl, a1, a2, b1, b2⟩ | rfl
  · go_wp2_with fail
    refine bodyPost_ret (v := .agg #[.int .i64 0, .string (strOfNums [a + 160, b + 160]), .int .i64 0, .int .i64 0, .int .u32 0, .int .i32 0]) (by simp [results, Try.results43, go_sem, hv, hvf, hf, c0, c1, c2, c3, c4, c5, World.cell?_setCell_other]) rfl ⟨a, b, true, hp, by rw [Int.add_comm a, Int.add_comm b]; rfl, ?_⟩
    iterate 6 with_reducible refine Below.setCell ?_ (below_at _ _) _
    exact B2.alloc z2 _
  · go_wp2_with fail
    all_goals
      refine bodyPost_ret (v := .agg #[.int .i64 11, .string ⟨#[]⟩, .int .i64 0, .int .i64 0, .int .u32 0, .int .i32 0]) (by simp [results, Try.results43, go_sem, hv, hvf, hf, c0, c1, c2, c3, c4, c5, World.cell?_setCell_other]) rfl ⟨a, b, false, hp, by rw [setErr_none HH.out, setStr_none _ _ HH.out], ?_⟩
      iterate 6 with_reducible refine Below.setCell ?_ (below_at _ _) _
      exact B2
end Go.Proofs.Ytekiblpefdnfhaa
