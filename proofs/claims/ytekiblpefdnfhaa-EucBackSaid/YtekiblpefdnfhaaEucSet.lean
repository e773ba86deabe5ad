/- The walks of layer 17: Set, of the program and of the reference; the law EucSets. -/
import Derived.Test.YtekiblpefdnfhaaEucBase
import Derived.Lib.Hide
namespace Go.Proofs.Ytekiblpefdnfhaa
open Go.RowKit
set_option maxRecDepth 100000
set_option linter.unusedSimpArgs false

def isHalf (half : Bool) (u : Int) : Bool := half && decide (65377 ≤ u ∧ u ≤ 65439)
def setErr (half : Bool) (u : Int) (ok : Bool) : Int := if ok then 0 else if isHalf half u then 0 else 11
def setStr (half : Bool) (u a b : Int) (ok : Bool) : ByteArray := if ok then strOfNums [160 + a, 160 + b] else if isHalf half u then strOfNums [142, u - 65377 + 161] else ⟨#[]⟩
theorem setErr_ok (half : Bool) (u : Int) : setErr half u true = 0 := rfl
theorem setStr_ok (half : Bool) (u a b : Int) : setStr half u a b true = strOfNums [160 + a, 160 + b] := rfl
theorem setErr_half {half : Bool} {u : Int} (h : isHalf half u = true) : setErr half u false = 0 := by simp [setErr, h]
theorem setStr_half {half : Bool} {u : Int} (a b : Int) (h : isHalf half u = true) : setStr half u a b false = strOfNums [142, u - 65377 + 161] := by simp [setStr, h]
theorem setErr_none {half : Bool} {u : Int} (h : isHalf half u = false) : setErr half u false = 11 := by simp [setErr, h]
theorem setStr_none {half : Bool} {u : Int} (a b : Int) (h : isHalf half u = false) : setStr half u a b false = ⟨#[]⟩ := by simp [setStr, h]
/-- what a call of Set tells of a scalar above 127 or below nought -/
def SetPost (row : Int → List Int) (half : Bool) (u : Int) (w : World) (e : Ending) (w' : World) : Prop :=
  ∃ (a b : Int) (ok : Bool), IsPlace row u a b ok ∧ e = .returned (.agg #[.int .i64 (setErr half u ok), .string (setStr half u a b ok), .int .i64 0, .int .i64 0, .int .u32 0, .int .i32 0]) ∧ Below w.heap.size w w'
/-- the first variable of a call, behind which two more lie, stays as it was while nothing that was there is written -/
theorem first_var {w w2 : World} {cs : Array Value} {T : TypeId} {R R' : Obj} (hb : Below (((w.alloc (.cells cs T)).alloc R).alloc R').heap.size (((w.alloc (.cells cs T)).alloc R).alloc R') w2) :
    (∀ j, w2.cell? ⟨w.heap.size, j, none⟩ = cs[j]?) ∧ (∀ j, w2.frozen? ⟨w.heap.size, j, none⟩ = false) ∧ w.heap.size + 2 < w2.heap.size := by
  have hz := hb.size
  simp at hz
  refine ⟨fun j => ?_, fun j => ?_, by omega⟩
  · rw [hb.cell (p := ⟨w.heap.size, j, none⟩) (by simp; omega), World.cell?_alloc_past _ _ _ (by simp; omega), World.cell?_alloc_past _ _ _ (by simp), World.cell?_alloc_at _ _ _ _ rfl]
  · rw [hb.frozen (p := ⟨w.heap.size, j, none⟩) (by simp; omega), World.frozen?_alloc_past _ _ _ (by simp; omega), World.frozen?_alloc_past _ _ _ (by simp)]
    exact World.frozen?_alloc_at _ _ _ _ rfl
theorem third_var {w w2 : World} {Z R : Obj} {cs : Array Value} {T : TypeId} (hb : Below (((w.alloc Z).alloc R).alloc (.cells cs T)).heap.size (((w.alloc Z).alloc R).alloc (.cells cs T)) w2) :
    ∀ j, w2.cell? ⟨w.heap.size + 1 + 1, j, none⟩ = cs[j]? := fun j => by
  rw [hb.cell (p := ⟨w.heap.size + 1 + 1, j, none⟩) (by simp), World.cell?_alloc_at _ _ _ _ (by simp)]
theorem var_alloc {w2 : World} {b : Nat} (h : b + 2 < w2.heap.size) (O : Obj) (j : Nat) : (w2.alloc O).cell? ⟨b, j, none⟩ = w2.cell? ⟨b, j, none⟩ := World.cell?_alloc_past _ _ _ (by show b < _; omega)
theorem var_alloc_free {w2 : World} {b : Nat} (h : b + 2 < w2.heap.size) (O : Obj) (j : Nat) : (w2.alloc O).frozen? ⟨b, j, none⟩ = w2.frozen? ⟨b, j, none⟩ := World.frozen?_alloc_past _ _ _ (by show b < _; omega)
/-- the zero of api.Put -/
theorem put_zero {w2 : World} {b : Nat} (h : ∀ j, w2.cell? ⟨b, j, none⟩ = #[.int .i64 0, .string ⟨#[]⟩, .int .i64 0, .int .i64 0, .int .u32 0, .int .i32 0][j]?) :
    w2.cell? ⟨b, 0, none⟩ = some (.int .i64 0) ∧ w2.cell? ⟨b, 1, none⟩ = some (.string ⟨#[]⟩) ∧ w2.cell? ⟨b, 2, none⟩ = some (.int .i64 0) ∧ w2.cell? ⟨b, 3, none⟩ = some (.int .i64 0) ∧ w2.cell? ⟨b, 4, none⟩ = some (.int .u32 0) ∧ w2.cell? ⟨b, 5, none⟩ = some (.int .i32 0) :=
  ⟨h 0, h 1, h 2, h 3, h 4, h 5⟩
theorem below_at (b j : Nat) : b ≤ (⟨b, j, none⟩ : Addr).block := Nat.le_refl _
theorem placeBounds {row : Int → List Int} {u a b : Int} {ok : Bool} (h : IsPlace row u a b ok) : (ok = true ∧ 1 ≤ a ∧ a ≤ 94 ∧ 1 ≤ b ∧ b ≤ 94) ∨ ok = false := by
  cases ok
  · exact .inr rfl
  · exact .inl ⟨rfl, h.found.1, h.found.2.1, h.found.2.2.1, h.found.2.2.2.1⟩

theorem Set_none (k u : Int) (h1 : (k == 81) = false) (h2 : (k == 84) = false) (h3 : (k == 86) = false) (w : World) : Calls Try.prog 42 #[.int .i64 k, .int .i32 u] w fun e w' => e = .returned (.agg #[.int .i64 5, .string ⟨#[]⟩, .int .i64 0, .int .i64 0, .int .u32 0, .int .i32 0]) ∧ Below w.heap.size w w' := by
  go_enter Try.func42, Try.ntmps42
  go_wp2_with (go_at_call 58; refine (rowsOf_none k h1 h2 h3 _).mono ?_; rintro e w1 ⟨rfl, rfl⟩)
  exact bodyPost_ret (v := .agg #[.int .i64 5, .string ⟨#[]⟩, .int .i64 0, .int .i64 0, .int .u32 0, .int .i32 0]) (by simp [results, Try.results42, go_sem]) rfl ⟨rfl, by go_grown⟩
theorem refSet_none (k u : Int) (h : ¬ IsKind k) (w : World) : Calls Try.prog 43 #[.int .i64 k, .int .i32 u] w fun e w' => e = .returned (.agg #[.int .i64 5, .string ⟨#[]⟩, .int .i64 0, .int .i64 0, .int .u32 0, .int .i32 0]) ∧ Below w.heap.size w w' := by
  have hd : decide (k = 81 ∨ k = 84 ∨ k = 86) = false := decide_eq_false h
  have HD := Lib.hid (refHas k)
  rw [hd] at HD
  clear h hd
  go_enter Try.func43, Try.ntmps43
  go_wp2_with (go_at_call 47; refine (HD.out _).mono ?_; rintro e w1 ⟨rfl, rfl⟩)
  exact bodyPost_ret (v := .agg #[.int .i64 5, .string ⟨#[]⟩, .int .i64 0, .int .i64 0, .int .u32 0, .int .i32 0]) (by simp [results, Try.results43, go_sem]) rfl ⟨rfl, by go_grown⟩
theorem Set_plain_81 (u : Int) (h0 : 0 ≤ u) (h1 : u < 128) (w : World) : Calls Try.prog 42 #[.int .i64 81, .int .i32 u] w fun e w' => e = .returned (.agg #[.int .i64 0, .string (strOfNums [u]), .int .i64 0, .int .i64 0, .int .u32 0, .int .i32 0]) ∧ Below w.heap.size w w' := by
  have cv := conv1
  go_enter Try.func42, Try.ntmps42
  go_wp2_with (go_at_call 58; refine (rowsOf_81 _).mono ?_; rintro e w1 ⟨rfl, rfl⟩)
  exact bodyPost_ret (v := .agg #[.int .i64 0, .string (strOfNums [u]), .int .i64 0, .int .i64 0, .int .u32 0, .int .i32 0]) (by simp [results, Try.results42, go_sem]) rfl ⟨rfl, by go_grown⟩
theorem refSet_plain_81 (u : Int) (h0 : 0 ≤ u) (h1 : u < 128) (w : World) : Calls Try.prog 43 #[.int .i64 81, .int .i32 u] w fun e w' => e = .returned (.agg #[.int .i64 0, .string (strOfNums [u]), .int .i64 0, .int .i64 0, .int .u32 0, .int .i32 0]) ∧ Below w.heap.size w w' := by
  have cv := conv1
  go_enter Try.func43, Try.ntmps43
  go_wp2_with (go_at_call 47; refine (refHas _ _).mono ?_; rintro e w1 ⟨rfl, rfl⟩)
  exact bodyPost_ret (v := .agg #[.int .i64 0, .string (strOfNums [u]), .int .i64 0, .int .i64 0, .int .u32 0, .int .i32 0]) (by simp [results, Try.results43, go_sem]) rfl ⟨rfl, by go_grown⟩
theorem Set_plain_84 (u : Int) (h0 : 0 ≤ u) (h1 : u < 128) (w : World) : Calls Try.prog 42 #[.int .i64 84, .int .i32 u] w fun e w' => e = .returned (.agg #[.int .i64 0, .string (strOfNums [u]), .int .i64 0, .int .i64 0, .int .u32 0, .int .i32 0]) ∧ Below w.heap.size w w' := by
  have cv := conv1
  go_enter Try.func42, Try.ntmps42
  go_wp2_with (go_at_call 58; refine (rowsOf_84 _).mono ?_; rintro e w1 ⟨rfl, rfl⟩)
  exact bodyPost_ret (v := .agg #[.int .i64 0, .string (strOfNums [u]), .int .i64 0, .int .i64 0, .int .u32 0, .int .i32 0]) (by simp [results, Try.results42, go_sem]) rfl ⟨rfl, by go_grown⟩
theorem refSet_plain_84 (u : Int) (h0 : 0 ≤ u) (h1 : u < 128) (w : World) : Calls Try.prog 43 #[.int .i64 84, .int .i32 u] w fun e w' => e = .returned (.agg #[.int .i64 0, .string (strOfNums [u]), .int .i64 0, .int .i64 0, .int .u32 0, .int .i32 0]) ∧ Below w.heap.size w w' := by
  have cv := conv1
  go_enter Try.func43, Try.ntmps43
  go_wp2_with (go_at_call 47; refine (refHas _ _).mono ?_; rintro e w1 ⟨rfl, rfl⟩)
  exact bodyPost_ret (v := .agg #[.int .i64 0, .string (strOfNums [u]), .int .i64 0, .int .i64 0, .int .u32 0, .int .i32 0]) (by simp [results, Try.results43, go_sem]) rfl ⟨rfl, by go_grown⟩
theorem Set_plain_86 (u : Int) (h0 : 0 ≤ u) (h1 : u < 128) (w : World) : Calls Try.prog 42 #[.int .i64 86, .int .i32 u] w fun e w' => e = .returned (.agg #[.int .i64 0, .string (strOfNums [u]), .int .i64 0, .int .i64 0, .int .u32 0, .int .i32 0]) ∧ Below w.heap.size w w' := by
  have cv := conv1
  go_enter Try.func42, Try.ntmps42
  go_wp2_with (go_at_call 58; refine (rowsOf_86 _).mono ?_; rintro e w1 ⟨rfl, rfl⟩)
  exact bodyPost_ret (v := .agg #[.int .i64 0, .string (strOfNums [u]), .int .i64 0, .int .i64 0, .int .u32 0, .int .i32 0]) (by simp [results, Try.results42, go_sem]) rfl ⟨rfl, by go_grown⟩
theorem refSet_plain_86 (u : Int) (h0 : 0 ≤ u) (h1 : u < 128) (w : World) : Calls Try.prog 43 #[.int .i64 86, .int .i32 u] w fun e w' => e = .returned (.agg #[.int .i64 0, .string (strOfNums [u]), .int .i64 0, .int .i64 0, .int .u32 0, .int .i32 0]) ∧ Below w.heap.size w w' := by
  have cv := conv1
  go_enter Try.func43, Try.ntmps43
  go_wp2_with (go_at_call 47; refine (refHas _ _).mono ?_; rintro e w1 ⟨rfl, rfl⟩)
  exact bodyPost_ret (v := .agg #[.int .i64 0, .string (strOfNums [u]), .int .i64 0, .int .i64 0, .int .u32 0, .int .i32 0]) (by simp [results, Try.results43, go_sem]) rfl ⟨rfl, by go_grown⟩
theorem only_var {w w2 : World} {cs : Array Value} {T : TypeId} (hb : Below (w.alloc (.cells cs T)).heap.size (w.alloc (.cells cs T)) w2) :
    (∀ j, w2.cell? ⟨w.heap.size, j, none⟩ = cs[j]?) ∧ (∀ j, w2.frozen? ⟨w.heap.size, j, none⟩ = false) ∧ w.heap.size < w2.heap.size := by
  have hz := hb.size
  simp at hz
  refine ⟨fun j => ?_, fun j => ?_, by omega⟩
  · rw [hb.cell (p := ⟨w.heap.size, j, none⟩) (by simp), World.cell?_alloc_at _ _ _ _ rfl]
  · rw [hb.frozen (p := ⟨w.heap.size, j, none⟩) (by simp)]
    exact World.frozen?_alloc_at _ _ _ _ rfl
theorem var_alloc' {w2 : World} {b : Nat} (h : b < w2.heap.size) (O : Obj) (j : Nat) : (w2.alloc O).cell? ⟨b, j, none⟩ = w2.cell? ⟨b, j, none⟩ := World.cell?_alloc_past _ _ _ h
theorem var_alloc_free' {w2 : World} {b : Nat} (h : b < w2.heap.size) (O : Obj) (j : Nat) : (w2.alloc O).frozen? ⟨b, j, none⟩ = w2.frozen? ⟨b, j, none⟩ := World.frozen?_alloc_past _ _ _ h
theorem refPlace_81 (u : Int) (w : World) : Calls Try.prog 60 #[.int .i64 81, .int .i32 u] w (PlacePost jisRow u w) := by
  go_enter Try.func60, Try.ntmps60
  go_wp2_with (go_at_call 24; refine (refjis_Place _ _).mono ?_; rintro e w2 ⟨a, b, ok, rfl, hp, hb2⟩)
  go_ret3
  exact ⟨a, b, ok, rfl, hp, hb2⟩
theorem refPlace_84 (u : Int) (w : World) : Calls Try.prog 60 #[.int .i64 84, .int .i32 u] w (PlacePost gbRow u w) := by
  go_enter Try.func60, Try.ntmps60
  go_wp2_with (go_at_call 31; refine (refgb_Place _ _).mono ?_; rintro e w2 ⟨a, b, ok, rfl, hp, hb2⟩)
  go_ret3
  exact ⟨a, b, ok, rfl, hp, hb2⟩
theorem refPlace_86 (u : Int) (w : World) : Calls Try.prog 60 #[.int .i64 86, .int .i32 u] w (PlacePost kscRow u w) := by
  go_enter Try.func60, Try.ntmps60
  go_wp2_with (go_at_call 38; refine (refksc_Place _ _).mono ?_; rintro e w2 ⟨a, b, ok, rfl, hp, hb2⟩)
  go_ret3
  exact ⟨a, b, ok, rfl, hp, hb2⟩
end Go.Proofs.Ytekiblpefdnfhaa
