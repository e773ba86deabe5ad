/- The walks of layer ksc: Scalar, Place. -/
import Derived.Test.YtekiblpefdnfhaaKscList
import Derived.Lib.Hide
namespace Go.Proofs.Ytekiblpefdnfhaa
open Go.RowKit
set_option maxRecDepth 100000

theorem ksc_Scalar_nil (r c : Int) (h : kscRow r = []) (w : World) : Calls Try.prog 35 #[.int .i64 r, .int .i64 c] w fun e w' => e = .returned (.tuple #[.int .i32 0, .bool false]) ∧ Below w.heap.size w w' := by
  have H := Lib.hid h
  clear h
  go_enter Try.func35, Try.ntmps35
  go_wp2_with (go_at_call 55; refine (ksc_listOf_nil r H.out _).mono ?_; rintro e w' ⟨rfl, rfl⟩)
  go_ret2
  exact ⟨rfl, Below.refl _ _⟩
theorem ksc_Scalar_low (r c : Int) (h : kscRow r ≠ []) (hc : c < 1) (w : World) : Calls Try.prog 35 #[.int .i64 r, .int .i64 c] w fun e w' => e = .returned (.tuple #[.int .i32 0, .bool false]) ∧ Below w.heap.size w w' := by
  go_enter Try.func35, Try.ntmps35
  go_wp2_with (go_at_call 55; refine (ksc_listOf_at r h _).mono ?_; rintro e w' ⟨rfl, rfl⟩)
  go_ret2
  exact ⟨rfl, by go_grown⟩
theorem ksc_Scalar_high (r c : Int) (h : kscRow r ≠ []) (hc : 94 < c) (w : World) : Calls Try.prog 35 #[.int .i64 r, .int .i64 c] w fun e w' => e = .returned (.tuple #[.int .i32 0, .bool false]) ∧ Below w.heap.size w w' := by
  go_enter Try.func35, Try.ntmps35
  go_wp2_with (go_at_call 55; refine (ksc_listOf_at r h _).mono ?_; rintro e w' ⟨rfl, rfl⟩)
  go_ret2
  exact ⟨rfl, by go_grown⟩
theorem ksc_Scalar_in (r x : Int) (j : Nat) (h : kscRow r ≠ []) (hj : j < 94) (hx : (kscRow r).getD j 0 = x) (w : World) : Calls Try.prog 35 #[.int .i64 r, .int .i64 ((j : Int) + 1)] w fun e w' =>
    e = .returned (.tuple #[.int .i32 (if x = 65533 then 0 else x), .bool (decide (x ≠ 65533))]) ∧ Below w.heap.size w w' := by
  have hL := kscRow_len r h
  have hb := (kscRow_fits r).at_ j
  have hc : (w.alloc (.cells (cellsOf (kscRow r)) 76)).cell? ⟨w.heap.size, j, none⟩ = some (.int .u16 ((kscRow r).getD j 0)) := lies_new (w := w) (t := 76) hL j hj
  rw [hx] at hc hb
  clear hx hL
  by_cases hx : x = 65533
  · subst hx
    go_enter Try.func35, Try.ntmps35
    go_wp2_with (go_at_call 55; refine (ksc_listOf_at r h _).mono ?_; rintro e w' ⟨rfl, rfl⟩)
    go_ret2
    exact ⟨rfl, by go_grown⟩
  · have hx' : (x == 65533) = false := by simp [hx]
    have fin : Value.tuple #[.int .i32 (if x = 65533 then 0 else x), .bool (decide (x ≠ 65533))] = .tuple #[.int .i32 x, .bool true] := by simp [hx]
    rw [fin]
    clear hx fin
    go_enter Try.func35, Try.ntmps35
    go_wp2_with (go_at_call 55; refine (ksc_listOf_at r h _).mono ?_; rintro e w' ⟨rfl, rfl⟩)
    go_ret2
    exact ⟨rfl, by go_grown⟩

/-- Scalar, of any row and cell -/
theorem ksc_Scalar (r c : Int) (w : World) : Calls Try.prog 35 #[.int .i64 r, .int .i64 c] w fun e w' =>
    e = .returned (.tuple #[.int .i32 (scal (kscRow r) c), .bool (has (kscRow r) c)]) ∧ Below w.heap.size w w' := by
  by_cases h : kscRow r = []
  · rw [h, has_nil, scal_not (has_nil c)]; exact ksc_Scalar_nil r c h w
  by_cases h1 : c < 1
  · have hh : has (kscRow r) c = false := by
      rw [Bool.eq_false_iff]; intro h2; have := has_iff.1 h2; omega
    rw [hh, scal_not hh]; exact ksc_Scalar_low r c h h1 w
  by_cases h2 : 94 < c
  · have hh : has (kscRow r) c = false := by
      rw [Bool.eq_false_iff]; intro h2; have := has_iff.1 h2; omega
    rw [hh, scal_not hh]; exact ksc_Scalar_high r c h h2 w
  obtain ⟨j, rfl⟩ : ∃ j : Nat, c = (j : Int) + 1 := ⟨(c - 1).toNat, by omega⟩
  have ej : ((j : Int) + 1 - 1).toNat = j := by omega
  have key := ksc_Scalar_in r _ j h (by omega) rfl w
  by_cases hx : (kscRow r).getD j 0 = 65533
  · have hh : has (kscRow r) ((j : Int) + 1) = false := by
      rw [Bool.eq_false_iff]; intro h2; have := (has_iff.1 h2).2.2.2; rw [ej] at this; exact this hx
    rw [hh, scal_not hh]; rw [if_pos hx, decide_eq_false (by simp only [ne_eq, hx, not_true_eq_false, not_false_eq_true])] at key; exact key
  · have hh : has (kscRow r) ((j : Int) + 1) = true := has_iff.2 ⟨h, by omega, by omega, by rw [ej]; exact hx⟩
    rw [hh, scal_has hh, ej]; rw [if_neg hx, decide_eq_true hx] at key; exact key

set_option maxHeartbeats 1000000 in
/-- Place, of any scalar -/
theorem ksc_Place (u : Int) (w : World) : Calls Try.prog 37 #[.int .i32 u] w (PlacePost kscRow u w) := by
  by_cases hu : u = 65533
  · subst hu
    have fin : ∀ w', Below w.heap.size w w' → PlacePost kscRow 65533 w (.returned (.tuple #[.int .i64 0, .int .i64 0, .bool false])) w' := fun w' hb => ⟨0, 0, false, rfl, IsPlace.missing _, hb⟩
    have Fin := Lib.hid fin
    clear fin
    go_enter Try.func37, Try.ntmps37
    go_wp2_with fail
    go_ret3
    exact Fin.out _ (Below.refl _ _)
  · have hu' : (u == 65533) = false := by simp [hu]
    have HU := Lib.hid hu
    clear hu
    go_enter Try.func37, Try.ntmps37
    go_wp2_with fail
    go_loopw [10] (fun i wr => ∃ k : Nat, k ≤ 94 ∧ i = .int .i64 k ∧ NoneTo kscRow u k ∧ Below w.heap.size w wr) (fun i _ => 94 - (intOf i).toNat)
    case atStart => exact ⟨0, by omega, rfl, NoneTo.zero _ _, Below.refl _ _⟩
    case round =>
      obtain ⟨k, hk, rfl, hn, hb⟩ := hrel
      by_cases hlt : k < 94
      · by_cases h : kscRow ((k : Int) + 1) = []
        · have H := Lib.hid h
          clear h
          go_wp2_with (go_at_call 55; refine (ksc_listOf_nil _ H.out _).mono ?_; rintro e w' ⟨rfl, rfl⟩)
          go_roundw
          case rel => exact ⟨k + 1, by omega, by go_num, hn.step (NoneIn.empty (by have := H.out; exact_mod_cast this) 94), hb⟩
          case measure => simp [intOf]; omega
        · have hL := kscRow_len _ h
          have HF := Lib.hid (fun j : Nat => (kscRow_fits ((k : Int) + 1)).at_ j)
          have HC := Lib.hid (lies_new (w := wr) (t := 76) hL)
          have HH := Lib.hid h
          clear hL h
          go_wp2_with (go_at_call 55; refine (ksc_listOf_at _ HH.out _).mono ?_; rintro e w' ⟨rfl, rfl⟩)
          go_loop [18] (fun i => ∃ j : Nat, j ≤ 94 ∧ i = .int .i64 j ∧ NoneIn kscRow u (k + 1 : Nat) j) (fun i => 94 - (intOf i).toNat)
          case atStart => exact ⟨0, by omega, rfl, NoneIn.zero _ _ _⟩
          case round =>
            obtain ⟨j, hj, rfl, hi⟩ := hrel
            by_cases hjl : j < 94
            · have hc := HC.out j hjl
              have hbd := HF.out j
              have hx : ∃ x, x = (kscRow ((k : Int) + 1)).getD j 0 := ⟨_, rfl⟩
              obtain ⟨x, hx⟩ := hx
              rw [← hx] at hc hbd
              have HX := Lib.hid hx
              clear hx
              by_cases hxu : x = u
              · have ht : (x == u) = true := by simp [hxu]
                have HXU := Lib.hid hxu
                clear hxu
                go_wp2_with fail
                go_ret3
                exact ⟨_, _, _, rfl, hn.hit hi hlt hjl (stands_of (by have := HH.out; exact_mod_cast this) hjl HU.out (by have := HX.out; have h2 := HXU.out; rw [← h2, this]; norm_cast)), hb.alloc hb.size _⟩
              · have ht : (x == u) = false := by simp [hxu]
                have HXU := Lib.hid hxu
                clear hxu
                go_wp2_with fail
                go_round
                case rel => exact ⟨j + 1, by omega, by go_num, hi.step (stands_not (by have := HX.out; have h2 := HXU.out; rw [this] at h2; norm_cast at h2 ⊢))⟩
                case measure => simp [intOf]; omega
            · have hge : (94 : Int) ≤ j := by omega
              go_wp2_with fail
              go_roundw
              case rel => exact ⟨k + 1, by omega, by go_num, hn.step (by have e : j = 94 := by omega
                                                                         rw [← e]; exact hi), hb.alloc hb.size _⟩
              case measure => simp [intOf]; omega
      · have hge : (94 : Int) ≤ k := by omega
        go_wp2_with fail
        go_ret3
        exact ⟨0, 0, false, rfl, NoneTo.end_ (by have e : k = 94 := by omega
                                                 rw [← e]; exact hn), hb⟩
end Go.Proofs.Ytekiblpefdnfhaa
