/- The walks of the reference of layer gb: list, digit, Scalar, Place. -/
import Derived.Test.YtekiblpefdnfhaaProg
import Derived.Test.YtekiblpefdnfhaaTabs
import Derived.Test.YtekiblpefdnfhaaWords
import Derived.Test.YtekiblpefdnfhaaHex
import Derived.Lib.Hide
import Derived.Deep.QuietTactic
import Derived.BigQuiet
namespace Go.Proofs.Ytekiblpefdnfhaa
open Go.RowKit
set_option maxRecDepth 100000
theorem refgb_list_1 (w : World) : Calls Try.prog 53 #[.int .i64 1] w fun e w' => e = .returned (.string (hexBytes gb1)) ∧ w = w' := by
  go_enter Try.func53, Try.ntmps53
  go_wp2_with fail
  go_ret
  exact ⟨by kernel_rfl, rfl⟩
theorem refgb_list_2 (w : World) : Calls Try.prog 53 #[.int .i64 2] w fun e w' => e = .returned (.string (hexBytes gb2)) ∧ w = w' := by
  go_enter Try.func53, Try.ntmps53
  go_wp2_with fail
  go_ret
  exact ⟨by kernel_rfl, rfl⟩
theorem refgb_list_3 (w : World) : Calls Try.prog 53 #[.int .i64 3] w fun e w' => e = .returned (.string (hexBytes gb3)) ∧ w = w' := by
  go_enter Try.func53, Try.ntmps53
  go_wp2_with fail
  go_ret
  exact ⟨by kernel_rfl, rfl⟩
theorem refgb_list_4 (w : World) : Calls Try.prog 53 #[.int .i64 4] w fun e w' => e = .returned (.string (hexBytes gb4)) ∧ w = w' := by
  go_enter Try.func53, Try.ntmps53
  go_wp2_with fail
  go_ret
  exact ⟨by kernel_rfl, rfl⟩
theorem refgb_list_5 (w : World) : Calls Try.prog 53 #[.int .i64 5] w fun e w' => e = .returned (.string (hexBytes gb5)) ∧ w = w' := by
  go_enter Try.func53, Try.ntmps53
  go_wp2_with fail
  go_ret
  exact ⟨by kernel_rfl, rfl⟩
theorem refgb_list_6 (w : World) : Calls Try.prog 53 #[.int .i64 6] w fun e w' => e = .returned (.string (hexBytes gb6)) ∧ w = w' := by
  go_enter Try.func53, Try.ntmps53
  go_wp2_with fail
  go_ret
  exact ⟨by kernel_rfl, rfl⟩
theorem refgb_list_7 (w : World) : Calls Try.prog 53 #[.int .i64 7] w fun e w' => e = .returned (.string (hexBytes gb7)) ∧ w = w' := by
  go_enter Try.func53, Try.ntmps53
  go_wp2_with fail
  go_ret
  exact ⟨by kernel_rfl, rfl⟩
theorem refgb_list_8 (w : World) : Calls Try.prog 53 #[.int .i64 8] w fun e w' => e = .returned (.string (hexBytes gb8)) ∧ w = w' := by
  go_enter Try.func53, Try.ntmps53
  go_wp2_with fail
  go_ret
  exact ⟨by kernel_rfl, rfl⟩
theorem refgb_list_9 (w : World) : Calls Try.prog 53 #[.int .i64 9] w fun e w' => e = .returned (.string (hexBytes gb9)) ∧ w = w' := by
  go_enter Try.func53, Try.ntmps53
  go_wp2_with fail
  go_ret
  exact ⟨by kernel_rfl, rfl⟩
theorem refgb_list_16 (w : World) : Calls Try.prog 53 #[.int .i64 16] w fun e w' => e = .returned (.string (hexBytes gb16)) ∧ w = w' := by
  go_enter Try.func53, Try.ntmps53
  go_wp2_with fail
  go_ret
  exact ⟨by kernel_rfl, rfl⟩
theorem refgb_list_nil (r : Int) (h : gbRow r = []) (w : World) : Calls Try.prog 53 #[.int .i64 r] w fun e w' => e = .returned (.string ⟨#[]⟩) ∧ w = w' := by
  rcases gbRow_cases r with ⟨_, h0⟩ | ⟨_, h0⟩ | ⟨_, h0⟩ | ⟨_, h0⟩ | ⟨_, h0⟩ | ⟨_, h0⟩ | ⟨_, h0⟩ | ⟨_, h0⟩ | ⟨_, h0⟩ | ⟨_, h0⟩ | ⟨_, h1, h2, h3, h4, h5, h6, h7, h8, h9, h16⟩
  · rw [h0] at h; exact absurd h (by decide)
  · rw [h0] at h; exact absurd h (by decide)
  · rw [h0] at h; exact absurd h (by decide)
  · rw [h0] at h; exact absurd h (by decide)
  · rw [h0] at h; exact absurd h (by decide)
  · rw [h0] at h; exact absurd h (by decide)
  · rw [h0] at h; exact absurd h (by decide)
  · rw [h0] at h; exact absurd h (by decide)
  · rw [h0] at h; exact absurd h (by decide)
  · rw [h0] at h; exact absurd h (by decide)
  · clear h
    have g1 : (r == 1) = false := by simp [h1]
    have g2 : (r == 2) = false := by simp [h2]
    have g3 : (r == 3) = false := by simp [h3]
    have g4 : (r == 4) = false := by simp [h4]
    have g5 : (r == 5) = false := by simp [h5]
    have g6 : (r == 6) = false := by simp [h6]
    have g7 : (r == 7) = false := by simp [h7]
    have g8 : (r == 8) = false := by simp [h8]
    have g9 : (r == 9) = false := by simp [h9]
    have g16 : (r == 16) = false := by simp [h16]
    clear h1 h2 h3 h4 h5 h6 h7 h8 h9 h16
    go_enter Try.func53, Try.ntmps53
    go_wp2_with fail
    go_ret
    exact ⟨rfl, rfl⟩
theorem refgb_list_at (r : Int) (h : gbRow r ≠ []) (w : World) : Calls Try.prog 53 #[.int .i64 r] w fun e w' => e = .returned (.string (hexBytes (gbRow r))) ∧ w = w' := by
  rcases gbRow_cases r with ⟨rfl, h0⟩ | ⟨rfl, h0⟩ | ⟨rfl, h0⟩ | ⟨rfl, h0⟩ | ⟨rfl, h0⟩ | ⟨rfl, h0⟩ | ⟨rfl, h0⟩ | ⟨rfl, h0⟩ | ⟨rfl, h0⟩ | ⟨rfl, h0⟩ | ⟨h0, _⟩
  · rw [h0]; exact refgb_list_1 w
  · rw [h0]; exact refgb_list_2 w
  · rw [h0]; exact refgb_list_3 w
  · rw [h0]; exact refgb_list_4 w
  · rw [h0]; exact refgb_list_5 w
  · rw [h0]; exact refgb_list_6 w
  · rw [h0]; exact refgb_list_7 w
  · rw [h0]; exact refgb_list_8 w
  · rw [h0]; exact refgb_list_9 w
  · rw [h0]; exact refgb_list_16 w
  · exact absurd h0 h
theorem refgb_digit (n : Int) (h : IsHex n) (w : World) : Calls Try.prog 54 #[.int .u8 n] w fun e w' => e = .returned (.int .i32 (digI n)) ∧ w' = w := by
  rcases h with h | h
  · have e : digI n = n - 48 := by unfold digI; rw [if_neg (by omega)]
    rw [e]; clear e
    obtain ⟨h1, h2⟩ := h
    go_enter Try.func54, Try.ntmps54
    go_wp2
    go_ret
    exact ⟨rfl, rfl⟩
  · have e : digI n = n - 65 + 10 := by unfold digI; rw [if_pos (by omega)]; omega
    rw [e]; clear e
    obtain ⟨h1, h2⟩ := h
    go_enter Try.func54, Try.ntmps54
    go_wp2
    go_ret
    exact ⟨rfl, rfl⟩
/-- the number that four digits' bytes make -/
theorem refgb_Scalar_in (r d0 d1 d2 d3 : Int) (ok : Bool) (j : Nat) (s t : ByteArray) (hj : j < 94) (hne : s.toList.isEmpty = false)
    (hsl : ∀ w, (Instr.slice 9 (.string s) (some (.int .i64 (4 * (j : Int)))) none none).run Try.prog w = .ok (.string t) w)
    (hx0 : ∀ w, (Instr.index 9 (.string t) (.int .i64 0)).run Try.prog w = .ok (.int .u8 d0) w)
    (hx1 : ∀ w, (Instr.index 9 (.string t) (.int .i64 1)).run Try.prog w = .ok (.int .u8 d1) w)
    (hx2 : ∀ w, (Instr.index 9 (.string t) (.int .i64 2)).run Try.prog w = .ok (.int .u8 d2) w)
    (hx3 : ∀ w, (Instr.index 9 (.string t) (.int .i64 3)).run Try.prog w = .ok (.int .u8 d3) w)
    (i0 : IsHex d0) (i1 : IsHex d1) (i2 : IsHex d2) (i3 : IsHex d3)
    (hlist : ∀ w, Calls Try.prog 53 #[.int .i64 r] w fun e w' => e = .returned (.string s) ∧ w = w')
    (hx : (4096 * digI d0 + 256 * digI d1 + 16 * digI d2 + digI d3 == 65533) = !ok) (w : World) : Calls Try.prog 29 #[.int .i64 r, .int .i64 ((j : Int) + 1)] w fun e w' =>
    e = .returned (.tuple #[.int .i32 (if ok = true then 4096 * digI d0 + 256 * digI d1 + 16 * digI d2 + digI d3 else 0), .bool ok]) ∧ ∃ n, w' = w.drewN n := by
  have b0 := digI_bound i0
  have b1 := digI_bound i1
  have b2 := digI_bound i2
  have b3 := digI_bound i3
  have I0 := Lib.hid i0
  have I1 := Lib.hid i1
  have I2 := Lib.hid i2
  have I3 := Lib.hid i3
  have HL := Lib.hid hlist
  clear i0 i1 i2 i3 hlist
  cases ok
  all_goals
    simp only [Bool.not_true, Bool.not_false] at hx
    go_enter Try.func29, Try.ntmps29
    go_wp2_with (go_at_call 53; refine (HL.out _).mono ?_; rintro e w' ⟨rfl, rfl⟩)
    go_quiet ((go_at_call 54; exact Calls.quiet_of_same (refgb_digit _ (by first | exact I0.out | exact I1.out | exact I2.out | exact I3.out) _)))
    go_wp2_with fail
    go_ret2
    exact ⟨rfl, _, rfl⟩

theorem refgb_Scalar_nil (r c : Int) (h : gbRow r = []) (w : World) : Calls Try.prog 29 #[.int .i64 r, .int .i64 c] w fun e w' => e = .returned (.tuple #[.int .i32 0, .bool false]) ∧ ∃ n, w' = w.drewN n := by
  have H := Lib.hid h
  clear h
  go_enter Try.func29, Try.ntmps29
  go_wp2_with (go_at_call 53; refine (refgb_list_nil r H.out _).mono ?_; rintro e w' ⟨rfl, rfl⟩)
  go_ret2
  exact ⟨rfl, 0, rfl⟩
theorem refgb_Scalar_out (r c : Int) (s : ByteArray) (hne : s.toList.isEmpty = false) (hlist : ∀ w, Calls Try.prog 53 #[.int .i64 r] w fun e w' => e = .returned (.string s) ∧ w = w')
    (hc : c < 1 ∨ 94 < c) (w : World) : Calls Try.prog 29 #[.int .i64 r, .int .i64 c] w fun e w' => e = .returned (.tuple #[.int .i32 0, .bool false]) ∧ ∃ n, w' = w.drewN n := by
  have HL := Lib.hid hlist
  clear hlist
  rcases hc with hc | hc
  all_goals
    go_enter Try.func29, Try.ntmps29
    go_wp2_with (go_at_call 53; refine (HL.out _).mono ?_; rintro e w' ⟨rfl, rfl⟩)
    all_goals
      go_ret2
      exact ⟨rfl, 0, rfl⟩

/-- Scalar of the reference, of any row and cell -/
theorem refgb_Scalar (r c : Int) (w : World) : Calls Try.prog 29 #[.int .i64 r, .int .i64 c] w fun e w' =>
    e = .returned (.tuple #[.int .i32 (scal (gbRow r) c), .bool (has (gbRow r) c)]) ∧ ∃ n, w' = w.drewN n := by
  by_cases h : gbRow r = []
  · rw [h, has_nil, scal_not (has_nil c)]; exact refgb_Scalar_nil r c h w
  have hx := hexOf _ (gbRow_fits r)
  have hL := gbRow_len r h
  have hl := fun w => refgb_list_at r h w
  have hsz : (hexBytes (gbRow r)).size = 376 := by rw [hx.size, hL]
  have hne : (hexBytes (gbRow r)).toList.isEmpty = false := isEmpty_of_size (by rw [hsz]; decide)
  by_cases h1 : c < 1 ∨ 94 < c
  · have hh : has (gbRow r) c = false := by
      rw [Bool.eq_false_iff]; intro h2; have := has_iff.1 h2; omega
    rw [hh, scal_not hh]; exact refgb_Scalar_out r c _ hne hl h1 w
  obtain ⟨j, rfl⟩ : ∃ j : Nat, c = (j : Int) + 1 := ⟨(c - 1).toNat, by omega⟩
  have ej : ((j : Int) + 1 - 1).toNat = j := by omega
  have hj : j < 94 := by omega
  obtain ⟨i0, i1, i2, i3, hv⟩ := hx.at_ j (by rw [hL]; exact hj)
  have ht : ((hexBytes (gbRow r)).extract (4 * j) (hexBytes (gbRow r)).size).size = 376 - 4 * j := by rw [size_extract_end, hsz]
  have ix (i : Nat) (hi : i < 4) : ∀ w, (Instr.index 9 (.string ((hexBytes (gbRow r)).extract (4 * j) (hexBytes (gbRow r)).size)) (.int .i64 (i : Int))).run Try.prog w = .ok (.int .u8 (bI (hexBytes (gbRow r)) (4 * j + i))) w := by
    intro w
    rw [← bI_extract]
    exact run_index_bI _ _ _ Try.underlying9 (by rw [ht]; omega) w
  have key := refgb_Scalar_in r _ _ _ _ (decide ((gbRow r).getD j 0 ≠ 65533)) j _ _ hj hne (fun w => by have := run_slice_end (P := Try.prog) 9 (hexBytes (gbRow r)) (4 * j) Try.underlying9 (by rw [hsz]; omega) w; simpa using this)
    (ix 0 (by omega)) (ix 1 (by omega)) (ix 2 (by omega)) (ix 3 (by omega)) i0 i1 i2 i3 hl
    (by simp only [Nat.add_zero]; rw [hv]; exact beq_not_decide _) w
  simp only [Nat.add_zero] at key
  rw [hv] at key
  by_cases hq : (gbRow r).getD j 0 = 65533
  · have hh : has (gbRow r) ((j : Int) + 1) = false := by
      rw [Bool.eq_false_iff]; intro h2; have := (has_iff.1 h2).2.2.2; rw [ej] at this; exact this hq
    rw [hh, scal_not hh]; rw [decide_eq_false (fun h => h hq), if_neg (by decide)] at key; exact key
  · have hh : has (gbRow r) ((j : Int) + 1) = true := has_iff.2 ⟨h, by omega, by omega, by rw [ej]; exact hq⟩
    rw [hh, scal_has hh, ej]; rw [decide_eq_true hq, if_pos rfl] at key; exact key

set_option maxHeartbeats 1000000 in
/-- Place of the reference, of any scalar -/
theorem refgb_Place (u : Int) (w : World) : Calls Try.prog 31 #[.int .i32 u] w (PlacePost gbRow u w) := by
  by_cases hu : u = 65533 ∨ u < 0 ∨ 65535 < u
  · have fin : ∀ w', Below w.heap.size w w' → PlacePost gbRow u w (.returned (.tuple #[.int .i64 0, .int .i64 0, .bool false])) w' := fun w' hb => ⟨0, 0, false, rfl, by
      rcases hu with rfl | hu
      · exact IsPlace.missing _
      · exact IsPlace.out gbRow_fits hu, hb⟩
    have Fin := Lib.hid fin
    clear fin
    rcases hu with rfl | hu | hu
    · go_enter Try.func31, Try.ntmps31
      go_wp2_with fail
      go_ret3
      exact Fin.out _ (Below.refl _ _)
    all_goals
      have hu' : (u == 65533) = false := by simp; omega
      go_enter Try.func31, Try.ntmps31
      go_wp2_with fail
      all_goals
        go_ret3
        exact Fin.out _ (Below.refl _ _)
  · have hu' : (u == 65533) = false := by simp; omega
    have hu0 : 0 ≤ u := by omega
    have hu1 : u ≤ 65535 := by omega
    have HU := Lib.hid (show u ≠ 65533 from by omega)
    clear hu
    go_enter Try.func31, Try.ntmps31
    go_wp2_with fail
    go_loopw [5] (fun i wr => ∃ k : Nat, k ≤ 94 ∧ i = .int .i64 ((k : Int) + 1) ∧ NoneTo gbRow u k ∧ Below w.heap.size w wr) (fun i _ => 95 - (intOf i).toNat)
    case atStart => exact ⟨0, by omega, rfl, NoneTo.zero _ _, Below.refl _ _⟩
    case round =>
      obtain ⟨k, hk, rfl, hn, hb⟩ := hrel
      by_cases hlt : k < 94
      · by_cases h : gbRow ((k : Int) + 1) = []
        · have H := Lib.hid h
          clear h
          go_wp2_with (go_at_call 53; refine (refgb_list_nil _ H.out _).mono ?_; rintro e w' ⟨rfl, rfl⟩)
          go_roundw
          case rel => exact ⟨k + 1, by omega, by go_num, hn.step (NoneIn.empty (by have := H.out; exact_mod_cast this) 94), hb⟩
          case measure => simp [intOf]; omega
        · have hne : (hexBytes (gbRow ((k : Int) + 1))).toList.isEmpty = false := isEmpty_of_size (by rw [(hexOf _ (gbRow_fits _)).size, gbRow_len _ h]; decide)
          have HH := Lib.hid h
          clear h
          go_wp2_with (go_at_call 53; refine (refgb_list_at _ HH.out _).mono ?_; rintro e w' ⟨rfl, rfl⟩)
          go_loopw [6] (fun i wi => ∃ j : Nat, j ≤ 94 ∧ i = .int .i64 ((j : Int) + 1) ∧ NoneIn gbRow u (k + 1 : Nat) j ∧ Below w.heap.size w wi) (fun i _ => 95 - (intOf i).toNat)
          case atStart => exact ⟨0, by omega, rfl, NoneIn.zero _ _ _, hb⟩
          case round =>
            obtain ⟨j, hj, rfl, hi, hbi⟩ := hrel
            clear hne hb
            by_cases hjl : j < 94
            · by_cases hs : Stands gbRow ((k : Int) + 1) ((j : Int) + 1) u
              · have hh := hs.1
                have hv := hs.2
                have ht : (scal (gbRow ((k : Int) + 1)) ((j : Int) + 1) == u) = true := by simp [hv]
                have HS := Lib.hid hs
                clear hs hv
                go_wp2_with (go_at_call 29; refine (refgb_Scalar _ _ _).mono ?_; rintro e w' ⟨rfl, nq, rfl⟩)
                go_ret3
                exact ⟨_, _, _, rfl, by have := hn.hit hi hlt hjl (by have := HS.out; exact_mod_cast this); exact_mod_cast this, below_drewN hbi _⟩
              · have HS := Lib.hid (show ¬ Stands gbRow ((k + 1 : Nat) : Int) ((j + 1 : Nat) : Int) u from by exact_mod_cast hs)
                by_cases hh : has (gbRow ((k : Int) + 1)) ((j : Int) + 1) = true
                · have ht : (scal (gbRow ((k : Int) + 1)) ((j : Int) + 1) == u) = false := by
                    rw [beq_eq_false_iff_ne]; exact fun hv => hs ⟨hh, hv⟩
                  clear hs
                  go_wp2_with (go_at_call 29; refine (refgb_Scalar _ _ _).mono ?_; rintro e w' ⟨rfl, nq, rfl⟩)
                  go_roundw
                  case rel => exact ⟨j + 1, by omega, by go_num, hi.step HS.out, below_drewN hbi _⟩
                  case measure => simp [intOf]; omega
                · have hh' : has (gbRow ((k : Int) + 1)) ((j : Int) + 1) = false := by simpa using hh
                  clear hs hh
                  go_wp2_with (go_at_call 29; refine (refgb_Scalar _ _ _).mono ?_; rintro e w' ⟨rfl, nq, rfl⟩)
                  go_roundw
                  case rel => exact ⟨j + 1, by omega, by go_num, hi.step HS.out, below_drewN hbi _⟩
                  case measure => simp [intOf]; omega
            · have hge : (94 : Int) ≤ j := by omega
              go_wp2_with fail
              go_roundw
              case rel => exact ⟨k + 1, by omega, by go_num, hn.step (by have e : j = 94 := by omega
                                                                         rw [← e]; exact hi), hbi⟩
              case measure => simp [intOf]; omega
      · have hge : (94 : Int) ≤ k := by omega
        go_wp2_with fail
        go_ret3
        exact ⟨0, 0, false, rfl, NoneTo.end_ (by have e : k = 94 := by omega
                                                 rw [← e]; exact hn), hb⟩
end Go.Proofs.Ytekiblpefdnfhaa
