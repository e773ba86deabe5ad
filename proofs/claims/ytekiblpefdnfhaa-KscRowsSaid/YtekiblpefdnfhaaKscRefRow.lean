/- The walk of the reference's Row of layer ksc. -/
import Derived.Test.YtekiblpefdnfhaaKscRef
import Derived.Deep.RegionHeld3
import Derived.Deep.AppendLies
namespace Go.Proofs.Ytekiblpefdnfhaa
open Go.RowKit
set_option maxRecDepth 100000
set_option linter.unusedSimpArgs false

theorem refksc_info : (Try.prog.info? 21).map (fun i => (i.zero, i.size, i.bytes)) = some (some (.int .i32 0), 1, 4) := by kernel_rfl

set_option maxHeartbeats 4000000 in
theorem refksc_Row_of (r : Int) (L : List Int) (s : ByteArray) (hN : L.length ≤ 94) (hex : HexOf s L)
    (hlist : ∀ w, Calls Try.prog 56 #[.int .i64 r] w fun e w' => e = .returned (.string s) ∧ w = w') (w : World) :
    Calls Try.prog 34 #[.int .i64 r] w (RowPost 21 L w) := by
  obtain ⟨i0, hi, hz0, hz1, hz2⟩ := info_parts refksc_info
  have HL := Lib.hid hlist
  have HX := Lib.hid hex
  have hs1 : (s.size : Int) ≤ 4 * (L.length : Int) := by have := hex.size; omega
  have hs2 : 4 * (L.length : Int) ≤ (s.size : Int) := by have := hex.size; omega
  obtain ⟨N, hNe⟩ : ∃ N, L.length = N := ⟨_, rfl⟩
  rw [hNe] at hs1 hs2 hN
  have HN := Lib.hid hNe
  clear hlist hex hNe
  go_enter Try.func34, Try.ntmps34
  go_wp2_with (go_at_call 56; refine (HL.out _).mono ?_; rintro e w' ⟨rfl, rfl⟩)
  go_loopw [4, 5] (fun v i wr => ∃ k : Nat, k ≤ N ∧ i = .int .i64 (4 * (k : Int)) ∧ wr.ownsRow w.heap.size 21 1 v k ((L.map (Value.int .i32)).take k) ∧ Below w.heap.size w wr ∧ (k = 0 → v = .slice none 0 0)) (fun _ i _ => 4 * N - (intOf i).toNat)
  case atStart => exact ⟨0, by omega, rfl, by simpa using World.ownsRow_nil _ _ _ _, Below.refl _ _, fun _ => rfl⟩
  case round =>
    obtain ⟨k, hk, rfl, hown, hb, hnil⟩ := hrel
    by_cases hlt : k < N
    · obtain ⟨i0', i1', i2', i3', hv⟩ := HX.out.at_ k (by rw [HN.out]; exact hlt)
      have hx0 : ∀ w, (Instr.index 9 (.string s) (.int .i64 (4 * (k : Int)))).run Try.prog w = .ok (.int .u8 (bI s (4 * k))) w := fun w => by
        have := run_index_bI (P := Try.prog) 9 s (4 * k) Try.underlying9 (by omega) w
        simpa using this
      have hx1 : ∀ w, (Instr.index 9 (.string s) (.int .i64 (4 * (k : Int) + 1))).run Try.prog w = .ok (.int .u8 (bI s (4 * k + 1))) w := fun w => by
        have := run_index_bI (P := Try.prog) 9 s (4 * k + 1) Try.underlying9 (by omega) w
        simpa using this
      have hx2 : ∀ w, (Instr.index 9 (.string s) (.int .i64 (4 * (k : Int) + 2))).run Try.prog w = .ok (.int .u8 (bI s (4 * k + 2))) w := fun w => by
        have := run_index_bI (P := Try.prog) 9 s (4 * k + 2) Try.underlying9 (by omega) w
        simpa using this
      have hx3 : ∀ w, (Instr.index 9 (.string s) (.int .i64 (4 * (k : Int) + 3))).run Try.prog w = .ok (.int .u8 (bI s (4 * k + 3))) w := fun w => by
        have := run_index_bI (P := Try.prog) 9 s (4 * k + 3) Try.underlying9 (by omega) w
        simpa using this
      generalize bI s (4 * k) = d0 at *
      generalize bI s (4 * k + 1) = d1 at *
      generalize bI s (4 * k + 2) = d2 at *
      generalize bI s (4 * k + 3) = d3 at *
      have b0 := digI_bound i0'
      have b1 := digI_bound i1'
      have b2 := digI_bound i2'
      have b3 := digI_bound i3'
      have I0 := Lib.hid i0'
      have I1 := Lib.hid i1'
      have I2 := Lib.hid i2'
      have I3 := Lib.hid i3'
      have HV := Lib.hid hv
      have HNil := Lib.hid hnil
      clear i0' i1' i2' i3' hv hnil
      go_wp2_with fail
      have hw1 : IntKind.i64.wrap (4 * (k : Int) + 1) = 4 * (k : Int) + 1 := IntWalk.i64_in _ (by omega)
      have hw2 : IntKind.i64.wrap (4 * (k : Int) + 2) = 4 * (k : Int) + 2 := IntWalk.i64_in _ (by omega)
      have hw3 : IntKind.i64.wrap (4 * (k : Int) + 3) = 4 * (k : Int) + 3 := IntWalk.i64_in _ (by omega)
      have v0 : IntKind.i32.wrap (4096 * digI d0) = 4096 * digI d0 := IntWalk.i32_in _ (by omega)
      have v1 : IntKind.i32.wrap (256 * digI d1) = 256 * digI d1 := IntWalk.i32_in _ (by omega)
      have v2 : IntKind.i32.wrap (16 * digI d2) = 16 * digI d2 := IntWalk.i32_in _ (by omega)
      have v3 : IntKind.i32.wrap (4096 * digI d0 + 256 * digI d1) = 4096 * digI d0 + 256 * digI d1 := IntWalk.i32_in _ (by omega)
      have v4 : IntKind.i32.wrap (4096 * digI d0 + 256 * digI d1 + 16 * digI d2) = 4096 * digI d0 + 256 * digI d1 + 16 * digI d2 := IntWalk.i32_in _ (by omega)
      have v5 : IntKind.i32.wrap (4096 * digI d0 + 256 * digI d1 + 16 * digI d2 + digI d3) = 4096 * digI d0 + 256 * digI d1 + 16 * digI d2 + digI d3 := IntWalk.i32_in _ (by omega)
      refine wp_region_noPanic ?_
      refine wp_region_held_drew (S := fun _ => True) (by kernel_rfl) trivial (fun _ => ?_)
      refine wpAnyH_take (i := 0) (v := ?_) rfl (by kernel_rfl) (by kernel_rfl) (by kernel_rfl) (fun _ _ _ h => h) (Or.inl ⟨by rfl, ?_⟩) trivial ?_
      rotate_left
      · (intro wq _; go_simp <;> with_reducible rfl)
      (try simp only [Act.put, List.setIfInBounds_toArray, List.set_cons_zero, List.set_cons_succ])
      refine wpAnyH_take (i := 1) (v := ?_) rfl (by kernel_rfl) (by kernel_rfl) (by kernel_rfl) (fun _ _ _ h => h) (Or.inl ⟨by rfl, ?_⟩) trivial ?_
      rotate_left
      · (intro wq _; go_simp <;> with_reducible rfl)
      (try simp only [Act.put, List.setIfInBounds_toArray, List.set_cons_zero, List.set_cons_succ])
      refine wpAnyH_take (i := 2) (v := ?_) rfl (by kernel_rfl) (by kernel_rfl) (by kernel_rfl) (fun _ _ _ h => h) (Or.inl ⟨by rfl, ?_⟩) trivial ?_
      rotate_left
      · (intro wq _; go_simp <;> with_reducible rfl)
      (try simp only [Act.put, List.setIfInBounds_toArray, List.set_cons_zero, List.set_cons_succ])
      refine wpAnyH_take (i := 3) (v := ?_) rfl (by kernel_rfl) (by kernel_rfl) (by kernel_rfl) (fun _ _ _ h => h) (Or.inl ⟨by rfl, ?_⟩) trivial ?_
      rotate_left
      · (intro wq _; go_simp <;> with_reducible rfl)
      (try simp only [Act.put, List.setIfInBounds_toArray, List.set_cons_zero, List.set_cons_succ])
      refine wpAnyH_take (i := 6) (v := ?_) rfl (by kernel_rfl) (by kernel_rfl) (by kernel_rfl) (fun _ _ _ h => h) (Or.inl ⟨by rfl, ?_⟩) trivial ?_
      rotate_left
      · (intro wq _; go_simp <;> with_reducible rfl)
      (try simp only [Act.put, List.setIfInBounds_toArray, List.set_cons_zero, List.set_cons_succ])
      refine wpAnyH_take (i := 7) (v := ?_) rfl (by kernel_rfl) (by kernel_rfl) (by kernel_rfl) (fun _ _ _ h => h) (Or.inl ⟨by rfl, ?_⟩) trivial ?_
      rotate_left
      · (intro wq _; go_simp <;> with_reducible rfl)
      (try simp only [Act.put, List.setIfInBounds_toArray, List.set_cons_zero, List.set_cons_succ])
      refine wpAnyH_take (i := 8) (v := ?_) rfl (by kernel_rfl) (by kernel_rfl) (by kernel_rfl) (fun _ _ _ h => h) (Or.inl ⟨by rfl, ?_⟩) trivial ?_
      rotate_left
      · (intro wq _; go_simp <;> with_reducible rfl)
      (try simp only [Act.put, List.setIfInBounds_toArray, List.set_cons_zero, List.set_cons_succ])
      refine wpAnyH_take (i := 9) (v := ?_) rfl (by kernel_rfl) (by kernel_rfl) (by kernel_rfl) (fun _ _ _ h => h) (Or.inl ⟨by rfl, ?_⟩) trivial ?_
      rotate_left
      · (intro wq _; go_simp <;> with_reducible rfl)
      (try simp only [Act.put, List.setIfInBounds_toArray, List.set_cons_zero, List.set_cons_succ])
      refine wpAnyH_take (i := 13) (v := ?_) rfl (by kernel_rfl) (by kernel_rfl) (by kernel_rfl) (fun _ _ _ h => h) (Or.inl ⟨by rfl, ?_⟩) trivial ?_
      rotate_left
      · (intro wq _; go_simp <;> with_reducible rfl)
      (try simp only [Act.put, List.setIfInBounds_toArray, List.set_cons_zero, List.set_cons_succ])
      refine wpAnyH_take (i := 14) (v := ?_) rfl (by kernel_rfl) (by kernel_rfl) (by kernel_rfl) (fun _ _ _ h => h) (Or.inl ⟨by rfl, ?_⟩) trivial ?_
      rotate_left
      · (intro wq _; go_simp <;> with_reducible rfl)
      (try simp only [Act.put, List.setIfInBounds_toArray, List.set_cons_zero, List.set_cons_succ])
      refine wpAnyH_take (i := 15) (v := ?_) rfl (by kernel_rfl) (by kernel_rfl) (by kernel_rfl) (fun _ _ _ h => h) (Or.inl ⟨by rfl, ?_⟩) trivial ?_
      rotate_left
      · (intro wq _; go_simp <;> with_reducible rfl)
      (try simp only [Act.put, List.setIfInBounds_toArray, List.set_cons_zero, List.set_cons_succ])
      refine wpAnyH_take (i := 16) (v := ?_) rfl (by kernel_rfl) (by kernel_rfl) (by kernel_rfl) (fun _ _ _ h => h) (Or.inl ⟨by rfl, ?_⟩) trivial ?_
      rotate_left
      · (intro wq _; go_simp <;> with_reducible rfl)
      (try simp only [Act.put, List.setIfInBounds_toArray, List.set_cons_zero, List.set_cons_succ])
      refine wpAnyH_take (i := 20) (v := ?_) rfl (by kernel_rfl) (by kernel_rfl) (by kernel_rfl) (fun _ _ _ h => h) (Or.inl ⟨by rfl, ?_⟩) trivial ?_
      rotate_left
      · (intro wq _; go_simp <;> with_reducible rfl)
      (try simp only [Act.put, List.setIfInBounds_toArray, List.set_cons_zero, List.set_cons_succ])
      refine wpAnyH_take (i := 21) (v := ?_) rfl (by kernel_rfl) (by kernel_rfl) (by kernel_rfl) (fun _ _ _ h => h) (Or.inl ⟨by rfl, ?_⟩) trivial ?_
      rotate_left
      · (intro wq _; go_simp <;> with_reducible rfl)
      (try simp only [Act.put, List.setIfInBounds_toArray, List.set_cons_zero, List.set_cons_succ])
      refine wpAnyH_take (i := 22) (v := ?_) rfl (by kernel_rfl) (by kernel_rfl) (by kernel_rfl) (fun _ _ _ h => h) (Or.inl ⟨by rfl, ?_⟩) trivial ?_
      rotate_left
      · (intro wq _; go_simp <;> with_reducible rfl)
      (try simp only [Act.put, List.setIfInBounds_toArray, List.set_cons_zero, List.set_cons_succ])
      refine wpAnyH_take (i := 23) (v := ?_) rfl (by kernel_rfl) (by kernel_rfl) (by kernel_rfl) (fun _ _ _ h => h) (Or.inl ⟨by rfl, ?_⟩) trivial ?_
      rotate_left
      · (intro wq _; go_simp <;> with_reducible rfl)
      (try simp only [Act.put, List.setIfInBounds_toArray, List.set_cons_zero, List.set_cons_succ])
      refine wpAnyH_ready (rs := [4]) (by kernel_rfl) (by simp) ?_
      refine AllReadyH.cons (i := 4) rfl (fun K hK => ?_) AllReadyH.nil
      go_simp
      refine (refksc_digit _ (by first | exact I0.out | exact I1.out | exact I2.out | exact I3.out) _).mono ?_; rintro e w' ⟨rfl, rfl⟩
      refine hK.out _ _ trivial (fun _ => ?_)
      clear hK K
      (try simp only [Act.put, List.setIfInBounds_toArray, List.set_cons_zero, List.set_cons_succ])
      refine wpAnyH_take (i := 5) (v := ?_) rfl (by kernel_rfl) (by kernel_rfl) (by kernel_rfl) (fun _ _ _ h => h) (Or.inl ⟨by rfl, ?_⟩) trivial ?_
      rotate_left
      · (intro wq _; go_simp <;> with_reducible rfl)
      (try simp only [Act.put, List.setIfInBounds_toArray, List.set_cons_zero, List.set_cons_succ])
      refine wpAnyH_ready (rs := [10]) (by kernel_rfl) (by simp) ?_
      refine AllReadyH.cons (i := 10) rfl (fun K hK => ?_) AllReadyH.nil
      go_simp
      refine (refksc_digit _ (by first | exact I0.out | exact I1.out | exact I2.out | exact I3.out) _).mono ?_; rintro e w' ⟨rfl, rfl⟩
      refine hK.out _ _ trivial (fun _ => ?_)
      clear hK K
      (try simp only [Act.put, List.setIfInBounds_toArray, List.set_cons_zero, List.set_cons_succ])
      refine wpAnyH_take (i := 11) (v := ?_) rfl (by kernel_rfl) (by kernel_rfl) (by kernel_rfl) (fun _ _ _ h => h) (Or.inl ⟨by rfl, ?_⟩) trivial ?_
      rotate_left
      · (intro wq _; go_simp <;> with_reducible rfl)
      (try simp only [Act.put, List.setIfInBounds_toArray, List.set_cons_zero, List.set_cons_succ])
      refine wpAnyH_take (i := 12) (v := ?_) rfl (by kernel_rfl) (by kernel_rfl) (by kernel_rfl) (fun _ _ _ h => h) (Or.inl ⟨by rfl, ?_⟩) trivial ?_
      rotate_left
      · (intro wq _; go_simp <;> with_reducible rfl)
      (try simp only [Act.put, List.setIfInBounds_toArray, List.set_cons_zero, List.set_cons_succ])
      refine wpAnyH_ready (rs := [17]) (by kernel_rfl) (by simp) ?_
      refine AllReadyH.cons (i := 17) rfl (fun K hK => ?_) AllReadyH.nil
      go_simp
      refine (refksc_digit _ (by first | exact I0.out | exact I1.out | exact I2.out | exact I3.out) _).mono ?_; rintro e w' ⟨rfl, rfl⟩
      refine hK.out _ _ trivial (fun _ => ?_)
      clear hK K
      (try simp only [Act.put, List.setIfInBounds_toArray, List.set_cons_zero, List.set_cons_succ])
      refine wpAnyH_take (i := 18) (v := ?_) rfl (by kernel_rfl) (by kernel_rfl) (by kernel_rfl) (fun _ _ _ h => h) (Or.inl ⟨by rfl, ?_⟩) trivial ?_
      rotate_left
      · (intro wq _; go_simp <;> with_reducible rfl)
      (try simp only [Act.put, List.setIfInBounds_toArray, List.set_cons_zero, List.set_cons_succ])
      refine wpAnyH_take (i := 19) (v := ?_) rfl (by kernel_rfl) (by kernel_rfl) (by kernel_rfl) (fun _ _ _ h => h) (Or.inl ⟨by rfl, ?_⟩) trivial ?_
      rotate_left
      · (intro wq _; go_simp <;> with_reducible rfl)
      (try simp only [Act.put, List.setIfInBounds_toArray, List.set_cons_zero, List.set_cons_succ])
      refine wpAnyH_ready (rs := [24]) (by kernel_rfl) (by simp) ?_
      refine AllReadyH.cons (i := 24) rfl (fun K hK => ?_) AllReadyH.nil
      go_simp
      refine (refksc_digit _ (by first | exact I0.out | exact I1.out | exact I2.out | exact I3.out) _).mono ?_; rintro e w' ⟨rfl, rfl⟩
      refine hK.out _ _ trivial (fun _ => ?_)
      clear hK K
      (try simp only [Act.put, List.setIfInBounds_toArray, List.set_cons_zero, List.set_cons_succ])
      refine wpAnyH_take (i := 25) (v := ?_) rfl (by kernel_rfl) (by kernel_rfl) (by kernel_rfl) (fun _ _ _ h => h) (Or.inl ⟨by rfl, ?_⟩) trivial ?_
      rotate_left
      · (intro wq _; go_simp <;> with_reducible rfl)
      (try simp only [Act.put, List.setIfInBounds_toArray, List.set_cons_zero, List.set_cons_succ])
      refine wpAnyH_ready (rs := [26]) (by kernel_rfl) (by simp) ?_
      refine AllReadyH.cons (i := 26) rfl (fun K hK => ?_) AllReadyH.nil
      go_simp
      refine hK.out _ _ trivial (fun _ => ?_)
      clear hK K
      (try simp only [Act.put, List.setIfInBounds_toArray, List.set_cons_zero, List.set_cons_succ])
      refine wpAnyH_ready (rs := [27]) (by kernel_rfl) (by simp) ?_
      refine AllReadyH.cons (i := 27) rfl (fun K hK => ?_) AllReadyH.nil
      refine step_append_lies _ (by rfl) _ _ _ (by rfl) w.heap.size 21 i0 (.int .i32 0) 1 4 Try.underlying22 hi hz0 hz1 hz2 rfl (by decide) _ _ _ (by rfl) ((hown.alloc _).drew) ⟨wr.heap.size, 0, none⟩ 1 1 [.int .i32 (4096 * digI d0 + 256 * digI d1 + 16 * digI d2 + digI d3)] (by rfl) (by rfl) (World.news_of_block (cs := #[.int .i32 (4096 * digI d0 + 256 * digI d1 + 16 * digI d2 + digI d3)]) (t := 21) (fr := (0, 0)) (heap_alloc_new wr _)) (by simp [Value.oneCell']) (by omega) (by unfold maxLen; omega) (by omega) (by have := hb.size; simp; omega) (wr.heap.size + 1) (by simp) ?_; intro gg cap w1 hown1 hgrow hat hlt1
      refine hK.out _ _ trivial (fun _ => ?_)
      clear hK K
      (try simp only [Act.put, List.setIfInBounds_toArray, List.set_cons_zero, List.set_cons_succ])
      refine wpAnyH_take (i := 28) (v := ?_) rfl (by kernel_rfl) (by kernel_rfl) (by kernel_rfl) (fun _ _ _ h => h) (Or.inl ⟨by rfl, ?_⟩) trivial ?_
      rotate_left
      · (intro wq _; go_simp <;> with_reducible rfl)
      (try simp only [Act.put, List.setIfInBounds_toArray, List.set_cons_zero, List.set_cons_succ])
      refine wpAnyH_done (by kernel_rfl) ?_ _
      refine NoPanic.normal ?_
      have R : w1.ownsRow w.heap.size 21 1 (.slice (some ⟨gg, 0, none⟩) (k + 1) cap) (k + 1) ((L.map (Value.int .i32)).take (k + 1)) := by
        rw [take_snoc_map L k (by rw [HN.out]; exact hlt), ← HV.out]; exact hown1
      have R2 : Below w.heap.size w w1 := ((hb.alloc hb.size _).drew).grown hgrow (by have := hb.size; simp; omega) (fun j hj => by have := (hown.lt j hj).1; omega)
      clear hown1 hgrow hat hlt1 hown hb
      go_wp2_with fail
      go_roundw
      case rel => exact ⟨k + 1, by omega, by go_num, R, R2, fun h => by omega⟩
      case measure => simp [intOf]; omega
    · have hge : N ≤ k := by omega
      have e : k = N := by omega
      have R : wr.ownsRow w.heap.size 21 1 u4 L.length (L.map (Value.int .i32)) := by
        rw [HN.out, ← e]
        have e2 : (L.map (Value.int .i32)).take k = L.map (Value.int .i32) := List.take_of_length_le (by rw [List.length_map, HN.out]; omega)
        rw [e2] at hown
        exact hown
      have R2 := Lib.hid hnil
      have E := Lib.hid e
      clear e hown hnil
      go_wp2_with fail
      go_ret
      exact ⟨_, rfl, R, hb, fun h0 => R2.out (by rw [E.out, ← HN.out, h0]; rfl)⟩

/-- Row of the reference, of any row -/
theorem refksc_Row (r : Int) (w : World) : Calls Try.prog 34 #[.int .i64 r] w (RowPost 21 (kscRow r) w) := by
  by_cases h : kscRow r = []
  · rw [h]
    exact refksc_Row_of r [] ⟨#[]⟩ (by decide) ⟨rfl, fun k hk => by cases hk⟩ (fun w => refksc_list_nil r h w) w
  · exact refksc_Row_of r _ _ (by rw [kscRow_len r h]; decide) (hexOf _ (kscRow_fits r)) (fun w => refksc_list_at r h w) w
end Go.Proofs.Ytekiblpefdnfhaa
