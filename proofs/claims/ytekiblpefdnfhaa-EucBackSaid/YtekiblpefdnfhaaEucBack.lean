/- The walk of the law EucBack. -/
import Derived.Test.YtekiblpefdnfhaaEucWorks
import Derived.Deep.RegionHeld3
namespace Go.Proofs.Ytekiblpefdnfhaa
open Go.RowKit
set_option maxRecDepth 100000
set_option linter.unusedSimpArgs false
set_option maxHeartbeats 2000000 in
theorem euc_Back_of (kind : Int) (row : Int → List Int) (half : Bool) (which u : Int) (A : Option Addr) (n cap : Nat) (xs : List Int) (w : World) (hn : n ≤ 140737488351232) (hx : IsBytes w A n xs) (hA : A = none → n = 0 ∧ cap = 0)
    (hk : ((#[.int .i64 81, .int .i64 84, .int .i64 86] : Array Value)[(IntKind.u64.wrap which % 3).toNat]? : Option Value) = some (.int .i64 kind))
    (h1 : ∀ A n cap c0 c1 w, Begins w A n c0 c1 → Calls Try.prog 44 #[.int .i64 kind, .slice A n cap] w fun e w' => e = .returned (gotV (getRes row half n c0 c1)) ∧ Below w.heap.size w w')
    (h2 : ∀ u w, Calls Try.prog 42 #[.int .i64 kind, .int .i32 u] w (SetP row half u w)) :
    Calls Try.prog 17 #[.int .i64 which, .int .i32 u, .slice A n cap] w fun e w' => e = .returned (.bool true) ∧ Below w.heap.size w w' := by
  have HG := Lib.hid h1
  have HS := Lib.hid h2
  have HX := Lib.hid hx
  have HA := Lib.hid hA
  have HN := Lib.hid hn
  clear h1 h2 hx hA
  obtain ⟨r, hr⟩ : ∃ r, IntKind.u64.wrap which = r := ⟨_, rfl⟩
  rw [hr] at hk
  have r0 : 0 ≤ r := by rw [← hr, IntKind.wrap_u64]; omega
  obtain ⟨i, hi⟩ : ∃ i : Nat, r % 3 = i := ⟨(r % 3).toNat, by omega⟩
  rw [hi, Int.toNat_natCast] at hk
  have hi3 : (i : Int) < 3 := by omega
  have hi3' : i < 3 := by omega
  have htm : r.tmod 3 = i := by rw [Int.tmod_eq_emod_of_nonneg r0]; exact hi
  have hw : wrap64 (i : Int) = i := IntWalk.wrap64_in _ (by omega)
  have hk2 : ∀ h : i < ([.int .i64 81, .int .i64 84, .int .i64 86] : List Value).length, ([.int .i64 81, .int .i64 84, .int .i64 86] : List Value)[i] = .int .i64 kind := fun h => by
    have := hk
    simpa [List.getElem?_eq_getElem, hi3'] using this
  clear r0 hi hk
  go_enter Try.func17, Try.ntmps17
  go_wp2_with fail
  refine (euc_works _).mono ?_
  rintro e w0 ⟨rfl, hb0⟩
  go_wp2_with fail
  refine (HS.out _ _).mono ?_
  rintro e w1 ⟨err, s, hes, rfl, hb1⟩
  go_wp2_with fail
  have B1 : Below w.heap.size w w1 := (hb0.alloc hb0.size _).trans (hb1.mono (by have := hb0.size; simp; omega))
  obtain ⟨P, hP⟩ : ∃ P, P = w1.heap.size := ⟨_, rfl⟩
  have B2 : Below w.heap.size w (w1.alloc (.cells #[.int .i64 err, .string s, .int .i64 0, .int .i64 0, .int .u32 0, .int .i32 0] 43)).drew := (B1.alloc B1.size _).drew
  have P0 : (w1.alloc (.cells #[.int .i64 err, .string s, .int .i64 0, .int .i64 0, .int .u32 0, .int .i32 0] 43)).drew.cell? ⟨w1.heap.size, 0, none⟩ = some (.int .i64 err) := World.cell?_alloc_at _ _ _ _ rfl
  have P1 : (w1.alloc (.cells #[.int .i64 err, .string s, .int .i64 0, .int .i64 0, .int .u32 0, .int .i32 0] 43)).drew.cell? ⟨w1.heap.size, 1, none⟩ = some (.string s) := World.cell?_alloc_at _ _ _ _ rfl
  rcases hes with ⟨rfl, ys, hs, hw⟩ | ⟨rfl, hno⟩
  · obtain ⟨y0, y1, y2, y3⟩ := hw.got
    obtain ⟨c1, W1, hconv, hc1, hB1, hsp, hz1, hb2⟩ := text_bytes (w1.alloc (.cells #[.int .i64 0, .string s, .int .i64 0, .int .i64 0, .int .u32 0, .int .i32 0] 43)).drew ys y0
    have hsz := strOfNums_size ys
    rw [← hs] at hconv hsz
    have hXw := HX.out.below (B2.trans (hb2.mono B2.size))
    obtain ⟨g, c2, W2, hrun, hB2, hb3⟩ := run_append_more W1 45 _ ys.length c1 ys xs A n cap hB1 hc1 hsp hXw HA.out (by omega) (by omega)
    have hget := HG.out _ _ c2 _ _ W2 hB2.begins
    rw [y3 _ _ (by omega)] at hget
    have Q0 := below_keep hb2 P0
    have Q1 := below_keep hb2 P1
    have hPz : w1.heap.size < (w1.alloc (.cells #[.int .i64 0, .string s, .int .i64 0, .int .i64 0, .int .u32 0, .int .i32 0] 43)).drew.heap.size := by simp
    have hG : (w1.alloc (.cells #[.int .i64 0, .string s, .int .i64 0, .int .i64 0, .int .u32 0, .int .i32 0] 43)).drew.heap.size = w1.heap.size + 1 := by simp
    have R0 := (hb3.cell (p := ⟨w1.heap.size, 0, none⟩) hPz).trans Q0
    have R1 := (hb3.cell (p := ⟨w1.heap.size, 1, none⟩) hPz).trans Q1
    have B3 : Below w.heap.size w W2 := (B2.trans (hb2.mono B2.size)).trans (hb3.mono B2.size)
    rw [hG] at hrun hconv
    simp only [gotV] at hget
    have HT := Lib.hid hget
    clear hget y0 y1 y2 y3 hw hs hB1 hsp hXw hB2 hP hn hb0 hb1 hk2
    have T0 := fun w3 (hb4 : Below W2.heap.size W2 w3) => below_keep hb4 R0
    have T1 := fun w3 (hb4 : Below W2.heap.size W2 w3) => below_keep hb4 R1
    refine wp_region_noPanic ?_
    refine wp_region_held_drew (S := fun wq => wq.cell? ⟨w1.heap.size, 0, none⟩ = some (.int .i64 0) ∧ wq.cell? ⟨w1.heap.size, 1, none⟩ = some (.string s)) (by kernel_rfl) ⟨P0, P1⟩ (fun _ => ?_)
    refine wpAnyH_take (i := 0) (v := ?_) rfl (by kernel_rfl) (by kernel_rfl) (by kernel_rfl) (fun _ _ _ h => h) (Or.inl ⟨by rfl, ?_⟩) ⟨P0, P1⟩ ?_
    rotate_left
    · (intro wq hS; obtain ⟨s0, s1⟩ := hS; go_simp <;> with_reducible rfl)
    (try simp only [Act.put, List.getElem_toArray, List.getElem_cons_succ, List.getElem_cons_zero, List.setIfInBounds_toArray, List.set_cons_zero, List.set_cons_succ])
    refine wpAnyH_take (i := 1) (v := ?_) rfl (by kernel_rfl) (by kernel_rfl) (by kernel_rfl) (fun _ _ _ h => h) (Or.inl ⟨by rfl, ?_⟩) ⟨P0, P1⟩ ?_
    rotate_left
    · (intro wq hS; obtain ⟨s0, s1⟩ := hS; go_simp <;> with_reducible rfl)
    (try simp only [Act.put, List.getElem_toArray, List.getElem_cons_succ, List.getElem_cons_zero, List.setIfInBounds_toArray, List.set_cons_zero, List.set_cons_succ])
    refine wpAnyH_take (i := 2) (v := ?_) rfl (by kernel_rfl) (by kernel_rfl) (by kernel_rfl) (fun _ _ _ h => h) (Or.inl ⟨by rfl, ?_⟩) ⟨P0, P1⟩ ?_
    rotate_left
    · (intro wq hS; obtain ⟨s0, s1⟩ := hS; go_simp <;> with_reducible rfl)
    (try simp only [Act.put, List.getElem_toArray, List.getElem_cons_succ, List.getElem_cons_zero, List.setIfInBounds_toArray, List.set_cons_zero, List.set_cons_succ])
    refine wpAnyH_take (i := 3) (v := ?_) rfl (by kernel_rfl) (by kernel_rfl) (by kernel_rfl) (fun _ _ _ h => h) (Or.inl ⟨by rfl, ?_⟩) ⟨P0, P1⟩ ?_
    rotate_left
    · (intro wq hS; obtain ⟨s0, s1⟩ := hS; go_simp <;> with_reducible rfl)
    (try simp only [Act.put, List.getElem_toArray, List.getElem_cons_succ, List.getElem_cons_zero, List.setIfInBounds_toArray, List.set_cons_zero, List.set_cons_succ])
    refine wpAnyH_take (i := 4) (v := ?_) rfl (by kernel_rfl) (by kernel_rfl) (by kernel_rfl) (fun _ _ _ h => h) (Or.inl ⟨by rfl, ?_⟩) ⟨P0, P1⟩ ?_
    rotate_left
    · (intro wq hS; obtain ⟨s0, s1⟩ := hS; go_simp <;> with_reducible rfl)
    (try simp only [Act.put, List.getElem_toArray, List.getElem_cons_succ, List.getElem_cons_zero, List.setIfInBounds_toArray, List.set_cons_zero, List.set_cons_succ])
    refine wpAnyH_take (i := 5) (v := ?_) rfl (by kernel_rfl) (by kernel_rfl) (by kernel_rfl) (fun _ _ _ h => h) (Or.inl ⟨by rfl, ?_⟩) ⟨P0, P1⟩ ?_
    rotate_left
    · (intro wq hS; obtain ⟨s0, s1⟩ := hS; go_simp <;> with_reducible rfl)
    (try simp only [Act.put, List.getElem_toArray, List.getElem_cons_succ, List.getElem_cons_zero, List.setIfInBounds_toArray, List.set_cons_zero, List.set_cons_succ])
    refine wpAnyH_take (i := 6) (v := ?_) rfl (by kernel_rfl) (by kernel_rfl) (by kernel_rfl) (fun _ _ _ h => h) (Or.inl ⟨by rfl, ?_⟩) ⟨P0, P1⟩ ?_
    rotate_left
    · (intro wq hS; obtain ⟨s0, s1⟩ := hS; go_simp <;> with_reducible rfl)
    (try simp only [Act.put, List.getElem_toArray, List.getElem_cons_succ, List.getElem_cons_zero, List.setIfInBounds_toArray, List.set_cons_zero, List.set_cons_succ])
    refine wpAnyH_take (i := 8) (v := ?_) rfl (by kernel_rfl) (by kernel_rfl) (by kernel_rfl) (fun _ _ _ h => h) (Or.inl ⟨by rfl, ?_⟩) ⟨P0, P1⟩ ?_
    rotate_left
    · (intro wq hS; obtain ⟨s0, s1⟩ := hS; go_simp <;> with_reducible rfl)
    (try simp only [Act.put, List.getElem_toArray, List.getElem_cons_succ, List.getElem_cons_zero, List.setIfInBounds_toArray, List.set_cons_zero, List.set_cons_succ])
    refine wpAnyH_take (i := 11) (v := ?_) rfl (by kernel_rfl) (by kernel_rfl) (by kernel_rfl) (fun _ _ _ h => h) (Or.inl ⟨by rfl, ?_⟩) ⟨P0, P1⟩ ?_
    rotate_left
    · (intro wq hS; obtain ⟨s0, s1⟩ := hS; go_simp <;> with_reducible rfl)
    (try simp only [Act.put, List.getElem_toArray, List.getElem_cons_succ, List.getElem_cons_zero, List.setIfInBounds_toArray, List.set_cons_zero, List.set_cons_succ])
    refine wpAnyH_take (i := 12) (v := ?_) rfl (by kernel_rfl) (by kernel_rfl) (by kernel_rfl) (fun _ _ _ h => h) (Or.inl ⟨by rfl, ?_⟩) ⟨P0, P1⟩ ?_
    rotate_left
    · (intro wq hS; obtain ⟨s0, s1⟩ := hS; go_simp <;> with_reducible rfl)
    (try simp only [Act.put, List.getElem_toArray, List.getElem_cons_succ, List.getElem_cons_zero, List.setIfInBounds_toArray, List.set_cons_zero, List.set_cons_succ])
    refine wpAnyH_take (i := 13) (v := ?_) rfl (by kernel_rfl) (by kernel_rfl) (by kernel_rfl) (fun _ _ _ h => h) (Or.inl ⟨by rfl, ?_⟩) ⟨P0, P1⟩ ?_
    rotate_left
    · (intro wq hS; obtain ⟨s0, s1⟩ := hS; go_simp <;> with_reducible rfl)
    (try simp only [Act.put, List.getElem_toArray, List.getElem_cons_succ, List.getElem_cons_zero, List.setIfInBounds_toArray, List.set_cons_zero, List.set_cons_succ])
    refine wpAnyH_take (i := 14) (v := ?_) rfl (by kernel_rfl) (by kernel_rfl) (by kernel_rfl) (fun _ _ _ h => h) (Or.inl ⟨by rfl, ?_⟩) ⟨P0, P1⟩ ?_
    rotate_left
    · (intro wq hS; obtain ⟨s0, s1⟩ := hS; go_simp <;> with_reducible rfl)
    (try simp only [Act.put, List.getElem_toArray, List.getElem_cons_succ, List.getElem_cons_zero, List.setIfInBounds_toArray, List.set_cons_zero, List.set_cons_succ])
    refine wpAnyH_take (i := 15) (v := ?_) rfl (by kernel_rfl) (by kernel_rfl) (by kernel_rfl) (fun _ _ _ h => h) (Or.inl ⟨by rfl, ?_⟩) ⟨P0, P1⟩ ?_
    rotate_left
    · (intro wq hS; obtain ⟨s0, s1⟩ := hS; go_simp <;> with_reducible rfl)
    (try simp only [Act.put, List.getElem_toArray, List.getElem_cons_succ, List.getElem_cons_zero, List.setIfInBounds_toArray, List.set_cons_zero, List.set_cons_succ])
    refine wpAnyH_ready (rs := [7]) (by kernel_rfl) (by simp) ?_
    refine AllReadyH.cons (i := 7) rfl (fun K hK => ?_) AllReadyH.nil
    refine step_convert_run (by rfl) (.tmp 31) 9 45 (by rfl) (by rfl) hconv ?_
    refine hK.out _ _ ⟨Q0, Q1⟩ (fun _ => ?_)
    clear hK K
    (try simp only [Act.put, List.getElem_toArray, List.getElem_cons_succ, List.getElem_cons_zero, List.setIfInBounds_toArray, List.set_cons_zero, List.set_cons_succ])
    refine wpAnyH_ready (rs := [9]) (by kernel_rfl) (by simp) ?_
    refine AllReadyH.cons (i := 9) rfl (fun K hK => ?_) AllReadyH.nil
    refine step_append_run (by rfl) (.tmp 32) (.tmp 33) 45 (by rfl) (by rfl) (by rfl) hrun ?_
    refine hK.out _ _ ⟨R0, R1⟩ (fun _ => ?_)
    clear hK K
    (try simp only [Act.put, List.getElem_toArray, List.getElem_cons_succ, List.getElem_cons_zero, List.setIfInBounds_toArray, List.set_cons_zero, List.set_cons_succ])
    refine wpAnyH_ready (rs := [10]) (by kernel_rfl) (by simp) ?_
    refine AllReadyH.cons (i := 10) rfl (fun K hK => ?_) AllReadyH.nil
    go_simp
    refine HT.out.mono ?_; rintro e w3 ⟨rfl, hb4⟩
    refine hK.out _ _ ⟨T0 _ hb4, T1 _ hb4⟩ (fun _ => ?_)
    clear hK K
    (try simp only [Act.put, List.getElem_toArray, List.getElem_cons_succ, List.getElem_cons_zero, List.setIfInBounds_toArray, List.set_cons_zero, List.set_cons_succ])
    refine wpAnyH_take (i := 16) (v := ?_) rfl (by kernel_rfl) (by kernel_rfl) (by kernel_rfl) (fun _ _ _ h => h) (Or.inl ⟨by rfl, ?_⟩) ⟨T0 _ hb4, T1 _ hb4⟩ ?_
    rotate_left
    · (intro wq hS; obtain ⟨s0, s1⟩ := hS; go_simp <;> with_reducible rfl)
    (try simp only [Act.put, List.getElem_toArray, List.getElem_cons_succ, List.getElem_cons_zero, List.setIfInBounds_toArray, List.set_cons_zero, List.set_cons_succ])
    refine wpAnyH_take (i := 17) (v := ?_) rfl (by kernel_rfl) (by kernel_rfl) (by kernel_rfl) (fun _ _ _ h => h) (Or.inl ⟨by rfl, ?_⟩) ⟨T0 _ hb4, T1 _ hb4⟩ ?_
    rotate_left
    · (intro wq hS; obtain ⟨s0, s1⟩ := hS; go_simp <;> with_reducible rfl)
    (try simp only [Act.put, List.getElem_toArray, List.getElem_cons_succ, List.getElem_cons_zero, List.setIfInBounds_toArray, List.set_cons_zero, List.set_cons_succ])
    refine wpAnyH_done (by kernel_rfl) ?_ _
    refine NoPanic.normal ?_
    have B4 : Below w.heap.size w w3 := B3.trans (hb4.mono B3.size)
    clear hconv hrun hb2 hb3 hz1 hc1 P0 P1 Q0 Q1 R0 R1 T0 T1 HT hb4 hsz hG hPz
    go_wp2_with fail
    refine (HG.out A n cap _ _ w3 (HX.out.below B4).begins).mono ?_
    rintro e w4 ⟨rfl, hb5⟩
    have B5 : Below w.heap.size w w4 := B4.trans (hb5.mono B4.size)
    rcases getRes_cases row half n (xs.getD 0 0) (xs.getD 1 0) (fun h => ((HX.out.begins h).elim fun _ h => h.elim fun _ h => h.2.2.2.1)) with ⟨N, K, a, hg, hrd⟩ | ⟨K, a, hg⟩ | ⟨K, a, hg, hn1⟩ | ⟨K, a, hg, hn2⟩
    · rw [hg]
      simp only [gotV]
      clear hg
      have HR := Lib.hid hrd
      clear hrd
      go_wp2_with fail
      refine (HS.out a _).mono ?_
      rintro e w5 ⟨err2, s2, hes2, rfl, hb6⟩
      rcases hes2 with ⟨rfl, zs, hs2, hw2⟩ | ⟨_, hno2⟩
      case inr => exact absurd HR.out hno2
      have HS2 := Lib.hid hs2
      have HW2 := Lib.hid hw2
      clear hs2 hw2
      go_wp2_with fail
      have hs2 := HS2.out
      have hw2 := HW2.out
      clear HS2 HW2
      have B6 : Below w.heap.size w w5 := (B5.alloc B5.size _).trans (hb6.mono (by have := B5.size; simp; omega))
      have G3 : w5.cell? ⟨w4.heap.size, 3, none⟩ = some (.int .i32 a) := below_keep hb6 (by rw [World.cell?_alloc_at _ _ _ _ rfl]; rfl)
      have B7 : Below w.heap.size w (w5.alloc (.cells #[.int .i64 0, .string s2, .int .i64 0, .int .i64 0, .int .u32 0, .int .i32 0] 43)).drew := (B6.alloc B6.size _).drew
      have V0 : (w5.alloc (.cells #[.int .i64 0, .string s2, .int .i64 0, .int .i64 0, .int .u32 0, .int .i32 0] 43)).drew.cell? ⟨w5.heap.size, 0, none⟩ = some (.int .i64 0) := World.cell?_alloc_at _ _ _ _ rfl
      have V1 : (w5.alloc (.cells #[.int .i64 0, .string s2, .int .i64 0, .int .i64 0, .int .u32 0, .int .i32 0] 43)).drew.cell? ⟨w5.heap.size, 1, none⟩ = some (.string s2) := World.cell?_alloc_at _ _ _ _ rfl
      have V2 : (w5.alloc (.cells #[.int .i64 0, .string s2, .int .i64 0, .int .i64 0, .int .u32 0, .int .i32 0] 43)).drew.cell? ⟨w4.heap.size, 3, none⟩ = some (.int .i32 a) := (World.cell?_alloc_lt w5 _ _ (World.block_lt_of_cell? w5 _ G3)).trans G3
      obtain ⟨y0, y1, y2, y3⟩ := hw2.got
      obtain ⟨c5, W5, hconv2, hc5, hB5, hsp5, hz5, hb7⟩ := text_bytes (w5.alloc (.cells #[.int .i64 0, .string s2, .int .i64 0, .int .i64 0, .int .u32 0, .int .i32 0] 43)).drew zs y0
      have hsz2 := strOfNums_size zs
      rw [← hs2] at hconv2 hsz2
      have hget2 := HG.out _ _ c5 _ _ W5 hB5.begins
      have y4 := y3 zs.length [] (Nat.le_refl _)
      rw [List.append_nil] at y4
      rw [y4] at hget2
      simp only [gotV] at hget2
      have X0 := below_keep hb7 V0
      have X1 := below_keep hb7 V1
      have X2 := below_keep hb7 V2
      have hG5 : (w5.alloc (.cells #[.int .i64 0, .string s2, .int .i64 0, .int .i64 0, .int .u32 0, .int .i32 0] 43)).drew.heap.size = w5.heap.size + 1 := by simp
      rw [hG5] at hconv2 hget2
      have B8 : Below w.heap.size w W5 := B7.trans (hb7.mono B7.size)
      have Z0 := fun w6 (hb8 : Below W5.heap.size W5 w6) => below_keep hb8 X0
      have Z1 := fun w6 (hb8 : Below W5.heap.size W5 w6) => below_keep hb8 X1
      have Z2 := fun w6 (hb8 : Below W5.heap.size W5 w6) => below_keep hb8 X2
      have HT2 := Lib.hid hget2
      clear hget2 y0 y1 y2 y3 y4 hw2 hs2 hB5 hsp5 hb6 hb5 hc5 hz5
      refine wp_region_noPanic ?_
      refine wp_region_held_drew (S := fun wq => wq.cell? ⟨w5.heap.size, 0, none⟩ = some (.int .i64 0) ∧ wq.cell? ⟨w5.heap.size, 1, none⟩ = some (.string s2) ∧ wq.cell? ⟨w4.heap.size, 3, none⟩ = some (.int .i32 a)) (by kernel_rfl) ⟨V0, V1, V2⟩ (fun _ => ?_)
      refine wpAnyH_take (i := 0) (v := ?_) rfl (by kernel_rfl) (by kernel_rfl) (by kernel_rfl) (fun _ _ _ h => h) (Or.inl ⟨by rfl, ?_⟩) ⟨V0, V1, V2⟩ ?_
      rotate_left
      · (intro wq hS; obtain ⟨s0, s1, s2⟩ := hS; go_simp <;> with_reducible rfl)
      (try simp only [Act.put, List.getElem_toArray, List.getElem_cons_succ, List.getElem_cons_zero, List.setIfInBounds_toArray, List.set_cons_zero, List.set_cons_succ])
      refine wpAnyH_take (i := 1) (v := ?_) rfl (by kernel_rfl) (by kernel_rfl) (by kernel_rfl) (fun _ _ _ h => h) (Or.inl ⟨by rfl, ?_⟩) ⟨V0, V1, V2⟩ ?_
      rotate_left
      · (intro wq hS; obtain ⟨s0, s1, s2⟩ := hS; go_simp <;> with_reducible rfl)
      (try simp only [Act.put, List.getElem_toArray, List.getElem_cons_succ, List.getElem_cons_zero, List.setIfInBounds_toArray, List.set_cons_zero, List.set_cons_succ])
      refine wpAnyH_take (i := 2) (v := ?_) rfl (by kernel_rfl) (by kernel_rfl) (by kernel_rfl) (fun _ _ _ h => h) (Or.inl ⟨by rfl, ?_⟩) ⟨V0, V1, V2⟩ ?_
      rotate_left
      · (intro wq hS; obtain ⟨s0, s1, s2⟩ := hS; go_simp <;> with_reducible rfl)
      (try simp only [Act.put, List.getElem_toArray, List.getElem_cons_succ, List.getElem_cons_zero, List.setIfInBounds_toArray, List.set_cons_zero, List.set_cons_succ])
      refine wpAnyH_take (i := 3) (v := ?_) rfl (by kernel_rfl) (by kernel_rfl) (by kernel_rfl) (fun _ _ _ h => h) (Or.inl ⟨by rfl, ?_⟩) ⟨V0, V1, V2⟩ ?_
      rotate_left
      · (intro wq hS; obtain ⟨s0, s1, s2⟩ := hS; go_simp <;> with_reducible rfl)
      (try simp only [Act.put, List.getElem_toArray, List.getElem_cons_succ, List.getElem_cons_zero, List.setIfInBounds_toArray, List.set_cons_zero, List.set_cons_succ])
      refine wpAnyH_take (i := 4) (v := ?_) rfl (by kernel_rfl) (by kernel_rfl) (by kernel_rfl) (fun _ _ _ h => h) (Or.inl ⟨by rfl, ?_⟩) ⟨V0, V1, V2⟩ ?_
      rotate_left
      · (intro wq hS; obtain ⟨s0, s1, s2⟩ := hS; go_simp <;> with_reducible rfl)
      (try simp only [Act.put, List.getElem_toArray, List.getElem_cons_succ, List.getElem_cons_zero, List.setIfInBounds_toArray, List.set_cons_zero, List.set_cons_succ])
      refine wpAnyH_take (i := 5) (v := ?_) rfl (by kernel_rfl) (by kernel_rfl) (by kernel_rfl) (fun _ _ _ h => h) (Or.inl ⟨by rfl, ?_⟩) ⟨V0, V1, V2⟩ ?_
      rotate_left
      · (intro wq hS; obtain ⟨s0, s1, s2⟩ := hS; go_simp <;> with_reducible rfl)
      (try simp only [Act.put, List.getElem_toArray, List.getElem_cons_succ, List.getElem_cons_zero, List.setIfInBounds_toArray, List.set_cons_zero, List.set_cons_succ])
      refine wpAnyH_take (i := 6) (v := ?_) rfl (by kernel_rfl) (by kernel_rfl) (by kernel_rfl) (fun _ _ _ h => h) (Or.inl ⟨by rfl, ?_⟩) ⟨V0, V1, V2⟩ ?_
      rotate_left
      · (intro wq hS; obtain ⟨s0, s1, s2⟩ := hS; go_simp <;> with_reducible rfl)
      (try simp only [Act.put, List.getElem_toArray, List.getElem_cons_succ, List.getElem_cons_zero, List.setIfInBounds_toArray, List.set_cons_zero, List.set_cons_succ])
      refine wpAnyH_take (i := 9) (v := ?_) rfl (by kernel_rfl) (by kernel_rfl) (by kernel_rfl) (fun _ _ _ h => h) (Or.inl ⟨by rfl, ?_⟩) ⟨V0, V1, V2⟩ ?_
      rotate_left
      · (intro wq hS; obtain ⟨s0, s1, s2⟩ := hS; go_simp <;> with_reducible rfl)
      (try simp only [Act.put, List.getElem_toArray, List.getElem_cons_succ, List.getElem_cons_zero, List.setIfInBounds_toArray, List.set_cons_zero, List.set_cons_succ])
      refine wpAnyH_take (i := 10) (v := ?_) rfl (by kernel_rfl) (by kernel_rfl) (by kernel_rfl) (fun _ _ _ h => h) (Or.inl ⟨by rfl, ?_⟩) ⟨V0, V1, V2⟩ ?_
      rotate_left
      · (intro wq hS; obtain ⟨s0, s1, s2⟩ := hS; go_simp <;> with_reducible rfl)
      (try simp only [Act.put, List.getElem_toArray, List.getElem_cons_succ, List.getElem_cons_zero, List.setIfInBounds_toArray, List.set_cons_zero, List.set_cons_succ])
      refine wpAnyH_take (i := 11) (v := ?_) rfl (by kernel_rfl) (by kernel_rfl) (by kernel_rfl) (fun _ _ _ h => h) (Or.inl ⟨by rfl, ?_⟩) ⟨V0, V1, V2⟩ ?_
      rotate_left
      · (intro wq hS; obtain ⟨s0, s1, s2⟩ := hS; go_simp <;> with_reducible rfl)
      (try simp only [Act.put, List.getElem_toArray, List.getElem_cons_succ, List.getElem_cons_zero, List.setIfInBounds_toArray, List.set_cons_zero, List.set_cons_succ])
      refine wpAnyH_take (i := 12) (v := ?_) rfl (by kernel_rfl) (by kernel_rfl) (by kernel_rfl) (fun _ _ _ h => h) (Or.inl ⟨by rfl, ?_⟩) ⟨V0, V1, V2⟩ ?_
      rotate_left
      · (intro wq hS; obtain ⟨s0, s1, s2⟩ := hS; go_simp <;> with_reducible rfl)
      (try simp only [Act.put, List.getElem_toArray, List.getElem_cons_succ, List.getElem_cons_zero, List.setIfInBounds_toArray, List.set_cons_zero, List.set_cons_succ])
      refine wpAnyH_take (i := 13) (v := ?_) rfl (by kernel_rfl) (by kernel_rfl) (by kernel_rfl) (fun _ _ _ h => h) (Or.inl ⟨by rfl, ?_⟩) ⟨V0, V1, V2⟩ ?_
      rotate_left
      · (intro wq hS; obtain ⟨s0, s1, s2⟩ := hS; go_simp <;> with_reducible rfl)
      (try simp only [Act.put, List.getElem_toArray, List.getElem_cons_succ, List.getElem_cons_zero, List.setIfInBounds_toArray, List.set_cons_zero, List.set_cons_succ])
      refine wpAnyH_take (i := 14) (v := ?_) rfl (by kernel_rfl) (by kernel_rfl) (by kernel_rfl) (fun _ _ _ h => h) (Or.inl ⟨by rfl, ?_⟩) ⟨V0, V1, V2⟩ ?_
      rotate_left
      · (intro wq hS; obtain ⟨s0, s1, s2⟩ := hS; go_simp <;> with_reducible rfl)
      (try simp only [Act.put, List.getElem_toArray, List.getElem_cons_succ, List.getElem_cons_zero, List.setIfInBounds_toArray, List.set_cons_zero, List.set_cons_succ])
      refine wpAnyH_ready (rs := [7]) (by kernel_rfl) (by simp) ?_
      refine AllReadyH.cons (i := 7) rfl (fun K hK => ?_) AllReadyH.nil
      refine step_convert_run (by rfl) (.tmp 89) 9 45 (by rfl) (by rfl) hconv2 ?_
      refine hK.out _ _ ⟨X0, X1, X2⟩ (fun _ => ?_)
      clear hK K
      (try simp only [Act.put, List.getElem_toArray, List.getElem_cons_succ, List.getElem_cons_zero, List.setIfInBounds_toArray, List.set_cons_zero, List.set_cons_succ])
      refine wpAnyH_ready (rs := [8]) (by kernel_rfl) (by simp) ?_
      refine AllReadyH.cons (i := 8) rfl (fun K hK => ?_) AllReadyH.nil
      go_simp
      refine HT2.out.mono ?_; rintro e w6 ⟨rfl, hb8⟩
      refine hK.out _ _ ⟨Z0 _ hb8, Z1 _ hb8, Z2 _ hb8⟩ (fun _ => ?_)
      clear hK K
      (try simp only [Act.put, List.getElem_toArray, List.getElem_cons_succ, List.getElem_cons_zero, List.setIfInBounds_toArray, List.set_cons_zero, List.set_cons_succ])
      refine wpAnyH_take (i := 15) (v := ?_) rfl (by kernel_rfl) (by kernel_rfl) (by kernel_rfl) (fun _ _ _ h => h) (Or.inl ⟨by rfl, ?_⟩) ⟨Z0 _ hb8, Z1 _ hb8, Z2 _ hb8⟩ ?_
      rotate_left
      · (intro wq hS; obtain ⟨s0, s1, s2⟩ := hS; go_simp <;> with_reducible rfl)
      (try simp only [Act.put, List.getElem_toArray, List.getElem_cons_succ, List.getElem_cons_zero, List.setIfInBounds_toArray, List.set_cons_zero, List.set_cons_succ])
      refine wpAnyH_take (i := 16) (v := ?_) rfl (by kernel_rfl) (by kernel_rfl) (by kernel_rfl) (fun _ _ _ h => h) (Or.inl ⟨by rfl, ?_⟩) ⟨Z0 _ hb8, Z1 _ hb8, Z2 _ hb8⟩ ?_
      rotate_left
      · (intro wq hS; obtain ⟨s0, s1, s2⟩ := hS; go_simp <;> with_reducible rfl)
      (try simp only [Act.put, List.getElem_toArray, List.getElem_cons_succ, List.getElem_cons_zero, List.setIfInBounds_toArray, List.set_cons_zero, List.set_cons_succ])
      refine wpAnyH_take (i := 17) (v := ?_) rfl (by kernel_rfl) (by kernel_rfl) (by kernel_rfl) (fun _ _ _ h => h) (Or.inl ⟨by rfl, ?_⟩) ⟨Z0 _ hb8, Z1 _ hb8, Z2 _ hb8⟩ ?_
      rotate_left
      · (intro wq hS; obtain ⟨s0, s1, s2⟩ := hS; go_simp <;> with_reducible rfl)
      (try simp only [Act.put, List.getElem_toArray, List.getElem_cons_succ, List.getElem_cons_zero, List.setIfInBounds_toArray, List.set_cons_zero, List.set_cons_succ])
      refine wpAnyH_done (by kernel_rfl) ?_ _
      refine NoPanic.normal ?_
      go_wp2_with fail
      go_ret
      exact ⟨rfl, B8.trans (hb8.mono B8.size)⟩
    · rw [hg]
      simp only [gotV]
      clear hg
      go_wp2_with fail
      go_ret
      exact ⟨rfl, B5.alloc B5.size _⟩
    · rw [hg]
      simp only [gotV]
      clear hg
      have hn1' : (1 : Int) ≤ (n : Int) := by omega
      go_wp2_with fail
      go_ret
      exact ⟨rfl, B5.alloc B5.size _⟩
    · rw [hg]
      simp only [gotV]
      clear hg
      have hn2' : (2 : Int) ≤ (n : Int) := by omega
      go_wp2_with fail
      go_ret
      exact ⟨rfl, B5.alloc B5.size _⟩
  · clear hno hP hn hb0 hb1 hk2
    refine wp_region_noPanic ?_
    refine wp_region_held_drew (S := fun wq => wq.cell? ⟨w1.heap.size, 0, none⟩ = some (.int .i64 11) ∧ wq.cell? ⟨w1.heap.size, 1, none⟩ = some (.string s)) (by kernel_rfl) ⟨P0, P1⟩ (fun _ => ?_)
    refine wpAnyH_take (i := 0) (v := ?_) rfl (by kernel_rfl) (by kernel_rfl) (by kernel_rfl) (fun _ _ _ h => h) (Or.inl ⟨by rfl, ?_⟩) ⟨P0, P1⟩ ?_
    rotate_left
    · (intro wq hS; obtain ⟨s0, s1⟩ := hS; go_simp <;> with_reducible rfl)
    (try simp only [Act.put, List.getElem_toArray, List.getElem_cons_succ, List.getElem_cons_zero, List.setIfInBounds_toArray, List.set_cons_zero, List.set_cons_succ])
    refine wpAnyH_take (i := 1) (v := ?_) rfl (by kernel_rfl) (by kernel_rfl) (by kernel_rfl) (fun _ _ _ h => h) (Or.inl ⟨by rfl, ?_⟩) ⟨P0, P1⟩ ?_
    rotate_left
    · (intro wq hS; obtain ⟨s0, s1⟩ := hS; go_simp <;> with_reducible rfl)
    (try simp only [Act.put, List.getElem_toArray, List.getElem_cons_succ, List.getElem_cons_zero, List.setIfInBounds_toArray, List.set_cons_zero, List.set_cons_succ])
    refine wpAnyH_take (i := 2) (v := ?_) rfl (by kernel_rfl) (by kernel_rfl) (by kernel_rfl) (fun _ _ _ h => h) (Or.inl ⟨by rfl, ?_⟩) ⟨P0, P1⟩ ?_
    rotate_left
    · (intro wq hS; obtain ⟨s0, s1⟩ := hS; go_simp <;> with_reducible rfl)
    (try simp only [Act.put, List.getElem_toArray, List.getElem_cons_succ, List.getElem_cons_zero, List.setIfInBounds_toArray, List.set_cons_zero, List.set_cons_succ])
    refine wpAnyH_take (i := 3) (v := ?_) rfl (by kernel_rfl) (by kernel_rfl) (by kernel_rfl) (fun _ _ _ h => h) (Or.inl ⟨by rfl, ?_⟩) ⟨P0, P1⟩ ?_
    rotate_left
    · (intro wq hS; obtain ⟨s0, s1⟩ := hS; go_simp <;> with_reducible rfl)
    (try simp only [Act.put, List.getElem_toArray, List.getElem_cons_succ, List.getElem_cons_zero, List.setIfInBounds_toArray, List.set_cons_zero, List.set_cons_succ])
    refine wpAnyH_take (i := 4) (v := undef) rfl (by kernel_rfl) (by kernel_rfl) (by kernel_rfl) (fun _ _ _ h => h) (Or.inr ⟨by rfl, rfl⟩) ⟨P0, P1⟩ ?_
    (try simp only [Act.put, List.getElem_toArray, List.getElem_cons_succ, List.getElem_cons_zero, List.setIfInBounds_toArray, List.set_cons_zero, List.set_cons_succ])
    refine wpAnyH_take (i := 5) (v := undef) rfl (by kernel_rfl) (by kernel_rfl) (by kernel_rfl) (fun _ _ _ h => h) (Or.inr ⟨by rfl, rfl⟩) ⟨P0, P1⟩ ?_
    (try simp only [Act.put, List.getElem_toArray, List.getElem_cons_succ, List.getElem_cons_zero, List.setIfInBounds_toArray, List.set_cons_zero, List.set_cons_succ])
    refine wpAnyH_take (i := 6) (v := undef) rfl (by kernel_rfl) (by kernel_rfl) (by kernel_rfl) (fun _ _ _ h => h) (Or.inr ⟨by rfl, rfl⟩) ⟨P0, P1⟩ ?_
    (try simp only [Act.put, List.getElem_toArray, List.getElem_cons_succ, List.getElem_cons_zero, List.setIfInBounds_toArray, List.set_cons_zero, List.set_cons_succ])
    refine wpAnyH_take (i := 8) (v := undef) rfl (by kernel_rfl) (by kernel_rfl) (by kernel_rfl) (fun _ _ _ h => h) (Or.inr ⟨by rfl, rfl⟩) ⟨P0, P1⟩ ?_
    (try simp only [Act.put, List.getElem_toArray, List.getElem_cons_succ, List.getElem_cons_zero, List.setIfInBounds_toArray, List.set_cons_zero, List.set_cons_succ])
    refine wpAnyH_take (i := 11) (v := undef) rfl (by kernel_rfl) (by kernel_rfl) (by kernel_rfl) (fun _ _ _ h => h) (Or.inr ⟨by rfl, rfl⟩) ⟨P0, P1⟩ ?_
    (try simp only [Act.put, List.getElem_toArray, List.getElem_cons_succ, List.getElem_cons_zero, List.setIfInBounds_toArray, List.set_cons_zero, List.set_cons_succ])
    refine wpAnyH_take (i := 12) (v := undef) rfl (by kernel_rfl) (by kernel_rfl) (by kernel_rfl) (fun _ _ _ h => h) (Or.inr ⟨by rfl, rfl⟩) ⟨P0, P1⟩ ?_
    (try simp only [Act.put, List.getElem_toArray, List.getElem_cons_succ, List.getElem_cons_zero, List.setIfInBounds_toArray, List.set_cons_zero, List.set_cons_succ])
    refine wpAnyH_take (i := 13) (v := undef) rfl (by kernel_rfl) (by kernel_rfl) (by kernel_rfl) (fun _ _ _ h => h) (Or.inr ⟨by rfl, rfl⟩) ⟨P0, P1⟩ ?_
    (try simp only [Act.put, List.getElem_toArray, List.getElem_cons_succ, List.getElem_cons_zero, List.setIfInBounds_toArray, List.set_cons_zero, List.set_cons_succ])
    refine wpAnyH_take (i := 14) (v := undef) rfl (by kernel_rfl) (by kernel_rfl) (by kernel_rfl) (fun _ _ _ h => h) (Or.inr ⟨by rfl, rfl⟩) ⟨P0, P1⟩ ?_
    (try simp only [Act.put, List.getElem_toArray, List.getElem_cons_succ, List.getElem_cons_zero, List.setIfInBounds_toArray, List.set_cons_zero, List.set_cons_succ])
    refine wpAnyH_take (i := 15) (v := undef) rfl (by kernel_rfl) (by kernel_rfl) (by kernel_rfl) (fun _ _ _ h => h) (Or.inr ⟨by rfl, rfl⟩) ⟨P0, P1⟩ ?_
    (try simp only [Act.put, List.getElem_toArray, List.getElem_cons_succ, List.getElem_cons_zero, List.setIfInBounds_toArray, List.set_cons_zero, List.set_cons_succ])
    refine wpAnyH_take (i := 7) (v := undef) rfl (by kernel_rfl) (by kernel_rfl) (by kernel_rfl) (fun _ _ _ h => h) (Or.inr ⟨by rfl, rfl⟩) ⟨P0, P1⟩ ?_
    (try simp only [Act.put, List.getElem_toArray, List.getElem_cons_succ, List.getElem_cons_zero, List.setIfInBounds_toArray, List.set_cons_zero, List.set_cons_succ])
    refine wpAnyH_take (i := 9) (v := undef) rfl (by kernel_rfl) (by kernel_rfl) (by kernel_rfl) (fun _ _ _ h => h) (Or.inr ⟨by rfl, rfl⟩) ⟨P0, P1⟩ ?_
    (try simp only [Act.put, List.getElem_toArray, List.getElem_cons_succ, List.getElem_cons_zero, List.setIfInBounds_toArray, List.set_cons_zero, List.set_cons_succ])
    refine wpAnyH_take (i := 10) (v := undef) rfl (by kernel_rfl) (by kernel_rfl) (by kernel_rfl) (fun _ _ _ h => h) (Or.inr ⟨by rfl, rfl⟩) ⟨P0, P1⟩ ?_
    (try simp only [Act.put, List.getElem_toArray, List.getElem_cons_succ, List.getElem_cons_zero, List.setIfInBounds_toArray, List.set_cons_zero, List.set_cons_succ])
    refine wpAnyH_take (i := 16) (v := undef) rfl (by kernel_rfl) (by kernel_rfl) (by kernel_rfl) (fun _ _ _ h => h) (Or.inr ⟨by rfl, rfl⟩) ⟨P0, P1⟩ ?_
    (try simp only [Act.put, List.getElem_toArray, List.getElem_cons_succ, List.getElem_cons_zero, List.setIfInBounds_toArray, List.set_cons_zero, List.set_cons_succ])
    refine wpAnyH_take (i := 17) (v := ?_) rfl (by kernel_rfl) (by kernel_rfl) (by kernel_rfl) (fun _ _ _ h => h) (Or.inl ⟨by rfl, ?_⟩) ⟨P0, P1⟩ ?_
    rotate_left
    · (intro wq hS; obtain ⟨s0, s1⟩ := hS; go_simp <;> with_reducible rfl)
    (try simp only [Act.put, List.getElem_toArray, List.getElem_cons_succ, List.getElem_cons_zero, List.setIfInBounds_toArray, List.set_cons_zero, List.set_cons_succ])
    refine wpAnyH_done (by kernel_rfl) ?_ _
    refine NoPanic.normal ?_
    clear P0 P1
    go_wp2_with fail
    refine (HG.out A n cap _ _ _ (HX.out.below B2).begins).mono ?_
    rintro e w4 ⟨rfl, hb5⟩
    have B5 : Below w.heap.size w w4 := B2.trans (hb5.mono B2.size)
    rcases getRes_cases row half n (xs.getD 0 0) (xs.getD 1 0) (fun h => ((HX.out.begins h).elim fun _ h => h.elim fun _ h => h.2.2.2.1)) with ⟨N, K, a, hg, hrd⟩ | ⟨K, a, hg⟩ | ⟨K, a, hg, hn1⟩ | ⟨K, a, hg, hn2⟩
    · rw [hg]
      simp only [gotV]
      clear hg
      have HR := Lib.hid hrd
      clear hrd
      go_wp2_with fail
      refine (HS.out a _).mono ?_
      rintro e w5 ⟨err2, s2, hes2, rfl, hb6⟩
      rcases hes2 with ⟨rfl, zs, hs2, hw2⟩ | ⟨_, hno2⟩
      case inr => exact absurd HR.out hno2
      have HS2 := Lib.hid hs2
      have HW2 := Lib.hid hw2
      clear hs2 hw2
      go_wp2_with fail
      have hs2 := HS2.out
      have hw2 := HW2.out
      clear HS2 HW2
      have B6 : Below w.heap.size w w5 := (B5.alloc B5.size _).trans (hb6.mono (by have := B5.size; simp; omega))
      have G3 : w5.cell? ⟨w4.heap.size, 3, none⟩ = some (.int .i32 a) := below_keep hb6 (by rw [World.cell?_alloc_at _ _ _ _ rfl]; rfl)
      have B7 : Below w.heap.size w (w5.alloc (.cells #[.int .i64 0, .string s2, .int .i64 0, .int .i64 0, .int .u32 0, .int .i32 0] 43)).drew := (B6.alloc B6.size _).drew
      have V0 : (w5.alloc (.cells #[.int .i64 0, .string s2, .int .i64 0, .int .i64 0, .int .u32 0, .int .i32 0] 43)).drew.cell? ⟨w5.heap.size, 0, none⟩ = some (.int .i64 0) := World.cell?_alloc_at _ _ _ _ rfl
      have V1 : (w5.alloc (.cells #[.int .i64 0, .string s2, .int .i64 0, .int .i64 0, .int .u32 0, .int .i32 0] 43)).drew.cell? ⟨w5.heap.size, 1, none⟩ = some (.string s2) := World.cell?_alloc_at _ _ _ _ rfl
      have V2 : (w5.alloc (.cells #[.int .i64 0, .string s2, .int .i64 0, .int .i64 0, .int .u32 0, .int .i32 0] 43)).drew.cell? ⟨w4.heap.size, 3, none⟩ = some (.int .i32 a) := (World.cell?_alloc_lt w5 _ _ (World.block_lt_of_cell? w5 _ G3)).trans G3
      obtain ⟨y0, y1, y2, y3⟩ := hw2.got
      obtain ⟨c5, W5, hconv2, hc5, hB5, hsp5, hz5, hb7⟩ := text_bytes (w5.alloc (.cells #[.int .i64 0, .string s2, .int .i64 0, .int .i64 0, .int .u32 0, .int .i32 0] 43)).drew zs y0
      have hsz2 := strOfNums_size zs
      rw [← hs2] at hconv2 hsz2
      have hget2 := HG.out _ _ c5 _ _ W5 hB5.begins
      have y4 := y3 zs.length [] (Nat.le_refl _)
      rw [List.append_nil] at y4
      rw [y4] at hget2
      simp only [gotV] at hget2
      have X0 := below_keep hb7 V0
      have X1 := below_keep hb7 V1
      have X2 := below_keep hb7 V2
      have hG5 : (w5.alloc (.cells #[.int .i64 0, .string s2, .int .i64 0, .int .i64 0, .int .u32 0, .int .i32 0] 43)).drew.heap.size = w5.heap.size + 1 := by simp
      rw [hG5] at hconv2 hget2
      have B8 : Below w.heap.size w W5 := B7.trans (hb7.mono B7.size)
      have Z0 := fun w6 (hb8 : Below W5.heap.size W5 w6) => below_keep hb8 X0
      have Z1 := fun w6 (hb8 : Below W5.heap.size W5 w6) => below_keep hb8 X1
      have Z2 := fun w6 (hb8 : Below W5.heap.size W5 w6) => below_keep hb8 X2
      have HT2 := Lib.hid hget2
      clear hget2 y0 y1 y2 y3 y4 hw2 hs2 hB5 hsp5 hb6 hb5 hc5 hz5
      refine wp_region_noPanic ?_
      refine wp_region_held_drew (S := fun wq => wq.cell? ⟨w5.heap.size, 0, none⟩ = some (.int .i64 0) ∧ wq.cell? ⟨w5.heap.size, 1, none⟩ = some (.string s2) ∧ wq.cell? ⟨w4.heap.size, 3, none⟩ = some (.int .i32 a)) (by kernel_rfl) ⟨V0, V1, V2⟩ (fun _ => ?_)
      refine wpAnyH_take (i := 0) (v := ?_) rfl (by kernel_rfl) (by kernel_rfl) (by kernel_rfl) (fun _ _ _ h => h) (Or.inl ⟨by rfl, ?_⟩) ⟨V0, V1, V2⟩ ?_
      rotate_left
      · (intro wq hS; obtain ⟨s0, s1, s2⟩ := hS; go_simp <;> with_reducible rfl)
      (try simp only [Act.put, List.getElem_toArray, List.getElem_cons_succ, List.getElem_cons_zero, List.setIfInBounds_toArray, List.set_cons_zero, List.set_cons_succ])
      refine wpAnyH_take (i := 1) (v := ?_) rfl (by kernel_rfl) (by kernel_rfl) (by kernel_rfl) (fun _ _ _ h => h) (Or.inl ⟨by rfl, ?_⟩) ⟨V0, V1, V2⟩ ?_
      rotate_left
      · (intro wq hS; obtain ⟨s0, s1, s2⟩ := hS; go_simp <;> with_reducible rfl)
      (try simp only [Act.put, List.getElem_toArray, List.getElem_cons_succ, List.getElem_cons_zero, List.setIfInBounds_toArray, List.set_cons_zero, List.set_cons_succ])
      refine wpAnyH_take (i := 2) (v := ?_) rfl (by kernel_rfl) (by kernel_rfl) (by kernel_rfl) (fun _ _ _ h => h) (Or.inl ⟨by rfl, ?_⟩) ⟨V0, V1, V2⟩ ?_
      rotate_left
      · (intro wq hS; obtain ⟨s0, s1, s2⟩ := hS; go_simp <;> with_reducible rfl)
      (try simp only [Act.put, List.getElem_toArray, List.getElem_cons_succ, List.getElem_cons_zero, List.setIfInBounds_toArray, List.set_cons_zero, List.set_cons_succ])
      refine wpAnyH_take (i := 3) (v := ?_) rfl (by kernel_rfl) (by kernel_rfl) (by kernel_rfl) (fun _ _ _ h => h) (Or.inl ⟨by rfl, ?_⟩) ⟨V0, V1, V2⟩ ?_
      rotate_left
      · (intro wq hS; obtain ⟨s0, s1, s2⟩ := hS; go_simp <;> with_reducible rfl)
      (try simp only [Act.put, List.getElem_toArray, List.getElem_cons_succ, List.getElem_cons_zero, List.setIfInBounds_toArray, List.set_cons_zero, List.set_cons_succ])
      refine wpAnyH_take (i := 4) (v := ?_) rfl (by kernel_rfl) (by kernel_rfl) (by kernel_rfl) (fun _ _ _ h => h) (Or.inl ⟨by rfl, ?_⟩) ⟨V0, V1, V2⟩ ?_
      rotate_left
      · (intro wq hS; obtain ⟨s0, s1, s2⟩ := hS; go_simp <;> with_reducible rfl)
      (try simp only [Act.put, List.getElem_toArray, List.getElem_cons_succ, List.getElem_cons_zero, List.setIfInBounds_toArray, List.set_cons_zero, List.set_cons_succ])
      refine wpAnyH_take (i := 5) (v := ?_) rfl (by kernel_rfl) (by kernel_rfl) (by kernel_rfl) (fun _ _ _ h => h) (Or.inl ⟨by rfl, ?_⟩) ⟨V0, V1, V2⟩ ?_
      rotate_left
      · (intro wq hS; obtain ⟨s0, s1, s2⟩ := hS; go_simp <;> with_reducible rfl)
      (try simp only [Act.put, List.getElem_toArray, List.getElem_cons_succ, List.getElem_cons_zero, List.setIfInBounds_toArray, List.set_cons_zero, List.set_cons_succ])
      refine wpAnyH_take (i := 6) (v := ?_) rfl (by kernel_rfl) (by kernel_rfl) (by kernel_rfl) (fun _ _ _ h => h) (Or.inl ⟨by rfl, ?_⟩) ⟨V0, V1, V2⟩ ?_
      rotate_left
      · (intro wq hS; obtain ⟨s0, s1, s2⟩ := hS; go_simp <;> with_reducible rfl)
      (try simp only [Act.put, List.getElem_toArray, List.getElem_cons_succ, List.getElem_cons_zero, List.setIfInBounds_toArray, List.set_cons_zero, List.set_cons_succ])
      refine wpAnyH_take (i := 9) (v := ?_) rfl (by kernel_rfl) (by kernel_rfl) (by kernel_rfl) (fun _ _ _ h => h) (Or.inl ⟨by rfl, ?_⟩) ⟨V0, V1, V2⟩ ?_
      rotate_left
      · (intro wq hS; obtain ⟨s0, s1, s2⟩ := hS; go_simp <;> with_reducible rfl)
      (try simp only [Act.put, List.getElem_toArray, List.getElem_cons_succ, List.getElem_cons_zero, List.setIfInBounds_toArray, List.set_cons_zero, List.set_cons_succ])
      refine wpAnyH_take (i := 10) (v := ?_) rfl (by kernel_rfl) (by kernel_rfl) (by kernel_rfl) (fun _ _ _ h => h) (Or.inl ⟨by rfl, ?_⟩) ⟨V0, V1, V2⟩ ?_
      rotate_left
      · (intro wq hS; obtain ⟨s0, s1, s2⟩ := hS; go_simp <;> with_reducible rfl)
      (try simp only [Act.put, List.getElem_toArray, List.getElem_cons_succ, List.getElem_cons_zero, List.setIfInBounds_toArray, List.set_cons_zero, List.set_cons_succ])
      refine wpAnyH_take (i := 11) (v := ?_) rfl (by kernel_rfl) (by kernel_rfl) (by kernel_rfl) (fun _ _ _ h => h) (Or.inl ⟨by rfl, ?_⟩) ⟨V0, V1, V2⟩ ?_
      rotate_left
      · (intro wq hS; obtain ⟨s0, s1, s2⟩ := hS; go_simp <;> with_reducible rfl)
      (try simp only [Act.put, List.getElem_toArray, List.getElem_cons_succ, List.getElem_cons_zero, List.setIfInBounds_toArray, List.set_cons_zero, List.set_cons_succ])
      refine wpAnyH_take (i := 12) (v := ?_) rfl (by kernel_rfl) (by kernel_rfl) (by kernel_rfl) (fun _ _ _ h => h) (Or.inl ⟨by rfl, ?_⟩) ⟨V0, V1, V2⟩ ?_
      rotate_left
      · (intro wq hS; obtain ⟨s0, s1, s2⟩ := hS; go_simp <;> with_reducible rfl)
      (try simp only [Act.put, List.getElem_toArray, List.getElem_cons_succ, List.getElem_cons_zero, List.setIfInBounds_toArray, List.set_cons_zero, List.set_cons_succ])
      refine wpAnyH_take (i := 13) (v := ?_) rfl (by kernel_rfl) (by kernel_rfl) (by kernel_rfl) (fun _ _ _ h => h) (Or.inl ⟨by rfl, ?_⟩) ⟨V0, V1, V2⟩ ?_
      rotate_left
      · (intro wq hS; obtain ⟨s0, s1, s2⟩ := hS; go_simp <;> with_reducible rfl)
      (try simp only [Act.put, List.getElem_toArray, List.getElem_cons_succ, List.getElem_cons_zero, List.setIfInBounds_toArray, List.set_cons_zero, List.set_cons_succ])
      refine wpAnyH_take (i := 14) (v := ?_) rfl (by kernel_rfl) (by kernel_rfl) (by kernel_rfl) (fun _ _ _ h => h) (Or.inl ⟨by rfl, ?_⟩) ⟨V0, V1, V2⟩ ?_
      rotate_left
      · (intro wq hS; obtain ⟨s0, s1, s2⟩ := hS; go_simp <;> with_reducible rfl)
      (try simp only [Act.put, List.getElem_toArray, List.getElem_cons_succ, List.getElem_cons_zero, List.setIfInBounds_toArray, List.set_cons_zero, List.set_cons_succ])
      refine wpAnyH_ready (rs := [7]) (by kernel_rfl) (by simp) ?_
      refine AllReadyH.cons (i := 7) rfl (fun K hK => ?_) AllReadyH.nil
      refine step_convert_run (by rfl) (.tmp 89) 9 45 (by rfl) (by rfl) hconv2 ?_
      refine hK.out _ _ ⟨X0, X1, X2⟩ (fun _ => ?_)
      clear hK K
      (try simp only [Act.put, List.getElem_toArray, List.getElem_cons_succ, List.getElem_cons_zero, List.setIfInBounds_toArray, List.set_cons_zero, List.set_cons_succ])
      refine wpAnyH_ready (rs := [8]) (by kernel_rfl) (by simp) ?_
      refine AllReadyH.cons (i := 8) rfl (fun K hK => ?_) AllReadyH.nil
      go_simp
      refine HT2.out.mono ?_; rintro e w6 ⟨rfl, hb8⟩
      refine hK.out _ _ ⟨Z0 _ hb8, Z1 _ hb8, Z2 _ hb8⟩ (fun _ => ?_)
      clear hK K
      (try simp only [Act.put, List.getElem_toArray, List.getElem_cons_succ, List.getElem_cons_zero, List.setIfInBounds_toArray, List.set_cons_zero, List.set_cons_succ])
      refine wpAnyH_take (i := 15) (v := ?_) rfl (by kernel_rfl) (by kernel_rfl) (by kernel_rfl) (fun _ _ _ h => h) (Or.inl ⟨by rfl, ?_⟩) ⟨Z0 _ hb8, Z1 _ hb8, Z2 _ hb8⟩ ?_
      rotate_left
      · (intro wq hS; obtain ⟨s0, s1, s2⟩ := hS; go_simp <;> with_reducible rfl)
      (try simp only [Act.put, List.getElem_toArray, List.getElem_cons_succ, List.getElem_cons_zero, List.setIfInBounds_toArray, List.set_cons_zero, List.set_cons_succ])
      refine wpAnyH_take (i := 16) (v := ?_) rfl (by kernel_rfl) (by kernel_rfl) (by kernel_rfl) (fun _ _ _ h => h) (Or.inl ⟨by rfl, ?_⟩) ⟨Z0 _ hb8, Z1 _ hb8, Z2 _ hb8⟩ ?_
      rotate_left
      · (intro wq hS; obtain ⟨s0, s1, s2⟩ := hS; go_simp <;> with_reducible rfl)
      (try simp only [Act.put, List.getElem_toArray, List.getElem_cons_succ, List.getElem_cons_zero, List.setIfInBounds_toArray, List.set_cons_zero, List.set_cons_succ])
      refine wpAnyH_take (i := 17) (v := ?_) rfl (by kernel_rfl) (by kernel_rfl) (by kernel_rfl) (fun _ _ _ h => h) (Or.inl ⟨by rfl, ?_⟩) ⟨Z0 _ hb8, Z1 _ hb8, Z2 _ hb8⟩ ?_
      rotate_left
      · (intro wq hS; obtain ⟨s0, s1, s2⟩ := hS; go_simp <;> with_reducible rfl)
      (try simp only [Act.put, List.getElem_toArray, List.getElem_cons_succ, List.getElem_cons_zero, List.setIfInBounds_toArray, List.set_cons_zero, List.set_cons_succ])
      refine wpAnyH_done (by kernel_rfl) ?_ _
      refine NoPanic.normal ?_
      go_wp2_with fail
      go_ret
      exact ⟨rfl, B8.trans (hb8.mono B8.size)⟩
    · rw [hg]
      simp only [gotV]
      clear hg
      go_wp2_with fail
      go_ret
      exact ⟨rfl, B5.alloc B5.size _⟩
    · rw [hg]
      simp only [gotV]
      clear hg
      have hn1' : (1 : Int) ≤ (n : Int) := by omega
      go_wp2_with fail
      go_ret
      exact ⟨rfl, B5.alloc B5.size _⟩
    · rw [hg]
      simp only [gotV]
      clear hg
      have hn2' : (2 : Int) ≤ (n : Int) := by omega
      go_wp2_with fail
      go_ret
      exact ⟨rfl, B5.alloc B5.size _⟩
end Go.Proofs.Ytekiblpefdnfhaa
