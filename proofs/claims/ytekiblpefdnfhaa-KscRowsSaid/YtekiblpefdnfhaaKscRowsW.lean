/- The walk of the law Rows of layer ksc. -/
import Derived.Test.YtekiblpefdnfhaaKscRow
import Derived.Test.YtekiblpefdnfhaaKscRefRow
import Derived.Test.YtekiblpefdnfhaaSame
namespace Go.Proofs.Ytekiblpefdnfhaa
open Go.RowKit
set_option maxRecDepth 100000

theorem ksc_Rows_nil (r : Int) (h : kscRow r = []) (w : World) : Calls Try.prog 11 #[.int .i64 r] w fun e w' => e = .returned (.bool true) ∧ Below w.heap.size w w' := by
  have H := Lib.hid h
  clear h
  go_enter Try.func11, Try.ntmps11
  go_wp2_with fail
  refine (ksc_Row_nil r H.out _).mono ?_
  rintro e w1 ⟨rfl, rfl⟩
  go_wp2_with fail
  refine (refksc_Row r _).mono ?_
  rintro e w2 ⟨v2, rfl, hown2, hb2, hnil2⟩
  obtain rfl := hnil2 H.out
  clear hown2 hnil2
  go_wp2_with fail
  refine (same_nil _).mono ?_
  rintro e w3 ⟨rfl, n3, rfl⟩
  go_wp2_with fail
  refine wp_loop_rounds 1 ?_
  rw [rounds_succ]
  go_wp2_with fail
  refine (ksc_Row_nil r H.out _).mono ?_
  rintro e w4 ⟨rfl, rfl⟩
  go_wp2_with fail
  refine (same_nil _).mono ?_
  rintro e w5 ⟨rfl, n5, rfl⟩
  go_wp2_with fail
  go_ret
  exact ⟨rfl, below_drewN hb2 _⟩

set_option maxHeartbeats 1000000 in
theorem ksc_Rows_at (r : Int) (h : kscRow r ≠ []) (w : World) : Calls Try.prog 11 #[.int .i64 r] w fun e w' => e = .returned (.bool true) ∧ Below w.heap.size w w' := by
  have hL := kscRow_len r h
  have HC := Lib.hid (ksc_Row r)
  have HR := Lib.hid (refksc_Row r)
  clear h
  generalize kscRow r = L at *
  have HL := Lib.hid hL
  clear hL
  go_enter Try.func11, Try.ntmps11
  go_wp2_with fail
  refine (HC.out _).mono ?_
  rintro e w1 ⟨v1, rfl, hown1, hb1, _⟩
  rw [HL.out] at hown1
  obtain ⟨g1, c1, rfl, hg1, hc1, hm1⟩ := ownsRow_form hown1 (by omega)
  have l1 := (hown1.lt g1 rfl).2
  go_wp2_with fail
  refine (HR.out _).mono ?_
  rintro e w2 ⟨v2, rfl, hown2, hb2, _⟩
  rw [HL.out] at hown2
  obtain ⟨g2, c2, rfl, hg2, hc2, hm2⟩ := ownsRow_form hown2 (by omega)
  have l2 := (hown2.lt g2 rfl).2
  go_wp2_with fail
  refine (same_rows g1 g2 c1 c2 94 L _ HL.out (by omega) (reads32_own (ownsRow_below hown1 hb2)) (reads32_own hown2)).mono ?_
  rintro e w3 ⟨rfl, n3, rfl⟩
  have B1 : Below w.heap.size w w2 := below_then hb1 hb2 (Nat.le_refl _)
  have O1 : (w2.drewN n3).ownsRow 0 21 1 (.slice (some ⟨g1, 0, none⟩) 94 c1) 94 (L.map (Value.int .i32)) := ownsRow_low (w := w2) (ownsRow_below hown1 hb2) (Nat.zero_le _)
  have O2 : (w2.drewN n3).ownsRow 0 21 1 (.slice (some ⟨g2, 0, none⟩) 94 c2) 94 (L.map (Value.int .i32)) := ownsRow_low hown2 (Nat.zero_le _)
  have B2 : Below w.heap.size w (w2.drewN n3) := below_drewN B1 _
  have hne : g1 ≠ g2 := by omega
  unfold maxLen at hm1 hm2
  have NE := Lib.hid hne
  clear hown1 hown2 hb1 hb2 B1 hne
  go_wp2_with fail
  go_loopw [5] (fun i wr => ∃ k : Nat, k ≤ 94 ∧ i = .int .i64 k ∧ Below w.heap.size w wr ∧ (∃ xs, wr.ownsRow 0 21 1 (.slice (some ⟨g1, 0, none⟩) 94 c1) 94 xs) ∧ wr.ownsRow 0 21 1 (.slice (some ⟨g2, 0, none⟩) 94 c2) 94 (L.map (Value.int .i32))) (fun i _ => 94 - (intOf i).toNat)
  case atStart => exact ⟨0, by omega, rfl, B2, ⟨_, O1⟩, O2⟩
  case round =>
    obtain ⟨k, hk, rfl, hb, ⟨xs, ho1⟩, ho2⟩ := hrel
    clear O1 O2 B2
    by_cases hlt : k < 94
    · have hxs : xs.length = 94 := by have := ho1.1; omega
      have hc : wr.cell? ⟨g1, k, none⟩ = some (xs.getD k undef) := by
        rw [ho1.cellAt k (by omega), List.getD_eq_getElem?_getD, List.getElem?_eq_getElem (by omega)]; rfl
      have hf : wr.frozen? ⟨g1, k, none⟩ = false := ho1.frozenAt k
      generalize xs.getD k undef = y at hc
      have S1 := (ho1.stored k (.int .i32 7)).1
      have S2 : (wr.setCell ⟨g1, k, none⟩ (.int .i32 7)).ownsRow 0 21 1 (.slice (some ⟨g2, 0, none⟩) 94 c2) 94 (L.map (Value.int .i32)) := ownsRow_far ho2 NE.out _
      have S3 : Below w.heap.size w (wr.setCell ⟨g1, k, none⟩ (.int .i32 7)) := hb.setCell (p := ⟨g1, k, none⟩) hg1 _
      have T1 := Lib.hid S1
      have T2 := Lib.hid S2
      have T3 := Lib.hid S3
      clear S1 S2 S3 ho1 ho2 hb hxs
      go_wp2_with fail
      go_roundw
      case rel => exact ⟨k + 1, by omega, by go_num, T3.out, ⟨_, T1.out⟩, T2.out⟩
      case measure => simp [intOf]; omega
    · have hge : (94 : Int) ≤ k := by omega
      clear ho1
      go_wp2_with fail
      refine (HC.out _).mono ?_
      rintro e w4 ⟨v4, rfl, hown4, hb4, _⟩
      rw [HL.out] at hown4
      obtain ⟨g4, c4, rfl, hg4, hc4, hm4⟩ := ownsRow_form hown4 (by omega)
      go_wp2_with fail
      refine (same_rows g4 g2 c4 c2 94 L _ HL.out (by omega) (reads32_own hown4) (reads32_own (ownsRow_below ho2 hb4))).mono ?_
      rintro e w5 ⟨rfl, n5, rfl⟩
      go_wp2_with fail
      go_ret
      exact ⟨rfl, below_drewN (below_then hb hb4 (Nat.le_refl _)) _⟩

/-- Rows, of any row -/
theorem ksc_Rows (r : Int) (w : World) : Calls Try.prog 11 #[.int .i64 r] w fun e w' => e = .returned (.bool true) ∧ Below w.heap.size w w' := by
  by_cases h : kscRow r = []
  · exact ksc_Rows_nil r h w
  · exact ksc_Rows_at r h w
end Go.Proofs.Ytekiblpefdnfhaa
