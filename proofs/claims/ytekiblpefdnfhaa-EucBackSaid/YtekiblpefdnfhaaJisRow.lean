/- The walk of layer jis: Row. -/
import Derived.Test.YtekiblpefdnfhaaJisList
import Derived.Lib.Hide
namespace Go.Proofs.Ytekiblpefdnfhaa
open Go.RowKit
set_option maxRecDepth 100000

theorem jis_Row_nil (r : Int) (h : jisRow r = []) (w : World) : Calls Try.prog 18 #[.int .i64 r] w fun e w' => e = .returned (.slice none 0 0) ∧ w = w' := by
  have H := Lib.hid h
  clear h
  go_enter Try.func18, Try.ntmps18
  go_wp2_with (go_at_call 49; refine (jis_listOf_nil r H.out _).mono ?_; rintro e w' ⟨rfl, rfl⟩)
  go_ret
  exact ⟨rfl, rfl⟩

theorem jis_info : (Try.prog.info? 21).map (fun i => (i.zero, i.size, i.bytes)) = some (some (.int .i32 0), 1, 4) := by kernel_rfl

theorem jis_step {w wr w1 : World} {L : List Int} {k : Nat} {v v' : Value} {o : Obj} (hk : k < L.length)
    (hown : wr.ownsRow (w.heap.size + 1) 21 1 v k ((L.map (Value.int .i32)).take k)) (hl : Lies wr w.heap.size L) (hb : Below w.heap.size w wr) (hlt : w.heap.size < wr.heap.size)
    (hown' : w1.ownsRow (w.heap.size + 1) 21 1 v' (k + 1) ((L.map (Value.int .i32)).take k ++ [.int .i32 (L.getD k 0)])) (hgrow : (wr.alloc o).grownBy w1 v.ownBlock) :
    w1.ownsRow (w.heap.size + 1) 21 1 v' (k + 1) ((L.map (Value.int .i32)).take (k + 1)) ∧ Lies w1 w.heap.size L ∧ Below w.heap.size w w1 ∧ w.heap.size < w1.heap.size := by
  have hne : some w.heap.size ≠ v.ownBlock := fun h => by have := hown.lt _ h.symm; omega
  have hb1 := hb.alloc hb.size o
  refine ⟨by rw [take_snoc_map L k hk]; exact hown', ?_, hb1.grown hgrow (by have := hb1.size; simpa using this) (fun j hj => by have := (hown.lt j hj).1; omega), ?_⟩
  · refine Lies.grown ?_ hgrow hne
    intro j hj
    rw [World.cell?_alloc_past _ _ _ hlt]
    exact hl j hj
  · have := hgrow.size
    simp at this
    omega

set_option maxHeartbeats 1000000 in
theorem jis_Row_at (r : Int) (h : jisRow r ≠ []) (w : World) : Calls Try.prog 18 #[.int .i64 r] w (RowPost 21 (jisRow r) w) := by
  obtain ⟨i0, hi, hz0, hz1, hz2⟩ := info_parts jis_info
  have hL := jisRow_len r h
  have hlies : Lies (w.alloc (.cells (cellsOf (jisRow r)) 74)) w.heap.size (jisRow r) := lies_new hL
  have HF := Lib.hid (fun j : Nat => (jisRow_fits r).at_ j)
  have HC := Lib.hid (jis_listOf_at r h w)
  have HH := Lib.hid h
  clear h
  generalize jisRow r = L at *
  have HL := Lib.hid hL
  clear hL
  go_enter Try.func18, Try.ntmps18
  go_wp2_with (go_at_call 49; refine HC.out.mono ?_; rintro e w' ⟨rfl, rfl⟩)
  go_loopw [4, 12] (fun v i wr => ∃ k : Nat, k ≤ 94 ∧ i = .int .i64 k ∧ wr.ownsRow (w.heap.size + 1) 21 1 v k ((L.map (Value.int .i32)).take k) ∧ Lies wr w.heap.size L ∧ Below w.heap.size w wr ∧ w.heap.size < wr.heap.size) (fun _ i _ => 94 - (intOf i).toNat)
  case atStart => exact ⟨0, by omega, rfl, by simpa using World.ownsRow_nil _ _ _ _, hlies, (Below.refl _ _).alloc (Nat.le_refl _) _, by simp⟩
  case round =>
    obtain ⟨k, hk, rfl, hown, hl, hb, hlt⟩ := hrel
    clear hlies
    by_cases hk94 : k < 94
    · have hc := hl k hk94
      have hbd := HF.out k
      obtain ⟨x, hx⟩ : ∃ x, x = L.getD k 0 := ⟨_, rfl⟩
      rw [← hx] at hc hbd
      have HX := Lib.hid hx
      clear hx
      go_wp2_with (at_builtin; refine wpList_append_own _ rfl _ _ 22 rfl (w.heap.size + 1) 21 i0 (.int .i32 0) 1 4 Try.underlying22 hi hz0 hz1 hz2 rfl (by decide) _ _ _ rfl (hown.alloc _) ⟨wr.heap.size, 0, none⟩ 1 1 [.int .i32 x] rfl rfl ?c1 ?c2 ?c3 ?c4 ?c5 ?_)
      case c1 =>
        intro j u hj
        match j, hj with
        | 0, hj => simp at hj; subst hj; simp [Addr.add]
      case c2 => intro u hu; simp at hu; subst hu; rfl
      case c3 => unfold maxLen; omega
      case c4 => omega
      case c5 => simp; omega
      intro v' w1 hown' hgrow _
      have R := jis_step (by rw [HL.out]; exact hk94) hown hl hb hlt (by rw [← HX.out]; exact hown') hgrow
      clear hown' hgrow hown hl hb hlt hc
      go_wp2_with fail
      go_roundw
      case rel => exact ⟨k + 1, by omega, by go_num, R.1, R.2.1, R.2.2.1, R.2.2.2⟩
      case measure => simp [intOf]; omega
    · have hge : (94 : Int) ≤ k := by omega
      have e : k = 94 := by omega
      have R : wr.ownsRow (w.heap.size + 1) 21 1 u4 L.length (L.map (Value.int .i32)) := by
        rw [HL.out, ← e]
        have e2 : (L.map (Value.int .i32)).take k = L.map (Value.int .i32) := List.take_of_length_le (by rw [List.length_map, HL.out]; omega)
        rw [e2] at hown
        exact hown
      clear e hown hl
      go_wp2_with fail
      go_ret
      exact ⟨_, rfl, ownsRow_low R (by omega), hb, fun h0 => absurd h0 HH.out⟩

/-- Row, of any row -/
theorem jis_Row (r : Int) (w : World) : Calls Try.prog 18 #[.int .i64 r] w (RowPost 21 (jisRow r) w) := by
  by_cases h : jisRow r = []
  · refine (jis_Row_nil r h w).mono fun e w' ⟨he, hw⟩ => ?_
    subst he hw
    rw [h]
    exact ⟨_, rfl, World.ownsRow_nil _ _ _ _, Below.refl _ _, fun _ => rfl⟩
  · exact jis_Row_at r h w
end Go.Proofs.Ytekiblpefdnfhaa
