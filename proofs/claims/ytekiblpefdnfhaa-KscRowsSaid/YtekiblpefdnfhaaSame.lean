/- The walk of dragomanref03.SameRunes over two slices that read alike. -/
import Derived.Test.YtekiblpefdnfhaaProg
import Derived.Test.YtekiblpefdnfhaaWords
import Derived.Lib.Hide
import Derived.Deep.QuietTactic
import Derived.BigQuiet
namespace Go.Proofs.Ytekiblpefdnfhaa
open Go.RowKit
set_option maxRecDepth 100000

/-- a slice's block holds the numbers of a list -/
def Reads32 (w : World) (g : Nat) (L : List Int) : Prop := ∀ j, j < L.length → w.cell? ⟨g, j, none⟩ = some (.int .i32 (L.getD j 0))
theorem reads32_own {w : World} {B E g n cap : Nat} {L : List Int} (h : w.ownsRow B E 1 (.slice (some ⟨g, 0, none⟩) n cap) n (L.map (Value.int .i32))) : Reads32 w g L := by
  intro j hj
  have hn : L.length = n := by have := h.1; simpa using this
  rw [h.cellAt j (by omega), List.getElem?_map, List.getElem?_eq_getElem hj, List.getD_eq_getElem?_getD, List.getElem?_eq_getElem hj]
  rfl
theorem Reads32.drewN {w : World} {g : Nat} {L : List Int} (h : Reads32 w g L) (n : Nat) : Reads32 (w.drewN n) g L := h

/-- what lies in a slice stays while another block's cell is written -/
theorem ownsRow_far {w : World} {B E size n cap g1 g2 j : Nat} {xs : List Value} (h : w.ownsRow B E size (.slice (some ⟨g2, 0, none⟩) n cap) n xs) (hne : g1 ≠ g2) (u : Value) : (w.setCell ⟨g1, j, none⟩ u).ownsRow B E size (.slice (some ⟨g2, 0, none⟩) n cap) n xs := by
  refine ⟨h.1, ?_⟩
  rcases h.2 with h2 | ⟨g, c, cur, hv, hg, hh, r⟩
  · exact .inl h2
  · refine .inr ⟨g, c, cur, hv, hg, ?_, r⟩
    have e : g2 = g := by injection hv with h1; injection h1 with h1; injection h1
    subst e
    rw [Below.heap_setCell _ _ _ _ (fun h => hne h.symm)]
    exact hh
theorem same_nil (w : World) : Calls Try.prog 20 #[.slice none 0 0, .slice none 0 0] w fun e w' => e = .returned (.bool true) ∧ ∃ n, w' = w.drewN n := by
  go_enter Try.func20, Try.ntmps20
  go_wp2
  refine wp_loop_rounds 1 ?_
  rw [rounds_succ]
  go_wp2
  go_ret
  exact ⟨rfl, 0, rfl⟩
theorem same_rows (g1 g2 c1 c2 n : Nat) (L : List Int) (w : World) (hn : L.length = n) (h94 : n ≤ 94) (h1 : Reads32 w g1 L) (h2 : Reads32 w g2 L) :
    Calls Try.prog 20 #[.slice (some ⟨g1, 0, none⟩) n c1, .slice (some ⟨g2, 0, none⟩) n c2] w fun e w' => e = .returned (.bool true) ∧ ∃ m, w' = w.drewN m := by
  have HN := Lib.hid hn
  clear hn
  go_enter Try.func20, Try.ntmps20
  go_wp2
  go_loopw [5] (fun i wr => ∃ k : Nat, k ≤ n ∧ i = .int .i64 k ∧ ∃ m, wr = w.drewN m) (fun i _ => n - (intOf i).toNat)
  case atStart => exact ⟨0, Nat.zero_le _, rfl, 0, rfl⟩
  case round =>
    obtain ⟨k, hk, rfl, m, rfl⟩ := hrel
    by_cases hlt : k < n
    · have e1 := h1 k (by rw [HN.out]; exact hlt)
      have e2 := h2 k (by rw [HN.out]; exact hlt)
      generalize L.getD k 0 = x at e1 e2
      have b0 : (0 : Int) ≤ (k : Int) := by omega
      have b1 : (k : Int) < (n : Int) := by omega
      go_wp2_with fail
      go_quiet (fail)
      go_wp2_with fail
      go_roundw
      case rel => exact ⟨k + 1, by omega, by go_num, _, by first | rfl | (rw [World.drewN_drewN])⟩
      case measure => simp [intOf]; omega
    · have hge : n ≤ k := by omega
      go_wp2_with fail
      go_ret
      exact ⟨rfl, m, rfl⟩
end Go.Proofs.Ytekiblpefdnfhaa
