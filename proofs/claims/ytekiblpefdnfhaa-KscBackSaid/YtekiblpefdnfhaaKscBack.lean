/- The walk of the law Back of layer ksc. -/
import Derived.Test.YtekiblpefdnfhaaKscLaws
namespace Go.Proofs.Ytekiblpefdnfhaa
open Go.RowKit
set_option maxRecDepth 100000

set_option maxHeartbeats 2000000 in
theorem ksc_Back (row u : Int) (w : World) : Calls Try.prog 13 #[.int .i64 row, .int .i32 u] w fun e w' => e = .returned (.bool true) ∧ Below w.heap.size w w' := by
  obtain ⟨x, hx⟩ : ∃ x, IntKind.u64.wrap row = x := ⟨_, rfl⟩
  have hx0 : 0 ≤ x := by rw [← hx, IntKind.wrap_u64]; omega
  obtain ⟨r, hr⟩ : ∃ r, 1 + x % 94 = r := ⟨_, rfl⟩
  have hr1 : 1 ≤ r := by omega
  have hr2 : r ≤ 94 := by omega
  go_enter Try.func13, Try.ntmps13
  go_wp2_with (first
    | (go_at_call 39; refine (ksc_works _).mono ?_; rintro e w1 ⟨rfl, hb1⟩)
    | (go_at_call 37; refine (ksc_Place _ _).mono ?_; rintro e w2 ⟨a, b, ok, rfl, hp, hb2⟩; rcases placeCases hp with ⟨rfl, hh, hv⟩ | rfl)
    | (go_at_call 35; refine (ksc_Scalar _ _ _).mono ?_; rintro e w3 ⟨rfl, hb3⟩)
    | (go_at_call 33; refine (ksc_Row _ _).mono ?_; rintro e w5 ⟨v, rfl, hown, hb5, hnil⟩))
  all_goals
    have hb : Below w.heap.size w w5 := by
      first
        | exact below_then (below_then (below_then hb1 hb2 (Nat.le_refl _)) hb3 (Nat.le_refl _)) hb5 (Nat.le_refl _)
        | exact below_then (below_then hb1 hb2 (Nat.le_refl _)) hb5 (Nat.le_refl _)
    (try clear hh hv)
    (try clear hb3)
    clear hb1 hb2 hb5 hp hx hr
    by_cases hL : kscRow r = []
    · obtain rfl := hnil hL
      have hno : ∀ c, has (kscRow r) c = false := fun c => by rw [hL]; exact has_nil c
      have HN := Lib.hid hno
      clear hnil hown hno hL
      go_loopw [11] (fun i wr => ∃ k : Nat, k ≤ 94 ∧ i = .int .i64 ((k : Int) + 1) ∧ Below w.heap.size w wr) (fun i _ => 95 - (intOf i).toNat)
      case atStart => exact ⟨0, by omega, rfl, hb⟩
      case round =>
        obtain ⟨k, hk, rfl, hbk⟩ := hrel
        clear hb
        by_cases hlt : k < 94
        · have hn := HN.out ((k : Int) + 1)
          go_wp2_with (go_at_call 35; refine (ksc_Scalar _ _ _).mono ?_; rintro e w6 ⟨rfl, hb6⟩)
          go_roundw
          case rel => exact ⟨k + 1, by omega, by go_num, below_then hbk hb6 (Nat.le_refl _)⟩
          case measure => simp [intOf]; omega
        · have hge : (94 : Int) ≤ k := by omega
          go_wp2_with fail
          go_ret
          exact ⟨rfl, hbk⟩
    · have hlen := kscRow_len r hL
      rw [hlen] at hown
      obtain ⟨g, cap, rfl, hg, hcap, hm⟩ := ownsRow_form hown (by omega)
      have HL := Lib.hid hL
      have HLen := Lib.hid hlen
      clear hnil hL hlen
      unfold maxLen at hm
      go_loopw [11] (fun i wr => ∃ k : Nat, k ≤ 94 ∧ i = .int .i64 ((k : Int) + 1) ∧ Below w.heap.size w wr ∧ wr.ownsRow 0 21 1 (.slice (some ⟨g, 0, none⟩) 94 cap) 94 ((kscRow r).map (Value.int .i32))) (fun i _ => 95 - (intOf i).toNat)
      case atStart => exact ⟨0, by omega, rfl, hb, ownsRow_low hown (Nat.zero_le _)⟩
      case round =>
        obtain ⟨k, hk, rfl, hbk, hownk⟩ := hrel
        clear hb hown
        by_cases hlt : k < 94
        · obtain ⟨y, hy⟩ : ∃ y, (kscRow r).getD k 0 = y := ⟨_, rfl⟩
          have hc : wr.cell? ⟨g, k, none⟩ = some (.int .i32 y) := by
            rw [hownk.cellAt k (by omega), List.getElem?_map, List.getElem?_eq_getElem (by rw [HLen.out]; exact hlt), ← hy, List.getD_eq_getElem?_getD, List.getElem?_eq_getElem (by rw [HLen.out]; exact hlt)]
            rfl
          have hgl : g < wr.heap.size := (hownk.lt g rfl).2
          by_cases hy2 : y = 65533
          · have hcn := cell_not (L := kscRow r) (j := k) (by rw [hy, hy2])
            obtain ⟨h1, h2⟩ := hcn
            subst hy2
            clear hy
            go_wp2_with fail
            refine (ksc_Scalar _ _ _).mono ?_
            rintro e w6 ⟨rfl, hb6⟩
            have hc6 := (hb6.cell (p := ⟨g, k, none⟩) hgl).trans hc
            go_wp2_with fail
            go_roundw
            case rel => exact ⟨k + 1, by omega, by go_num, below_then hbk hb6 (Nat.le_refl _), ownsRow_below hownk hb6⟩
            case measure => simp [intOf]; omega
          · have hcn := cell_has (L := kscRow r) (j := k) HL.out hlt (by rw [hy]; exact hy2)
            rw [hy] at hcn
            obtain ⟨h1, h2⟩ := hcn
            have hy3 : (y == 65533) = false := by simp [hy2]
            have hy4 : (y != 65533) = true := by simp [hy2]
            clear hy hy2
            go_wp2_with fail
            refine (ksc_Scalar _ _ _).mono ?_
            rintro e w6 ⟨rfl, hb6⟩
            have hc6 := (hb6.cell (p := ⟨g, k, none⟩) hgl).trans hc
            go_wp2_with fail
            refine (ksc_Place _ _).mono ?_
            rintro e w7 ⟨c, d, so, rfl, hp, hb7⟩
            obtain ⟨rfl, q1, q2, q3⟩ := leastCases hp hr1 hr2 (c := (k : Int) + 1) (by omega) (by omega) h1 h2
            have q4 : c ≤ r := by omega
            rcases q3 with q3 | ⟨rfl, q3⟩
            · have q5 : (c == r) = false := by rw [beq_eq_false_iff_ne]; omega
              go_wp2_with fail
              refine (ksc_Scalar _ _ _).mono ?_
              rintro e w8 ⟨rfl, hb8⟩
              go_wp2_with fail
              go_roundw
              case rel => exact ⟨k + 1, by omega, by go_num, below_then (below_then (below_then hbk hb6 (Nat.le_refl _)) hb7 (Nat.le_refl _)) hb8 (Nat.le_refl _), ownsRow_below (ownsRow_below (ownsRow_below hownk hb6) hb7) hb8⟩
              case measure => simp [intOf]; omega
            · go_wp2_with fail
              refine (ksc_Scalar _ _ _).mono ?_
              rintro e w8 ⟨rfl, hb8⟩
              go_wp2_with fail
              go_roundw
              case rel => exact ⟨k + 1, by omega, by go_num, below_then (below_then (below_then hbk hb6 (Nat.le_refl _)) hb7 (Nat.le_refl _)) hb8 (Nat.le_refl _), ownsRow_below (ownsRow_below (ownsRow_below hownk hb6) hb7) hb8⟩
              case measure => simp [intOf]; omega
        · have hge : (94 : Int) ≤ k := by omega
          go_wp2_with fail
          go_ret
          exact ⟨rfl, hbk⟩
end Go.Proofs.Ytekiblpefdnfhaa
