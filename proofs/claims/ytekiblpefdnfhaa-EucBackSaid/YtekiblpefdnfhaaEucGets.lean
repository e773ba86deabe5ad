/- The walk of the law EucGets. -/
import Derived.Test.YtekiblpefdnfhaaEucGot
import Derived.Laws.AppendOwn
import Derived.Laws.AppendOwnNone
namespace Go.Proofs.Ytekiblpefdnfhaa
open Go.RowKit
set_option maxRecDepth 100000

theorem Has_is (k : Int) (w : World) : Calls Try.prog 46 #[.int .i64 k] w fun e w' => e = .returned (.bool (decide (k = 81 ∨ k = 84 ∨ k = 86))) ∧ Below w.heap.size w w' := by
  by_cases h1 : k = 81
  · subst h1
    go_enter Try.func46, Try.ntmps46
    go_wp2_with (go_at_call 58; refine (rowsOf_81 _).mono ?_; rintro e w1 ⟨rfl, rfl⟩)
    go_ret
    exact ⟨rfl, by go_grown⟩
  by_cases h2 : k = 84
  · subst h2
    go_enter Try.func46, Try.ntmps46
    go_wp2_with (go_at_call 58; refine (rowsOf_84 _).mono ?_; rintro e w1 ⟨rfl, rfl⟩)
    go_ret
    exact ⟨rfl, by go_grown⟩
  by_cases h3 : k = 86
  · subst h3
    go_enter Try.func46, Try.ntmps46
    go_wp2_with (go_at_call 58; refine (rowsOf_86 _).mono ?_; rintro e w1 ⟨rfl, rfl⟩)
    go_ret
    exact ⟨rfl, by go_grown⟩
  have e : decide (k = 81 ∨ k = 84 ∨ k = 86) = false := decide_eq_false (by simp [h1, h2, h3])
  rw [e]
  have g1 : (k == 81) = false := by simp [h1]
  have g2 : (k == 84) = false := by simp [h2]
  have g3 : (k == 86) = false := by simp [h3]
  clear e h1 h2 h3
  go_enter Try.func46, Try.ntmps46
  go_wp2_with (go_at_call 58; refine (rowsOf_none k g1 g2 g3 _).mono ?_; rintro e w1 ⟨rfl, rfl⟩)
  go_ret
  exact ⟨rfl, by go_grown⟩



/-- a row of n bytes -/
def IsBytes (w : World) (A : Option Addr) (n : Nat) (xs : List Int) : Prop :=
  xs.length = n ∧ (∀ y ∈ xs, 0 ≤ y ∧ y ≤ 255) ∧ (0 < n → ∃ x, A = some x ∧ ∀ j, j < n → w.cell? (x.add j) = some (.int .u8 (xs.getD j 0)))
theorem IsBytes.begins {w : World} {A : Option Addr} {n : Nat} {xs : List Int} (h : IsBytes w A n xs) : Begins w A n (xs.getD 0 0) (xs.getD 1 0) := by
  intro hn
  obtain ⟨hl, hw, hc'⟩ := h
  obtain ⟨⟨b, o, sp⟩, rfl, hc⟩ := hc' hn
  clear hc'
  have h0 := hc 0 hn
  have hsp : sp = none := by simpa [Addr.add] using World.cell?_spot h0
  subst hsp
  have hlt := World.block_lt_of_cell? w _ h0
  have hg : ∀ j, j < n → 0 ≤ xs.getD j 0 ∧ xs.getD j 0 ≤ 255 := fun j hj => by
    rw [List.getD_eq_getElem?_getD, List.getElem?_eq_getElem (by omega)]
    exact hw _ (List.getElem_mem _)
  refine ⟨b, o, rfl, by simpa [Addr.add] using hlt, by simpa [Addr.add] using h0, (hg 0 hn).1, (hg 0 hn).2, fun h1 => ⟨by simpa [Addr.add] using hc 1 h1, (hg 1 h1).1, (hg 1 h1).2⟩⟩
theorem IsBytes.below {w w' : World} {A : Option Addr} {n : Nat} {xs : List Int} (h : IsBytes w A n xs) (hb : Below w.heap.size w w') : IsBytes w' A n xs := by
  refine ⟨h.1, h.2.1, fun hn => ?_⟩
  obtain ⟨x, hx, hc⟩ := h.2.2 hn
  exact ⟨x, hx, fun j hj => below_keep hb (hc j hj)⟩
theorem IsBytes.news {w w' : World} {x : Addr} {n : Nat} {xs : List Int} (h : IsBytes w (some x) n xs) (hb : Below w.heap.size w w') (j : Nat) (u : Value) (hj : (xs.map (Value.int .u8))[j]? = some u) : w'.cell? (x.add j) = some u := by
  have hl := h.1
  have hjx : j < xs.length := by
    have := (List.getElem?_eq_some_iff.1 hj).1
    simpa using this
  obtain ⟨x', hx, hc⟩ := h.2.2 (by omega)
  obtain rfl : x = x' := by simpa using hx
  rw [below_keep hb (hc j (by omega)), ← hj, List.getElem?_map, List.getElem?_eq_getElem hjx, List.getD_eq_getElem?_getD, List.getElem?_eq_getElem hjx]
  rfl
/-- such a row as a text -/
theorem IsBytes.conv {w : World} {x : Addr} {n cap : Nat} {xs : List Int} (h : IsBytes w (some x) n xs) :
    (convert 45 9 (.slice (some x) n cap)).run Try.prog w = .ok (.string ⟨(xs.map fun y => UInt8.ofNat y.toNat).toArray⟩) w := by
  obtain ⟨hl, hw, hc⟩ := h
  have hl2 : (xs.map fun y => UInt8.ofNat y.toNat).length = n := by simpa using hl
  rw [← hl2]
  refine run_convert_bytes_back w 45 9 5 x cap _ Try.underlying45 Try.underlying5 Try.underlying9 (fun j hj => ?_)
  have hj' : j < n := by omega
  obtain ⟨x', hx, hc⟩ := hc (by omega)
  obtain rfl : x = x' := by simpa using hx
  have hjx : j < xs.length := by omega
  rw [hc j hj', List.getElem_map, List.getD_eq_getElem?_getD, List.getElem?_eq_getElem hjx, Option.getD_some]
  have := hw _ (List.getElem_mem hjx)
  congr 2
  simp only [UInt8.toNat_ofNat']
  omega
theorem IsBytes.of_owns {w : World} {B g n cap : Nat} {xs : List Int} (h : w.ownsRow B 5 1 (.slice (some ⟨g, 0, none⟩) n cap) n (xs.map (Value.int .u8))) (hl : xs.length = n) (hw : ∀ y ∈ xs, 0 ≤ y ∧ y ≤ 255) : IsBytes w (some ⟨g, 0, none⟩) n xs := by
  refine ⟨hl, hw, fun _ => ⟨_, rfl, fun j hj => ?_⟩⟩
  have hp : (⟨g, 0, none⟩ : Addr).add j = ⟨g, j, none⟩ := by unfold Addr.add; split <;> simp_all
  have hjx : j < xs.length := by omega
  rw [hp, h.cellAt j (by omega), List.getElem?_map, List.getElem?_eq_getElem hjx, List.getD_eq_getElem?_getD, List.getElem?_eq_getElem hjx]
  rfl

theorem info_byte : (Try.prog.info? 5).map (fun i => (i.zero, i.size, i.bytes)) = some (some (.int .u8 0), 1, 1) := by kernel_rfl
theorem conv0 (A : Option Addr) (c : Nat) (w : World) : (convert 45 9 (.slice A 0 c)).run Try.prog w = .ok (.string ByteArray.empty) w := by
  rw [run_convert_bytes_string w _ _ _ _ 0 c Try.underlying45 Try.underlying5 Try.underlying9]
  cases A <;> simp [Conv.bytesToString, loadCells]
  all_goals rfl

theorem euc_Gets_nil (k : Int) (x1 x2 x3 x4 : Int) (w : World)
    (h1 : ∀ A cap w, Calls Try.prog 44 #[.int .i64 k, .slice A 0 cap] w fun e w' => e = .returned (.agg #[.int .i64 x1, .int .i64 x2, .int .i64 x3, .int .i32 x4, .int .i32 0, .int .i64 0, .int .i64 0, .int .u32 0, .int .i32 0]) ∧ Below w.heap.size w w')
    (h2 : ∀ A cap w, Calls Try.prog 45 #[.int .i64 k, .slice A 0 cap] w fun e w' => e = .returned (.agg #[.int .i64 x1, .int .i64 x2, .int .i64 x3, .int .i32 x4, .int .i32 0, .int .i64 0, .int .i64 0, .int .u32 0, .int .i32 0]) ∧ Below w.heap.size w w') :
    Calls Try.prog 16 #[.int .i64 k, .slice none 0 0] w fun e w' => e = .returned (.bool true) ∧ Below w.heap.size w w' := by
  have H1 := Lib.hid h1
  have H2 := Lib.hid h2
  clear h1 h2
  have cv0 := conv0
  go_enter Try.func16, Try.ntmps16
  go_wp2_with fail
  refine (H1.out _ _ _).mono ?_
  rintro e w1 ⟨rfl, hb1⟩
  go_wp2_with fail
  refine (H2.out _ _ _).mono ?_
  rintro e w2 ⟨rfl, hb2⟩
  go_wp2_with fail
  refine (Has_is _ _).mono ?_
  rintro e w3 ⟨rfl, hb3⟩
  go_wp2_with fail
  refine (refHas _ _).mono ?_
  rintro e w4 ⟨rfl, rfl⟩
  go_wp2_with fail
  go_ret
  have h0 : Below w.heap.size w w1 := (Below.alloc (Below.refl w.heap.size w) (Nat.le_refl _) (.cells #[] 5)).trans (hb1.mono (by simp))
  exact ⟨rfl, below_then (below_then h0 hb2 (Nat.le_refl _)) hb3 (Nat.le_refl _)⟩

theorem euc_Gets_row (k : Int) (x1 x2 x3 x4 : Int) (x : Addr) (n cap : Nat) (xs : List Int) (w : World) (hn : n ≤ 140737488355328) (hx : IsBytes w (some x) n xs)
    (h1 : ∀ A cap w, Begins w A n (xs.getD 0 0) (xs.getD 1 0) → Calls Try.prog 44 #[.int .i64 k, .slice A n cap] w fun e w' => e = .returned (.agg #[.int .i64 x1, .int .i64 x2, .int .i64 x3, .int .i32 x4, .int .i32 0, .int .i64 0, .int .i64 0, .int .u32 0, .int .i32 0]) ∧ Below w.heap.size w w')
    (h2 : ∀ A cap w, Begins w A n (xs.getD 0 0) (xs.getD 1 0) → Calls Try.prog 45 #[.int .i64 k, .slice A n cap] w fun e w' => e = .returned (.agg #[.int .i64 x1, .int .i64 x2, .int .i64 x3, .int .i32 x4, .int .i32 0, .int .i64 0, .int .i64 0, .int .u32 0, .int .i32 0]) ∧ Below w.heap.size w w') :
    Calls Try.prog 16 #[.int .i64 k, .slice (some x) n cap] w fun e w' => e = .returned (.bool true) ∧ Below w.heap.size w w' := by
  have H1 := Lib.hid h1
  have H2 := Lib.hid h2
  have HX := Lib.hid hx
  clear h1 h2 hx
  obtain ⟨i0, hi, hz0, hz1, hz2⟩ := info_parts info_byte
  go_enter Try.func16, Try.ntmps16
  go_wp2_with (at_builtin; refine wpList_append_own _ rfl (.tmp 6) (.tmp 7) 45 rfl w.heap.size 5 i0 (.int .u8 0) 1 1 Try.underlying45 hi hz0 hz1 hz2 rfl (by decide) _ 0 [] rfl (World.ownsRow_lit w #[] 0 (Nat.le_refl _) (by unfold maxLen; omega) rfl) x n cap (xs.map (Value.int .u8)) rfl (by rw [List.length_map, HX.out.1, Nat.mul_one]) (HX.out.news (Below.alloc (Below.refl _ _) (Nat.le_refl _) _)) (ints_oneCell .u8 xs) (by unfold maxLen; omega) (by omega) (by simp) ?_; intro v1 wa hown hgrow hnil)
  have hgr : (w.alloc (.cells #[] 5)).grownBy wa (some w.heap.size) := hgrow
  have hA : Below w.heap.size w wa := Below.grown (Below.alloc (Below.refl w.heap.size w) (Nat.le_refl _) (.cells #[] 5)) hgr (by simp) (by rintro j hj; injection hj; omega)
  rw [Nat.zero_add, List.nil_append] at hown
  obtain ⟨g, cap', rfl⟩ : ∃ g cap', v1 = .slice (some ⟨g, 0, none⟩) n cap' := by
    rcases hown.2 with ⟨h, _⟩ | ⟨g, c, _, h, _⟩
    · have := (hnil.1 h).1
      cases this
    · exact ⟨g, c, h⟩
  have HO := Lib.hid (IsBytes.of_owns hown HX.out.1 HX.out.2.1)
  clear hnil hgrow hgr hown
  refine (H1.out _ _ _ HO.out.begins).mono ?_
  rintro e w1 ⟨rfl, hb1⟩
  go_wp2_with fail
  refine (H2.out _ _ _ (HX.out.below (below_then hA hb1 (Nat.le_refl _))).begins).mono ?_
  rintro e w2 ⟨rfl, hb2⟩
  have c1 := ((HO.out.below hb1).below hb2).conv (cap := cap')
  have c2 := ((HX.out.below (below_then hA hb1 (Nat.le_refl _))).below hb2).conv (cap := cap)
  go_wp2_with fail
  refine (Has_is _ _).mono ?_
  rintro e w3 ⟨rfl, hb3⟩
  go_wp2_with fail
  refine (refHas _ _).mono ?_
  rintro e w4 ⟨rfl, rfl⟩
  go_wp2_with fail
  go_ret
  exact ⟨rfl, below_then (below_then (below_then hA hb1 (Nat.le_refl _)) hb2 (Nat.le_refl _)) hb3 (Nat.le_refl _)⟩

/-- Get of any kind and bytes is told alike -/
theorem euc_Gets (k : Int) (A : Option Addr) (n cap : Nat) (xs : List Int) (w : World) (hn : n ≤ 140737488355328) (hx : IsBytes w A n xs) (hA : A = none → n = 0 ∧ cap = 0) :
    Calls Try.prog 16 #[.int .i64 k, .slice A n cap] w fun e w' => e = .returned (.bool true) ∧ Below w.heap.size w w' := by
  have hbz : ∀ (A : Option Addr) (w : World), Begins w A 0 0 0 := fun A w h => absurd h (Nat.lt_irrefl _)
  by_cases hk : IsKind k
  · cases A with
    | none =>
      obtain ⟨rfl, rfl⟩ := hA rfl
      rcases hk with rfl | rfl | rfl
      · exact euc_Gets_nil 81 _ _ _ _ w (fun A c w => Get_all_81 A 0 c 0 0 w (hbz A w)) (fun A c w => RGet_all_81 A 0 c 0 0 w (hbz A w))
      · exact euc_Gets_nil 84 _ _ _ _ w (fun A c w => Get_all_84 A 0 c 0 0 w (hbz A w)) (fun A c w => RGet_all_84 A 0 c 0 0 w (hbz A w))
      · exact euc_Gets_nil 86 _ _ _ _ w (fun A c w => Get_all_86 A 0 c 0 0 w (hbz A w)) (fun A c w => RGet_all_86 A 0 c 0 0 w (hbz A w))
    | some x =>
      rcases hk with rfl | rfl | rfl
      · exact euc_Gets_row 81 _ _ _ _ x n cap xs w hn hx (fun A c w h => Get_all_81 A n c _ _ w h) (fun A c w h => RGet_all_81 A n c _ _ w h)
      · exact euc_Gets_row 84 _ _ _ _ x n cap xs w hn hx (fun A c w h => Get_all_84 A n c _ _ w h) (fun A c w h => RGet_all_84 A n c _ _ w h)
      · exact euc_Gets_row 86 _ _ _ _ x n cap xs w hn hx (fun A c w h => Get_all_86 A n c _ _ w h) (fun A c w h => RGet_all_86 A n c _ _ w h)
  · have h1 : (k == 81) = false := by rw [beq_eq_false_iff_ne]; exact fun h => hk (.inl h)
    have h2 : (k == 84) = false := by rw [beq_eq_false_iff_ne]; exact fun h => hk (.inr (.inl h))
    have h3 : (k == 86) = false := by rw [beq_eq_false_iff_ne]; exact fun h => hk (.inr (.inr h))
    cases A with
    | none =>
      obtain ⟨rfl, rfl⟩ := hA rfl
      exact euc_Gets_nil k _ _ _ _ w (fun A c w => Get_none k _ h1 h2 h3 w) (fun A c w => RGet_none k _ hk w)
    | some x => exact euc_Gets_row k _ _ _ _ x n cap xs w hn hx (fun A c w _ => Get_none k _ h1 h2 h3 w) (fun A c w _ => RGet_none k _ hk w)
end Go.Proofs.Ytekiblpefdnfhaa
