/- The walk of the law EucSets. -/
import Derived.Test.YtekiblpefdnfhaaEucSet81
import Derived.Test.YtekiblpefdnfhaaEucSet84
import Derived.Test.YtekiblpefdnfhaaEucSet86
import Derived.Test.YtekiblpefdnfhaaEucRefSet81
import Derived.Test.YtekiblpefdnfhaaEucRefSet84
import Derived.Test.YtekiblpefdnfhaaEucRefSet86
namespace Go.Proofs.Ytekiblpefdnfhaa
open Go.RowKit
set_option maxRecDepth 100000

theorem Set_at_81 (u : Int) (hu : ¬ (0 ≤ u ∧ u < 128)) (w : World) : Calls Try.prog 42 #[.int .i64 81, .int .i32 u] w (SetPost jisRow true u w) := by
  by_cases h : u < 0
  · exact Set_neg_81 u h w
  by_cases h1 : u < 65377
  · exact Set_mid_81 u (by omega) h1 w
  by_cases h2 : u ≤ 65439
  · exact Set_half_81 u (by omega) h2 w
  · exact Set_big_81 u (by omega) w
theorem refSet_at_81 (u : Int) (hu : ¬ (0 ≤ u ∧ u < 128)) (w : World) : Calls Try.prog 43 #[.int .i64 81, .int .i32 u] w (SetPost jisRow true u w) := by
  by_cases h : u < 0
  · exact refSet_neg_81 u h w
  by_cases h1 : u < 65377
  · exact refSet_mid_81 u (by omega) h1 w
  by_cases h2 : u ≤ 65439
  · exact refSet_half_81 u (by omega) h2 w
  · exact refSet_big_81 u (by omega) w
theorem Set_at_84 (u : Int) (hu : ¬ (0 ≤ u ∧ u < 128)) (w : World) : Calls Try.prog 42 #[.int .i64 84, .int .i32 u] w (SetPost gbRow false u w) := by
  by_cases h : u < 0
  · exact Set_neg_84 u h w
  by_cases h1 : u < 65377
  · exact Set_mid_84 u (by omega) h1 w
  by_cases h2 : u ≤ 65439
  · exact Set_half_84 u (by omega) h2 w
  · exact Set_big_84 u (by omega) w
theorem refSet_at_84 (u : Int) (hu : ¬ (0 ≤ u ∧ u < 128)) (w : World) : Calls Try.prog 43 #[.int .i64 84, .int .i32 u] w (SetPost gbRow false u w) := by
  by_cases h : u < 0
  · exact refSet_neg_84 u h w
  by_cases h1 : u < 65377
  · exact refSet_mid_84 u (by omega) h1 w
  by_cases h2 : u ≤ 65439
  · exact refSet_half_84 u (by omega) h2 w
  · exact refSet_big_84 u (by omega) w
theorem Set_at_86 (u : Int) (hu : ¬ (0 ≤ u ∧ u < 128)) (w : World) : Calls Try.prog 42 #[.int .i64 86, .int .i32 u] w (SetPost kscRow false u w) := by
  by_cases h : u < 0
  · exact Set_neg_86 u h w
  by_cases h1 : u < 65377
  · exact Set_mid_86 u (by omega) h1 w
  by_cases h2 : u ≤ 65439
  · exact Set_half_86 u (by omega) h2 w
  · exact Set_big_86 u (by omega) w
theorem refSet_at_86 (u : Int) (hu : ¬ (0 ≤ u ∧ u < 128)) (w : World) : Calls Try.prog 43 #[.int .i64 86, .int .i32 u] w (SetPost kscRow false u w) := by
  by_cases h : u < 0
  · exact refSet_neg_86 u h w
  by_cases h1 : u < 65377
  · exact refSet_mid_86 u (by omega) h1 w
  by_cases h2 : u ≤ 65439
  · exact refSet_half_86 u (by omega) h2 w
  · exact refSet_big_86 u (by omega) w
theorem euc_Sets_of (k u err : Int) (s : ByteArray) (w : World)
    (h1 : ∀ w, Calls Try.prog 42 #[.int .i64 k, .int .i32 u] w fun e w' => e = .returned (.agg #[.int .i64 err, .string s, .int .i64 0, .int .i64 0, .int .u32 0, .int .i32 0]) ∧ Below w.heap.size w w')
    (h2 : ∀ w, Calls Try.prog 43 #[.int .i64 k, .int .i32 u] w fun e w' => e = .returned (.agg #[.int .i64 err, .string s, .int .i64 0, .int .i64 0, .int .u32 0, .int .i32 0]) ∧ Below w.heap.size w w') :
    Calls Try.prog 15 #[.int .i64 k, .int .i32 u] w fun e w' => e = .returned (.bool true) ∧ Below w.heap.size w w' := by
  have H1 := Lib.hid h1
  have H2 := Lib.hid h2
  clear h1 h2
  go_enter Try.func15, Try.ntmps15
  go_wp2_with fail
  refine (H1.out _).mono ?_
  rintro e w1 ⟨rfl, hb1⟩
  go_wp2_with fail
  refine (H2.out _).mono ?_
  rintro e w2 ⟨rfl, hb2⟩
  go_wp2_with fail
  go_ret
  exact ⟨rfl, below_then hb1 hb2 (Nat.le_refl _)⟩
theorem euc_Sets_post (k u : Int) (row : Int → List Int) (half : Bool) (w : World) (h1 : ∀ w, Calls Try.prog 42 #[.int .i64 k, .int .i32 u] w (SetPost row half u w))
    (h2 : ∀ w, Calls Try.prog 43 #[.int .i64 k, .int .i32 u] w (SetPost row half u w)) :
    Calls Try.prog 15 #[.int .i64 k, .int .i32 u] w fun e w' => e = .returned (.bool true) ∧ Below w.heap.size w w' := by
  have H1 := Lib.hid h1
  have H2 := Lib.hid h2
  clear h1 h2
  go_enter Try.func15, Try.ntmps15
  go_wp2_with fail
  refine (H1.out _).mono ?_
  rintro e w1 ⟨a, b, ok, hp, rfl, hb1⟩
  go_wp2_with fail
  refine (H2.out _).mono ?_
  rintro e w2 ⟨a', b', ok', hp', rfl, hb2⟩
  obtain ⟨rfl, rfl, rfl⟩ := hp.unique hp'
  go_wp2_with fail
  go_ret
  exact ⟨rfl, below_then hb1 hb2 (Nat.le_refl _)⟩
/-- Set of any kind and scalar is told alike -/
theorem euc_Sets (k u : Int) (w : World) : Calls Try.prog 15 #[.int .i64 k, .int .i32 u] w fun e w' => e = .returned (.bool true) ∧ Below w.heap.size w w' := by
  by_cases hk : IsKind k
  · by_cases hu : 0 ≤ u ∧ u < 128
    · obtain ⟨h0, h1⟩ := hu
      rcases hk with rfl | rfl | rfl
      · exact euc_Sets_of 81 u _ _ w (Set_plain_81 u h0 h1) (refSet_plain_81 u h0 h1)
      · exact euc_Sets_of 84 u _ _ w (Set_plain_84 u h0 h1) (refSet_plain_84 u h0 h1)
      · exact euc_Sets_of 86 u _ _ w (Set_plain_86 u h0 h1) (refSet_plain_86 u h0 h1)
    · rcases hk with rfl | rfl | rfl
      · exact euc_Sets_post 81 u _ _ w (Set_at_81 u hu) (refSet_at_81 u hu)
      · exact euc_Sets_post 84 u _ _ w (Set_at_84 u hu) (refSet_at_84 u hu)
      · exact euc_Sets_post 86 u _ _ w (Set_at_86 u hu) (refSet_at_86 u hu)
  · have h1 : (k == 81) = false := by rw [beq_eq_false_iff_ne]; exact fun h => hk (.inl h)
    have h2 : (k == 84) = false := by rw [beq_eq_false_iff_ne]; exact fun h => hk (.inr (.inl h))
    have h3 : (k == 86) = false := by rw [beq_eq_false_iff_ne]; exact fun h => hk (.inr (.inr h))
    exact euc_Sets_of k u _ _ w (Set_none k u h1 h2 h3) (refSet_none k u hk)
end Go.Proofs.Ytekiblpefdnfhaa
