/- The walk of the law GbKana: hiragana and katakana stand one by one; forms of ASCII, but for two cells. -/
import Derived.Test.YtekiblpefdnfhaaGbLaws
namespace Go.Proofs.Ytekiblpefdnfhaa
open Go.RowKit
set_option maxRecDepth 100000

theorem gb_kana (k : Nat) (hk : k < 94) :
    has (gbRow 4) ((k : Int) + 1) = decide (k + 1 ≤ 83) ∧ has (gbRow 5) ((k : Int) + 1) = decide (k + 1 ≤ 86) ∧ (k + 1 ≤ 83 → scal (gbRow 4) ((k : Int) + 1) = 12352 + ((k : Int) + 1)) ∧
    (k + 1 ≤ 86 → scal (gbRow 5) ((k : Int) + 1) = 12448 + ((k : Int) + 1)) ∧ has (gbRow 3) ((k : Int) + 1) = true ∧ (k + 1 ≠ 4 → k + 1 ≠ 94 → scal (gbRow 3) ((k : Int) + 1) = 65280 + ((k : Int) + 1)) := by
  have h : (List.range 94).all (fun k => has (gbRow 4) ((k : Int) + 1) == decide (k + 1 ≤ 83) && has (gbRow 5) ((k : Int) + 1) == decide (k + 1 ≤ 86) && (!decide (k + 1 ≤ 83) || scal (gbRow 4) ((k : Int) + 1) == 12352 + ((k : Int) + 1)) &&
    (!decide (k + 1 ≤ 86) || scal (gbRow 5) ((k : Int) + 1) == 12448 + ((k : Int) + 1)) && has (gbRow 3) ((k : Int) + 1) && (decide (k + 1 = 4 ∨ k + 1 = 94) || scal (gbRow 3) ((k : Int) + 1) == 65280 + ((k : Int) + 1))) = true := by decide +kernel
  have := List.all_eq_true.1 h k (List.mem_range.2 hk)
  simp only [Bool.and_eq_true, Bool.or_eq_true, Bool.not_eq_true', beq_iff_eq, decide_eq_false_iff_not, decide_eq_true_eq] at this
  obtain ⟨⟨⟨⟨⟨h1, h2⟩, h3⟩, h4⟩, h5⟩, h6⟩ := this
  refine ⟨h1, h2, fun h => h3.resolve_left (fun q => q h), fun h => h4.resolve_left (fun q => q h), h5, fun q1 q2 => h6.resolve_left (fun q => q.elim q1 q2)⟩

theorem gb_Kana_at (cell x c a b d : Int) (ok is : Bool) (hx : IntKind.u64.wrap cell = x) (hx0 : 0 ≤ x) (hr : 1 + x % 94 = c) (_hc1 : 1 ≤ c) (_hc2 : c ≤ 94)
    (e4 : has (gbRow 4) c = ok) (e5 : has (gbRow 5) c = is) (e3 : has (gbRow 3) c = true) (s4 : scal (gbRow 4) c = a) (s5 : scal (gbRow 5) c = b) (s3 : scal (gbRow 3) c = d)
    (h4 : ok = true ∧ c ≤ 83 ∧ a = 12352 + c ∨ ok = false ∧ 83 < c) (h5 : is = true ∧ c ≤ 86 ∧ b = 12448 + c ∨ is = false ∧ 86 < c) (h3 : c = 4 ∨ c = 94 ∨ c ≠ 4 ∧ c ≠ 94 ∧ d = 65280 + c) (w : World) :
    Calls Try.prog 10 #[.int .i64 cell] w fun e w' => e = .returned (.bool true) ∧ Below w.heap.size w w' := by
  rcases h4 with ⟨rfl, h4, rfl⟩ | ⟨rfl, h4⟩ <;> rcases h5 with ⟨rfl, h5, rfl⟩ | ⟨rfl, h5⟩ <;> rcases h3 with rfl | rfl | ⟨n4, n94, rfl⟩
  all_goals first
    | (exfalso; omega)
    | (go_enter Try.func10, Try.ntmps10
       go_wp2_with fail
       refine (gb_works _).mono ?_
       rintro e w1 ⟨rfl, hb1⟩
       go_wp2_with fail
       refine (gb_Scalar _ _ _).mono ?_
       rintro e w2 ⟨rfl, hb2⟩
       go_wp2_with fail
       refine (gb_Scalar _ _ _).mono ?_
       rintro e w3 ⟨rfl, hb3⟩
       go_wp2_with fail
       refine (gb_Scalar _ _ _).mono ?_
       rintro e w4 ⟨rfl, hb4⟩
       go_wp2_with fail
       all_goals go_ret
       all_goals exact ⟨rfl, below_then (below_then (below_then hb1 hb2 (Nat.le_refl _)) hb3 (Nat.le_refl _)) hb4 (Nat.le_refl _)⟩)

theorem gb_Kana (cell : Int) (w : World) : Calls Try.prog 10 #[.int .i64 cell] w fun e w' => e = .returned (.bool true) ∧ Below w.heap.size w w' := by
  obtain ⟨x, hx⟩ : ∃ x, IntKind.u64.wrap cell = x := ⟨_, rfl⟩
  have hx0 : 0 ≤ x := by rw [← hx, IntKind.wrap_u64]; omega
  obtain ⟨k, hk⟩ : ∃ k : Nat, x % 94 = k := ⟨(x % 94).toNat, by omega⟩
  obtain ⟨k1, k2, k3, k4, k5, k6⟩ := gb_kana k (by omega)
  refine gb_Kana_at cell x ((k : Int) + 1) _ _ _ _ _ hx hx0 (by omega) (by omega) (by omega) k1 k2 k5 rfl rfl rfl ?_ ?_ ?_ w
  · by_cases h : k + 1 ≤ 83
    · exact .inl ⟨by simp [h], by omega, k3 h⟩
    · exact .inr ⟨by simp; omega, by omega⟩
  · by_cases h : k + 1 ≤ 86
    · exact .inl ⟨by simp [h], by omega, k4 h⟩
    · exact .inr ⟨by simp; omega, by omega⟩
  · by_cases q4 : k + 1 = 4
    · exact .inl (by omega)
    by_cases q94 : k + 1 = 94
    · exact .inr (.inl (by omega))
    exact .inr (.inr ⟨by omega, by omega, k6 q4 q94⟩)
end Go.Proofs.Ytekiblpefdnfhaa
