/- The walks of the laws of layer jis: Tells, works. -/
import Derived.Test.YtekiblpefdnfhaaJisOwn
import Derived.Test.YtekiblpefdnfhaaJisRow
import Derived.Test.YtekiblpefdnfhaaJisRef
namespace Go.Proofs.Ytekiblpefdnfhaa
open Go.RowKit
set_option maxRecDepth 100000

theorem jis_Tells (row cell u : Int) (w : World) : Calls Try.prog 4 #[.int .i64 row, .int .i64 cell, .int .i32 u] w fun e w' => e = .returned (.bool true) ∧ Below w.heap.size w w' := by
  go_enter Try.func4, Try.ntmps4
  go_wp2_with (first
    | (go_at_call 21; refine (jis_Scalar _ _ _).mono ?_; rintro e w1 ⟨rfl, hb1⟩)
    | (go_at_call 22; refine (refjis_Scalar _ _ _).mono ?_; rintro e w2 ⟨rfl, n2, rfl⟩)
    | (go_at_call 23; refine (jis_Place _ _).mono ?_; rintro e w3 ⟨a, b, ok, rfl, hp, hb3⟩)
    | (go_at_call 24; refine (refjis_Place _ _).mono ?_; rintro e w4 ⟨a', b', ok', rfl, hp', hb4⟩; obtain ⟨rfl, rfl, rfl⟩ := hp.unique hp'))
  go_ret
  exact ⟨rfl, below_then (below_then (below_drewN hb1 _) hb3 (Nat.le_refl _)) hb4 (Nat.le_refl _)⟩

theorem jis_second : IsPlace jisRow 12354 4 2 true := isPlace_of_clear (a := 4) (b := 2) (by decide +kernel) (by omega) (by omega) (by decide +kernel) (by decide +kernel)
theorem jis_works (w : World) : Calls Try.prog 27 #[] w fun e w' => e = .returned (.bool true) ∧ Below w.heap.size w w' := by
  have h1 : has (jisRow 4) 1 = true := by decide +kernel
  have h2 : scal (jisRow 4) 1 = 12353 := by decide +kernel
  go_enter Try.func27, Try.ntmps27
  go_wp2_with (first
    | (go_at_call 21; refine (jis_Scalar _ _ _).mono ?_; rintro e w1 ⟨rfl, hb1⟩)
    | (go_at_call 23; refine (jis_Place _ _).mono ?_; rintro e w3 ⟨a, b, ok, rfl, hp, hb3⟩; obtain ⟨rfl, rfl, rfl⟩ := hp.unique jis_second)
    | (go_at_call 18; refine (jis_Row_nil _ (by decide) _).mono ?_; rintro e w5 ⟨rfl, rfl⟩))
  go_ret
  exact ⟨rfl, below_then hb1 hb3 (Nat.le_refl _)⟩
end Go.Proofs.Ytekiblpefdnfhaa
