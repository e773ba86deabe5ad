/- The walks of the laws of layer ksc: Tells, works. -/
import Derived.Test.YtekiblpefdnfhaaKscOwn
import Derived.Test.YtekiblpefdnfhaaKscRow
import Derived.Test.YtekiblpefdnfhaaKscRef
namespace Go.Proofs.Ytekiblpefdnfhaa
open Go.RowKit
set_option maxRecDepth 100000

theorem ksc_Tells (row cell u : Int) (w : World) : Calls Try.prog 12 #[.int .i64 row, .int .i64 cell, .int .i32 u] w fun e w' => e = .returned (.bool true) ∧ Below w.heap.size w w' := by
  go_enter Try.func12, Try.ntmps12
  go_wp2_with (first
    | (go_at_call 35; refine (ksc_Scalar _ _ _).mono ?_; rintro e w1 ⟨rfl, hb1⟩)
    | (go_at_call 36; refine (refksc_Scalar _ _ _).mono ?_; rintro e w2 ⟨rfl, n2, rfl⟩)
    | (go_at_call 37; refine (ksc_Place _ _).mono ?_; rintro e w3 ⟨a, b, ok, rfl, hp, hb3⟩)
    | (go_at_call 38; refine (refksc_Place _ _).mono ?_; rintro e w4 ⟨a', b', ok', rfl, hp', hb4⟩; obtain ⟨rfl, rfl, rfl⟩ := hp.unique hp'))
  go_ret
  exact ⟨rfl, below_then (below_then (below_drewN hb1 _) hb3 (Nat.le_refl _)) hb4 (Nat.le_refl _)⟩

theorem ksc_second : IsPlace kscRow 12594 4 2 true := isPlace_of_clear (a := 4) (b := 2) (by decide +kernel) (by omega) (by omega) (by decide +kernel) (by decide +kernel)
theorem ksc_works (w : World) : Calls Try.prog 39 #[] w fun e w' => e = .returned (.bool true) ∧ Below w.heap.size w w' := by
  have h1 : has (kscRow 4) 1 = true := by decide +kernel
  have h2 : scal (kscRow 4) 1 = 12593 := by decide +kernel
  go_enter Try.func39, Try.ntmps39
  go_wp2_with (first
    | (go_at_call 35; refine (ksc_Scalar _ _ _).mono ?_; rintro e w1 ⟨rfl, hb1⟩)
    | (go_at_call 37; refine (ksc_Place _ _).mono ?_; rintro e w3 ⟨a, b, ok, rfl, hp, hb3⟩; obtain ⟨rfl, rfl, rfl⟩ := hp.unique ksc_second)
    | (go_at_call 33; refine (ksc_Row_nil _ (by decide) _).mono ?_; rintro e w5 ⟨rfl, rfl⟩))
  go_ret
  exact ⟨rfl, below_then hb1 hb3 (Nat.le_refl _)⟩
end Go.Proofs.Ytekiblpefdnfhaa
