/- The walk of the law EucBack, of any arguments. -/
import Derived.Test.YtekiblpefdnfhaaEucBack
namespace Go.Proofs.Ytekiblpefdnfhaa
open Go.RowKit
theorem euc_Back (which u : Int) (A : Option Addr) (n cap : Nat) (xs : List Int) (w : World) (hn : n ≤ 140737488351232) (hx : IsBytes w A n xs) (hA : A = none → n = 0 ∧ cap = 0) :
    Calls Try.prog 17 #[.int .i64 which, .int .i32 u, .slice A n cap] w fun e w' => e = .returned (.bool true) ∧ Below w.heap.size w w' := by
  have h : (IntKind.u64.wrap which % 3).toNat = 0 ∨ (IntKind.u64.wrap which % 3).toNat = 1 ∨ (IntKind.u64.wrap which % 3).toNat = 2 := by omega
  rcases h with h | h | h
  · exact euc_Back_of 81 jisRow true which u A n cap xs w hn hx hA (by rw [h]; rfl) Get_all_81 Set_all_81
  · exact euc_Back_of 84 gbRow false which u A n cap xs w hn hx hA (by rw [h]; rfl) Get_all_84 Set_all_84
  · exact euc_Back_of 86 kscRow false which u A n cap xs w hn hx hA (by rw [h]; rfl) Get_all_86 Set_all_86
end Go.Proofs.Ytekiblpefdnfhaa
