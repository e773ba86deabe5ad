/- Words and laws for walks over rows of cells that lie behind a pointer: one build of an array taken by a closed fact; what a made list's block holds. No program in sight. -/
import Derived.WalkKit
import Derived.Handy
import Derived.Test.YtekiblpefdnfhaaPlain
namespace Go.Proofs.Ytekiblpefdnfhaa
open Go.RowKit

/-- the cells of a list -/
def cellsOf (l : List Int) : Array Value := (l.map (Value.int .u16)).toArray
theorem cellsOf_get {l : List Int} {j : Nat} (h : j < l.length) : (cellsOf l)[j]? = some (.int .u16 (l.getD j 0)) := by
  simp [cellsOf, List.getD_eq_getElem?_getD, h]

/-- a build whose parts the kernel reckons -/
theorem wpList_build {P : Program} {ops rest : List Oper} {Q : Exit → Act → World → Prop} {a : Act} {w : World} {d : Option Tmp} {t : TypeId} {parts : Array (Nat × Operand)} {ty : TypeId} {pos : String} {after : Array Edge} (v : Value)
    (h : (Instr.build t (parts.map fun (i, x) => (i, a.eval x))).run P w = .ok v w) (hK : wpList P ops.toArray Q rest (a.put d v) w) :
    wpList P ops.toArray Q (⟨d, .build t parts, ty, pos, after, none⟩ :: rest) a w := by
  refine wpList_plain rfl fun K hK' => ?_
  unfold Oper.wp
  simp only [execOp, Sem.run_bind, h, Result.andThen_ok, Sem.run_pure, Oper.upon_value]
  exact hK' _ _ hK

/-- block b holds the list -/
def Lies (w : World) (b : Nat) (L : List Int) : Prop := ∀ j, j < 94 → w.cell? ⟨b, j, none⟩ = some (.int .u16 (L.getD j 0))
theorem lies_new {w : World} {L : List Int} {t : TypeId} (h : L.length = 94) : Lies (w.alloc (.cells (cellsOf L) t)) w.heap.size L := by
  intro j hj
  rw [World.cell?_alloc_at _ _ _ _ rfl]
  exact cellsOf_get (by omega)
theorem Lies.below {w w' : World} {b B : Nat} {L : List Int} (h : Lies w b L) (hb : Below B w w') (hB : b < B) : Lies w' b L :=
  fun j hj => (hb.cell (p := ⟨b, j, none⟩) hB).trans (h j hj)
theorem Lies.grown {w w' : World} {b : Nat} {L : List Int} {row : Option Nat} (h : Lies w b L) (hg : w.grownBy w' row) (hb : some b ≠ row) : Lies w' b L :=
  fun j hj => hg.cell (h j hj) hb

/-- what a call of Place tells: a first place, or none -/
def PlacePost (row : Int → List Int) (u : Int) (w : World) (e : Ending) (w' : World) : Prop :=
  ∃ (a b : Int) (ok : Bool), e = .returned (.tuple #[.int .i64 a, .int .i64 b, .bool ok]) ∧ IsPlace row u a b ok ∧ Below w.heap.size w w'
/-- what a call of Row tells: a new slice of the list's numbers; of an empty list: nil -/
def RowPost (E : TypeId) (L : List Int) (w : World) (e : Ending) (w' : World) : Prop :=
  ∃ v : Value, e = .returned v ∧ w'.ownsRow w.heap.size E 1 v L.length (L.map (Value.int .i32)) ∧ Below w.heap.size w w' ∧ (L = [] → v = .slice none 0 0)

theorem ownsRow_low {w : World} {B B' : Nat} {E : TypeId} {size n : Nat} {v : Value} {xs : List Value} (h : w.ownsRow B E size v n xs) (hB : B' ≤ B) : w.ownsRow B' E size v n xs := by
  refine ⟨h.1, ?_⟩
  rcases h.2 with h2 | ⟨g, cap, cur, hv, hg, r⟩
  · exact .inl h2
  · exact .inr ⟨g, cap, cur, hv, Nat.le_trans hB hg, r⟩
theorem take_snoc_map (L : List Int) (k : Nat) (h : k < L.length) : (L.map (Value.int .i32)).take (k + 1) = (L.map (Value.int .i32)).take k ++ [.int .i32 (L.getD k 0)] := by
  rw [List.take_add_one, List.getElem?_map, List.getElem?_eq_getElem h]
  simp only [List.getD_eq_getElem?_getD, List.getElem?_eq_getElem h, Option.getD_some, Option.map_some, Option.toList_some]
theorem take_snoc_int (L : List Int) (k : Nat) (h : k < L.length) : (L.take (k + 1)).map (Value.int .i32) = (L.take k).map (Value.int .i32) ++ [.int .i32 (L.getD k 0)] := by
  rw [List.take_add_one, List.getElem?_eq_getElem h, List.map_append]
  simp only [List.getD_eq_getElem?_getD, List.getElem?_eq_getElem h, Option.getD_some, Option.toList_some, List.map_cons, List.map_nil]
theorem below_then {B : Nat} {w w1 w2 : World} (h : Below B w w1) (k : Below w1.heap.size w1 w2) (hB : B ≤ w.heap.size) : Below B w w2 := h.trans (k.mono (Nat.le_trans hB h.size))
/-- what lies in a new slice stays while nothing that is there is written -/
theorem ownsRow_below {w w' : World} {B : Nat} {E : TypeId} {size n : Nat} {v : Value} {xs : List Value} (h : w.ownsRow B E size v n xs) (hb : Below w.heap.size w w') : w'.ownsRow B E size v n xs := by
  refine ⟨h.1, ?_⟩
  rcases h.2 with h2 | ⟨g, cap, cur, hv, hg, hh, r⟩
  · exact .inl h2
  · exact .inr ⟨g, cap, cur, hv, hg, by rw [hb.block g (Array.getElem?_eq_some_iff.1 hh).1]; exact hh, r⟩
theorem ownsRow_form {w : World} {B : Nat} {E : TypeId} {n : Nat} {v : Value} {xs : List Value} (h : w.ownsRow B E 1 v n xs) (hn : 0 < n) : ∃ g cap, v = .slice (some ⟨g, 0, none⟩) n cap ∧ B ≤ g ∧ n ≤ cap ∧ cap ≤ maxLen := by
  rcases h.2 with ⟨_, h0⟩ | ⟨g, cap, cur, hv, hg, _, hc, hm, _⟩
  · omega
  · exact ⟨g, cap, hv, hg, hc, hm⟩
end Go.Proofs.Ytekiblpefdnfhaa
