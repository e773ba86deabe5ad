/-
  No cell of these rows narrows 'for every input' (looked for: loops, veiled, ifaces, maps, wideKeys, modest, calm, conditions, laid).
  DERIVED. THE GIVEN ROWS OF THIS SEAT. 15 by the template 'for every input the law returns true; each argument reads behind the call as it read before'; 0 by the template 'total and deterministic' (their statements: YtekiblpefdnfhaaTotals.lean).
  GIVEN WITH THE SEED: the statements are not yours to turn. If you find one false, say at which input.
  Laid BY PROGRAM, IN A SANDBOX (cutbox-rows.mjs): the forced cells as the released guide's own fill.sh prints them over the translation 5b3862b2178efda8… (all of the seat's roots in one cut). By AI agents, Wed Nov 11 2026. No macro, syntax, notation, axiom, sorry.
-/
import Derived.Test.YtekiblpefdnfhaaChecked
import GoSem.Claim
import GoSem.ClaimJoined
import GoSem.ClaimMapViews
import Derived.JoinedTies
import Derived.KernelRfl
namespace Go.Proofs.Ytekiblpefdnfhaa
/- THE CELL 'sum', in the pinned program and in every row, IS THE sha256 OF THE DUMP (.gsa) THAT YtekiblpefdnfhaaProg.lean LOADS. Nothing in Lean hashes anything: it is a label: what it is worth is what the hold of that sum in a sandbox is worth. -/
noncomputable def Try.pinned : Pinned := { name := "ytekiblpefdnfhaa", sum := "5b3862b2178efda83e85244a41b4690c21a345b8163efc67c03760a31604dc05", checked := Try.checked }
namespace Rows
def none {H : Type} : Left H := { results := [], args := [] }

/-- 'dragomanlaw14.JisRows': WHATEVER THE INPUT: true; the input reads as it did. -/
def jisRowsSpec : ChangeSpec := { name := "jisRows", fn := fun _ => fun
  | [d] => { results := [.lit (.bool true)], args := [d] }
  | _ => none }
def jisRowsRow : OpenClaim := { program := "ytekiblpefdnfhaa", sum := "5b3862b2178efda83e85244a41b4690c21a345b8163efc67c03760a31604dc05", func := "dragoman/dragomanlaw14.JisRows", spec := "jisRows", apart := false }
def JisRowsSaid : Prop := jisRowsRow.holds Try.pinned (OpenSpec.ofChange jisRowsSpec)

/-- ITS FALSE NEIGHBOUR: 'it returns false'. Refute it at one input. -/
def jisRowsWrong : ChangeSpec := { name := "jisRows", fn := fun _ => fun
  | [d] => { results := [.lit (.bool false)], args := [d] }
  | _ => none }
def JisRowsWrongFalsely : Prop := jisRowsRow.holds Try.pinned (OpenSpec.ofChange jisRowsWrong)

/-- 'dragomanlaw14.JisTells': WHATEVER THE INPUT: true; the input reads as it did. -/
def jisTellsSpec : ChangeSpec := { name := "jisTells", fn := fun _ => fun
  | [d1, d2, d3] => { results := [.lit (.bool true)], args := [d1, d2, d3] }
  | _ => none }
def jisTellsRow : OpenClaim := { program := "ytekiblpefdnfhaa", sum := "5b3862b2178efda83e85244a41b4690c21a345b8163efc67c03760a31604dc05", func := "dragoman/dragomanlaw14.JisTells", spec := "jisTells", apart := false }
def JisTellsSaid : Prop := jisTellsRow.holds Try.pinned (OpenSpec.ofChange jisTellsSpec)

/-- ITS FALSE NEIGHBOUR: 'it returns false'. Refute it at one input. -/
def jisTellsWrong : ChangeSpec := { name := "jisTells", fn := fun _ => fun
  | [d1, d2, d3] => { results := [.lit (.bool false)], args := [d1, d2, d3] }
  | _ => none }
def JisTellsWrongFalsely : Prop := jisTellsRow.holds Try.pinned (OpenSpec.ofChange jisTellsWrong)

/-- 'dragomanlaw15.GbRows': WHATEVER THE INPUT: true; the input reads as it did. -/
def gbRowsSpec : ChangeSpec := { name := "gbRows", fn := fun _ => fun
  | [d] => { results := [.lit (.bool true)], args := [d] }
  | _ => none }
def gbRowsRow : OpenClaim := { program := "ytekiblpefdnfhaa", sum := "5b3862b2178efda83e85244a41b4690c21a345b8163efc67c03760a31604dc05", func := "dragoman/dragomanlaw15.GbRows", spec := "gbRows", apart := false }
def GbRowsSaid : Prop := gbRowsRow.holds Try.pinned (OpenSpec.ofChange gbRowsSpec)

/-- ITS FALSE NEIGHBOUR: 'it returns false'. Refute it at one input. -/
def gbRowsWrong : ChangeSpec := { name := "gbRows", fn := fun _ => fun
  | [d] => { results := [.lit (.bool false)], args := [d] }
  | _ => none }
def GbRowsWrongFalsely : Prop := gbRowsRow.holds Try.pinned (OpenSpec.ofChange gbRowsWrong)

/-- 'dragomanlaw14.JisBack': WHATEVER THE INPUT: true; the input reads as it did. -/
def jisBackSpec : ChangeSpec := { name := "jisBack", fn := fun _ => fun
  | [d1, d2] => { results := [.lit (.bool true)], args := [d1, d2] }
  | _ => none }
def jisBackRow : OpenClaim := { program := "ytekiblpefdnfhaa", sum := "5b3862b2178efda83e85244a41b4690c21a345b8163efc67c03760a31604dc05", func := "dragoman/dragomanlaw14.JisBack", spec := "jisBack", apart := false }
def JisBackSaid : Prop := jisBackRow.holds Try.pinned (OpenSpec.ofChange jisBackSpec)

/-- ITS FALSE NEIGHBOUR: 'it returns false'. Refute it at one input. -/
def jisBackWrong : ChangeSpec := { name := "jisBack", fn := fun _ => fun
  | [d1, d2] => { results := [.lit (.bool false)], args := [d1, d2] }
  | _ => none }
def JisBackWrongFalsely : Prop := jisBackRow.holds Try.pinned (OpenSpec.ofChange jisBackWrong)

/-- 'dragomanlaw14.JisKana': WHATEVER THE INPUT: true; the input reads as it did. -/
def jisKanaSpec : ChangeSpec := { name := "jisKana", fn := fun _ => fun
  | [d] => { results := [.lit (.bool true)], args := [d] }
  | _ => none }
def jisKanaRow : OpenClaim := { program := "ytekiblpefdnfhaa", sum := "5b3862b2178efda83e85244a41b4690c21a345b8163efc67c03760a31604dc05", func := "dragoman/dragomanlaw14.JisKana", spec := "jisKana", apart := false }
def JisKanaSaid : Prop := jisKanaRow.holds Try.pinned (OpenSpec.ofChange jisKanaSpec)

/-- ITS FALSE NEIGHBOUR: 'it returns false'. Refute it at one input. -/
def jisKanaWrong : ChangeSpec := { name := "jisKana", fn := fun _ => fun
  | [d] => { results := [.lit (.bool false)], args := [d] }
  | _ => none }
def JisKanaWrongFalsely : Prop := jisKanaRow.holds Try.pinned (OpenSpec.ofChange jisKanaWrong)

/-- 'dragomanlaw15.GbTells': WHATEVER THE INPUT: true; the input reads as it did. -/
def gbTellsSpec : ChangeSpec := { name := "gbTells", fn := fun _ => fun
  | [d1, d2, d3] => { results := [.lit (.bool true)], args := [d1, d2, d3] }
  | _ => none }
def gbTellsRow : OpenClaim := { program := "ytekiblpefdnfhaa", sum := "5b3862b2178efda83e85244a41b4690c21a345b8163efc67c03760a31604dc05", func := "dragoman/dragomanlaw15.GbTells", spec := "gbTells", apart := false }
def GbTellsSaid : Prop := gbTellsRow.holds Try.pinned (OpenSpec.ofChange gbTellsSpec)

/-- ITS FALSE NEIGHBOUR: 'it returns false'. Refute it at one input. -/
def gbTellsWrong : ChangeSpec := { name := "gbTells", fn := fun _ => fun
  | [d1, d2, d3] => { results := [.lit (.bool false)], args := [d1, d2, d3] }
  | _ => none }
def GbTellsWrongFalsely : Prop := gbTellsRow.holds Try.pinned (OpenSpec.ofChange gbTellsWrong)

/-- 'dragomanlaw15.GbBack': WHATEVER THE INPUT: true; the input reads as it did. -/
def gbBackSpec : ChangeSpec := { name := "gbBack", fn := fun _ => fun
  | [d1, d2] => { results := [.lit (.bool true)], args := [d1, d2] }
  | _ => none }
def gbBackRow : OpenClaim := { program := "ytekiblpefdnfhaa", sum := "5b3862b2178efda83e85244a41b4690c21a345b8163efc67c03760a31604dc05", func := "dragoman/dragomanlaw15.GbBack", spec := "gbBack", apart := false }
def GbBackSaid : Prop := gbBackRow.holds Try.pinned (OpenSpec.ofChange gbBackSpec)

/-- ITS FALSE NEIGHBOUR: 'it returns false'. Refute it at one input. -/
def gbBackWrong : ChangeSpec := { name := "gbBack", fn := fun _ => fun
  | [d1, d2] => { results := [.lit (.bool false)], args := [d1, d2] }
  | _ => none }
def GbBackWrongFalsely : Prop := gbBackRow.holds Try.pinned (OpenSpec.ofChange gbBackWrong)

/-- 'dragomanlaw15.GbKana': WHATEVER THE INPUT: true; the input reads as it did. -/
def gbKanaSpec : ChangeSpec := { name := "gbKana", fn := fun _ => fun
  | [d] => { results := [.lit (.bool true)], args := [d] }
  | _ => none }
def gbKanaRow : OpenClaim := { program := "ytekiblpefdnfhaa", sum := "5b3862b2178efda83e85244a41b4690c21a345b8163efc67c03760a31604dc05", func := "dragoman/dragomanlaw15.GbKana", spec := "gbKana", apart := false }
def GbKanaSaid : Prop := gbKanaRow.holds Try.pinned (OpenSpec.ofChange gbKanaSpec)

/-- ITS FALSE NEIGHBOUR: 'it returns false'. Refute it at one input. -/
def gbKanaWrong : ChangeSpec := { name := "gbKana", fn := fun _ => fun
  | [d] => { results := [.lit (.bool false)], args := [d] }
  | _ => none }
def GbKanaWrongFalsely : Prop := gbKanaRow.holds Try.pinned (OpenSpec.ofChange gbKanaWrong)

/-- 'dragomanlaw16.KscRows': WHATEVER THE INPUT: true; the input reads as it did. -/
def kscRowsSpec : ChangeSpec := { name := "kscRows", fn := fun _ => fun
  | [d] => { results := [.lit (.bool true)], args := [d] }
  | _ => none }
def kscRowsRow : OpenClaim := { program := "ytekiblpefdnfhaa", sum := "5b3862b2178efda83e85244a41b4690c21a345b8163efc67c03760a31604dc05", func := "dragoman/dragomanlaw16.KscRows", spec := "kscRows", apart := false }
def KscRowsSaid : Prop := kscRowsRow.holds Try.pinned (OpenSpec.ofChange kscRowsSpec)

/-- ITS FALSE NEIGHBOUR: 'it returns false'. Refute it at one input. -/
def kscRowsWrong : ChangeSpec := { name := "kscRows", fn := fun _ => fun
  | [d] => { results := [.lit (.bool false)], args := [d] }
  | _ => none }
def KscRowsWrongFalsely : Prop := kscRowsRow.holds Try.pinned (OpenSpec.ofChange kscRowsWrong)

/-- 'dragomanlaw16.KscTells': WHATEVER THE INPUT: true; the input reads as it did. -/
def kscTellsSpec : ChangeSpec := { name := "kscTells", fn := fun _ => fun
  | [d1, d2, d3] => { results := [.lit (.bool true)], args := [d1, d2, d3] }
  | _ => none }
def kscTellsRow : OpenClaim := { program := "ytekiblpefdnfhaa", sum := "5b3862b2178efda83e85244a41b4690c21a345b8163efc67c03760a31604dc05", func := "dragoman/dragomanlaw16.KscTells", spec := "kscTells", apart := false }
def KscTellsSaid : Prop := kscTellsRow.holds Try.pinned (OpenSpec.ofChange kscTellsSpec)

/-- ITS FALSE NEIGHBOUR: 'it returns false'. Refute it at one input. -/
def kscTellsWrong : ChangeSpec := { name := "kscTells", fn := fun _ => fun
  | [d1, d2, d3] => { results := [.lit (.bool false)], args := [d1, d2, d3] }
  | _ => none }
def KscTellsWrongFalsely : Prop := kscTellsRow.holds Try.pinned (OpenSpec.ofChange kscTellsWrong)

/-- 'dragomanlaw16.KscBack': WHATEVER THE INPUT: true; the input reads as it did. -/
def kscBackSpec : ChangeSpec := { name := "kscBack", fn := fun _ => fun
  | [d1, d2] => { results := [.lit (.bool true)], args := [d1, d2] }
  | _ => none }
def kscBackRow : OpenClaim := { program := "ytekiblpefdnfhaa", sum := "5b3862b2178efda83e85244a41b4690c21a345b8163efc67c03760a31604dc05", func := "dragoman/dragomanlaw16.KscBack", spec := "kscBack", apart := false }
def KscBackSaid : Prop := kscBackRow.holds Try.pinned (OpenSpec.ofChange kscBackSpec)

/-- ITS FALSE NEIGHBOUR: 'it returns false'. Refute it at one input. -/
def kscBackWrong : ChangeSpec := { name := "kscBack", fn := fun _ => fun
  | [d1, d2] => { results := [.lit (.bool false)], args := [d1, d2] }
  | _ => none }
def KscBackWrongFalsely : Prop := kscBackRow.holds Try.pinned (OpenSpec.ofChange kscBackWrong)

/-- 'dragomanlaw16.KscHangul': WHATEVER THE INPUT: true; the input reads as it did. -/
def kscHangulSpec : ChangeSpec := { name := "kscHangul", fn := fun _ => fun
  | [d1, d2, d3, d4] => { results := [.lit (.bool true)], args := [d1, d2, d3, d4] }
  | _ => none }
def kscHangulRow : OpenClaim := { program := "ytekiblpefdnfhaa", sum := "5b3862b2178efda83e85244a41b4690c21a345b8163efc67c03760a31604dc05", func := "dragoman/dragomanlaw16.KscHangul", spec := "kscHangul", apart := false }
def KscHangulSaid : Prop := kscHangulRow.holds Try.pinned (OpenSpec.ofChange kscHangulSpec)

/-- ITS FALSE NEIGHBOUR: 'it returns false'. Refute it at one input. -/
def kscHangulWrong : ChangeSpec := { name := "kscHangul", fn := fun _ => fun
  | [d1, d2, d3, d4] => { results := [.lit (.bool false)], args := [d1, d2, d3, d4] }
  | _ => none }
def KscHangulWrongFalsely : Prop := kscHangulRow.holds Try.pinned (OpenSpec.ofChange kscHangulWrong)

/-- 'dragomanlaw17.EucSets': WHATEVER THE INPUT: true; the input reads as it did. -/
def eucSetsSpec : ChangeSpec := { name := "eucSets", fn := fun _ => fun
  | [d1, d2] => { results := [.lit (.bool true)], args := [d1, d2] }
  | _ => none }
def eucSetsRow : OpenClaim := { program := "ytekiblpefdnfhaa", sum := "5b3862b2178efda83e85244a41b4690c21a345b8163efc67c03760a31604dc05", func := "dragoman/dragomanlaw17.EucSets", spec := "eucSets", unfollowed := true, recurses := true, apart := false }
def EucSetsSaid : Prop := eucSetsRow.holds Try.pinned (OpenSpec.ofChange eucSetsSpec)

/-- ITS FALSE NEIGHBOUR: 'it returns false'. Refute it at one input. -/
def eucSetsWrong : ChangeSpec := { name := "eucSets", fn := fun _ => fun
  | [d1, d2] => { results := [.lit (.bool false)], args := [d1, d2] }
  | _ => none }
def EucSetsWrongFalsely : Prop := eucSetsRow.holds Try.pinned (OpenSpec.ofChange eucSetsWrong)

/-- 'dragomanlaw17.EucGets': WHATEVER THE INPUT: true; the input reads as it did. -/
def eucGetsSpec : ChangeSpec := { name := "eucGets", fn := fun _ => fun
  | [d1, d2] => { results := [.lit (.bool true)], args := [d1, d2] }
  | _ => none }
def eucGetsRow : OpenClaim := { program := "ytekiblpefdnfhaa", sum := "5b3862b2178efda83e85244a41b4690c21a345b8163efc67c03760a31604dc05", func := "dragoman/dragomanlaw17.EucGets", spec := "eucGets", unfollowed := true, recurses := true, apart := false }
def EucGetsSaid : Prop := eucGetsRow.holds Try.pinned (OpenSpec.ofChange eucGetsSpec)

/-- ITS FALSE NEIGHBOUR: 'it returns false'. Refute it at one input. -/
def eucGetsWrong : ChangeSpec := { name := "eucGets", fn := fun _ => fun
  | [d1, d2] => { results := [.lit (.bool false)], args := [d1, d2] }
  | _ => none }
def EucGetsWrongFalsely : Prop := eucGetsRow.holds Try.pinned (OpenSpec.ofChange eucGetsWrong)

/-- 'dragomanlaw17.EucBack': WHATEVER THE INPUT: true; the input reads as it did. -/
def eucBackSpec : ChangeSpec := { name := "eucBack", fn := fun _ => fun
  | [d1, d2, d3] => { results := [.lit (.bool true)], args := [d1, d2, d3] }
  | _ => none }
def eucBackRow : OpenClaim := { program := "ytekiblpefdnfhaa", sum := "5b3862b2178efda83e85244a41b4690c21a345b8163efc67c03760a31604dc05", func := "dragoman/dragomanlaw17.EucBack", spec := "eucBack", unfollowed := true, recurses := true, apart := false }
def EucBackSaid : Prop := eucBackRow.holds Try.pinned (OpenSpec.ofChange eucBackSpec)

/-- ITS FALSE NEIGHBOUR: 'it returns false'. Refute it at one input. -/
def eucBackWrong : ChangeSpec := { name := "eucBack", fn := fun _ => fun
  | [d1, d2, d3] => { results := [.lit (.bool false)], args := [d1, d2, d3] }
  | _ => none }
def EucBackWrongFalsely : Prop := eucBackRow.holds Try.pinned (OpenSpec.ofChange eucBackWrong)

/- THE SECOND FORM. 'bulk': how many values and letters a reading holds, each counted each time it is reached (what is shared counts as often as it is met; a slice's spare places count too). A statement '..UptoSaid' is the law's where the arguments, and the package variables that the reading takes, are together of bulk at most 1048576: NARROWER than '..Said'. Prove '..Said' where nothing that the law and all that it calls make is longer than what came in: it says more and counts as full. Else prove '..UptoSaid'. A law counts once. -/
mutual
def uptoBulk {H : Type} : DataW H → Nat
  | .lit (.string bytes) => bytes.length + 1
  | .lit _ => 1
  | .nil => 1
  | .ptr d => uptoBulk d + 1
  | .slice elems spare => uptoBulkAll elems + uptoBulkAll spare + 1
  | .agg parts => uptoBulkAll parts + 1
  | .iface _ d => uptoBulk d + 1
  | .map entries => uptoBulkEntries entries + 1
  | .held _ => 1
def uptoBulkAll {H : Type} : List (DataW H) → Nat
  | [] => 0
  | d :: r => uptoBulk d + uptoBulkAll r
def uptoBulkEntries {H : Type} : List (Lit × DataW H) → Nat
  | [] => 0
  | x :: r => uptoBulkEntry x + uptoBulkEntries r
def uptoBulkEntry {H : Type} : Lit × DataW H → Nat
  | (.string bytes, d) => bytes.length + uptoBulk d + 1
  | (_, d) => uptoBulk d + 1
 end
def uptoSmall : (H : Type) → List (DataW H) → Bool := fun _ ds => decide (uptoBulkAll ds ≤ 1048576)
def OpenSpec.upto (s : _root_.Go.ChangeSpec) : _root_.Go.OpenSpec := { _root_.Go.OpenSpec.ofChange s with cond := some uptoSmall }

/-- 'dragomanlaw14.JisRows', WHERE WHAT IT READS IS OF BULK AT MOST 1048576: true; the input reads as it did. -/
def jisRowsUptoRow : OpenClaim := { program := "ytekiblpefdnfhaa", sum := "5b3862b2178efda83e85244a41b4690c21a345b8163efc67c03760a31604dc05", func := "dragoman/dragomanlaw14.JisRows", spec := "jisRows", apart := false, narrowed := true }
def JisRowsUptoSaid : Prop := jisRowsUptoRow.holds Try.pinned (OpenSpec.upto jisRowsSpec)

/-- 'dragomanlaw14.JisTells', WHERE WHAT IT READS IS OF BULK AT MOST 1048576: true; the input reads as it did. -/
def jisTellsUptoRow : OpenClaim := { program := "ytekiblpefdnfhaa", sum := "5b3862b2178efda83e85244a41b4690c21a345b8163efc67c03760a31604dc05", func := "dragoman/dragomanlaw14.JisTells", spec := "jisTells", apart := false, narrowed := true }
def JisTellsUptoSaid : Prop := jisTellsUptoRow.holds Try.pinned (OpenSpec.upto jisTellsSpec)

/-- 'dragomanlaw15.GbRows', WHERE WHAT IT READS IS OF BULK AT MOST 1048576: true; the input reads as it did. -/
def gbRowsUptoRow : OpenClaim := { program := "ytekiblpefdnfhaa", sum := "5b3862b2178efda83e85244a41b4690c21a345b8163efc67c03760a31604dc05", func := "dragoman/dragomanlaw15.GbRows", spec := "gbRows", apart := false, narrowed := true }
def GbRowsUptoSaid : Prop := gbRowsUptoRow.holds Try.pinned (OpenSpec.upto gbRowsSpec)

/-- 'dragomanlaw14.JisBack', WHERE WHAT IT READS IS OF BULK AT MOST 1048576: true; the input reads as it did. -/
def jisBackUptoRow : OpenClaim := { program := "ytekiblpefdnfhaa", sum := "5b3862b2178efda83e85244a41b4690c21a345b8163efc67c03760a31604dc05", func := "dragoman/dragomanlaw14.JisBack", spec := "jisBack", apart := false, narrowed := true }
def JisBackUptoSaid : Prop := jisBackUptoRow.holds Try.pinned (OpenSpec.upto jisBackSpec)

/-- 'dragomanlaw14.JisKana', WHERE WHAT IT READS IS OF BULK AT MOST 1048576: true; the input reads as it did. -/
def jisKanaUptoRow : OpenClaim := { program := "ytekiblpefdnfhaa", sum := "5b3862b2178efda83e85244a41b4690c21a345b8163efc67c03760a31604dc05", func := "dragoman/dragomanlaw14.JisKana", spec := "jisKana", apart := false, narrowed := true }
def JisKanaUptoSaid : Prop := jisKanaUptoRow.holds Try.pinned (OpenSpec.upto jisKanaSpec)

/-- 'dragomanlaw15.GbTells', WHERE WHAT IT READS IS OF BULK AT MOST 1048576: true; the input reads as it did. -/
def gbTellsUptoRow : OpenClaim := { program := "ytekiblpefdnfhaa", sum := "5b3862b2178efda83e85244a41b4690c21a345b8163efc67c03760a31604dc05", func := "dragoman/dragomanlaw15.GbTells", spec := "gbTells", apart := false, narrowed := true }
def GbTellsUptoSaid : Prop := gbTellsUptoRow.holds Try.pinned (OpenSpec.upto gbTellsSpec)

/-- 'dragomanlaw15.GbBack', WHERE WHAT IT READS IS OF BULK AT MOST 1048576: true; the input reads as it did. -/
def gbBackUptoRow : OpenClaim := { program := "ytekiblpefdnfhaa", sum := "5b3862b2178efda83e85244a41b4690c21a345b8163efc67c03760a31604dc05", func := "dragoman/dragomanlaw15.GbBack", spec := "gbBack", apart := false, narrowed := true }
def GbBackUptoSaid : Prop := gbBackUptoRow.holds Try.pinned (OpenSpec.upto gbBackSpec)

/-- 'dragomanlaw15.GbKana', WHERE WHAT IT READS IS OF BULK AT MOST 1048576: true; the input reads as it did. -/
def gbKanaUptoRow : OpenClaim := { program := "ytekiblpefdnfhaa", sum := "5b3862b2178efda83e85244a41b4690c21a345b8163efc67c03760a31604dc05", func := "dragoman/dragomanlaw15.GbKana", spec := "gbKana", apart := false, narrowed := true }
def GbKanaUptoSaid : Prop := gbKanaUptoRow.holds Try.pinned (OpenSpec.upto gbKanaSpec)

/-- 'dragomanlaw16.KscRows', WHERE WHAT IT READS IS OF BULK AT MOST 1048576: true; the input reads as it did. -/
def kscRowsUptoRow : OpenClaim := { program := "ytekiblpefdnfhaa", sum := "5b3862b2178efda83e85244a41b4690c21a345b8163efc67c03760a31604dc05", func := "dragoman/dragomanlaw16.KscRows", spec := "kscRows", apart := false, narrowed := true }
def KscRowsUptoSaid : Prop := kscRowsUptoRow.holds Try.pinned (OpenSpec.upto kscRowsSpec)

/-- 'dragomanlaw16.KscTells', WHERE WHAT IT READS IS OF BULK AT MOST 1048576: true; the input reads as it did. -/
def kscTellsUptoRow : OpenClaim := { program := "ytekiblpefdnfhaa", sum := "5b3862b2178efda83e85244a41b4690c21a345b8163efc67c03760a31604dc05", func := "dragoman/dragomanlaw16.KscTells", spec := "kscTells", apart := false, narrowed := true }
def KscTellsUptoSaid : Prop := kscTellsUptoRow.holds Try.pinned (OpenSpec.upto kscTellsSpec)

/-- 'dragomanlaw16.KscBack', WHERE WHAT IT READS IS OF BULK AT MOST 1048576: true; the input reads as it did. -/
def kscBackUptoRow : OpenClaim := { program := "ytekiblpefdnfhaa", sum := "5b3862b2178efda83e85244a41b4690c21a345b8163efc67c03760a31604dc05", func := "dragoman/dragomanlaw16.KscBack", spec := "kscBack", apart := false, narrowed := true }
def KscBackUptoSaid : Prop := kscBackUptoRow.holds Try.pinned (OpenSpec.upto kscBackSpec)

/-- 'dragomanlaw16.KscHangul', WHERE WHAT IT READS IS OF BULK AT MOST 1048576: true; the input reads as it did. -/
def kscHangulUptoRow : OpenClaim := { program := "ytekiblpefdnfhaa", sum := "5b3862b2178efda83e85244a41b4690c21a345b8163efc67c03760a31604dc05", func := "dragoman/dragomanlaw16.KscHangul", spec := "kscHangul", apart := false, narrowed := true }
def KscHangulUptoSaid : Prop := kscHangulUptoRow.holds Try.pinned (OpenSpec.upto kscHangulSpec)

/-- 'dragomanlaw17.EucSets', WHERE WHAT IT READS IS OF BULK AT MOST 1048576: true; the input reads as it did. -/
def eucSetsUptoRow : OpenClaim := { program := "ytekiblpefdnfhaa", sum := "5b3862b2178efda83e85244a41b4690c21a345b8163efc67c03760a31604dc05", func := "dragoman/dragomanlaw17.EucSets", spec := "eucSets", unfollowed := true, recurses := true, apart := false, narrowed := true }
def EucSetsUptoSaid : Prop := eucSetsUptoRow.holds Try.pinned (OpenSpec.upto eucSetsSpec)

/-- 'dragomanlaw17.EucGets', WHERE WHAT IT READS IS OF BULK AT MOST 1048576: true; the input reads as it did. -/
def eucGetsUptoRow : OpenClaim := { program := "ytekiblpefdnfhaa", sum := "5b3862b2178efda83e85244a41b4690c21a345b8163efc67c03760a31604dc05", func := "dragoman/dragomanlaw17.EucGets", spec := "eucGets", unfollowed := true, recurses := true, apart := false, narrowed := true }
def EucGetsUptoSaid : Prop := eucGetsUptoRow.holds Try.pinned (OpenSpec.upto eucGetsSpec)

/-- 'dragomanlaw17.EucBack', WHERE WHAT IT READS IS OF BULK AT MOST 1048576: true; the input reads as it did. -/
def eucBackUptoRow : OpenClaim := { program := "ytekiblpefdnfhaa", sum := "5b3862b2178efda83e85244a41b4690c21a345b8163efc67c03760a31604dc05", func := "dragoman/dragomanlaw17.EucBack", spec := "eucBack", unfollowed := true, recurses := true, apart := false, narrowed := true }
def EucBackUptoSaid : Prop := eucBackUptoRow.holds Try.pinned (OpenSpec.upto eucBackSpec)

end Rows
end Go.Proofs.Ytekiblpefdnfhaa
