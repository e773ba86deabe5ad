/- Layer 17: what Set writes is read again, what is read can be written; bytes of a text, and more bytes behind them. -/
import Derived.Test.YtekiblpefdnfhaaEucGets
import Derived.Test.YtekiblpefdnfhaaEucSets
import Derived.Lib.ConvBytes
import Derived.ArgAppend
namespace Go.Proofs.Ytekiblpefdnfhaa
open Go.RowKit
set_option maxRecDepth 100000

/-- what was written for u is read as u -/
def Writes (row : Int → List Int) (half : Bool) (u : Int) (xs : List Int) : Prop :=
  (∃ c0, xs = [c0] ∧ 0 ≤ c0 ∧ c0 ≤ 255 ∧ ∀ (n : Nat) c1, 1 ≤ n → getRes row half n c0 c1 = ⟨0, 1, 1, u⟩) ∨
  (∃ c0 c1, xs = [c0, c1] ∧ 0 ≤ c0 ∧ c0 ≤ 255 ∧ 0 ≤ c1 ∧ c1 ≤ 255 ∧ ∀ n : Nat, 2 ≤ n → getRes row half n c0 c1 = ⟨0, 2, 1, u⟩)
/-- a scalar that some bytes stand for -/
def Readable (row : Int → List Int) (half : Bool) (u : Int) : Prop :=
  (0 ≤ u ∧ u < 128) ∨ isHalf half u = true ∨ ∃ r c : Int, 1 ≤ r ∧ r ≤ 94 ∧ 1 ≤ c ∧ c ≤ 94 ∧ has (row r) c = true ∧ scal (row r) c = u
theorem writes_plain {row : Int → List Int} {half : Bool} {u : Int} (h0 : 0 ≤ u) (h1 : u < 128) : Writes row half u [u] := by
  refine .inl ⟨u, rfl, h0, by omega, fun n c1 hn => ?_⟩
  unfold getRes
  rw [if_neg (by omega), if_pos h1]
theorem writes_place {row : Int → List Int} {half : Bool} {u a b : Int} (h : IsPlace row u a b true) : Writes row half u [160 + a, 160 + b] := by
  obtain ⟨a1, a2, b1, b2, hh, hs⟩ := h.found
  refine .inr ⟨_, _, rfl, by omega, by omega, by omega, by omega, fun n hn => ?_⟩
  unfold getRes
  have e1 : 160 + a - 160 = a := by omega
  have e2 : 160 + b - 160 = b := by omega
  rw [if_neg (by omega), if_neg (by omega), if_neg (fun h => by omega), if_neg (fun h => h (by omega)), if_neg (by omega), if_neg (fun h => h (by omega)), e1, e2, if_pos hh, hs]
theorem writes_half {row : Int → List Int} {half : Bool} {u : Int} (h : isHalf half u = true) : Writes row half u [142, u - 65377 + 161] := by
  simp only [isHalf, Bool.and_eq_true, decide_eq_true_eq] at h
  obtain ⟨rfl, h0, h1⟩ := h
  refine .inr ⟨_, _, rfl, by omega, by omega, by omega, by omega, fun n hn => ?_⟩
  unfold getRes
  rw [if_neg (by omega), if_neg (by omega), if_pos ⟨rfl, rfl⟩, if_neg (by omega), if_pos (by omega)]
  congr 1
  omega
theorem Writes.got {row : Int → List Int} {half : Bool} {u : Int} {xs : List Int} (h : Writes row half u xs) :
    (∀ y ∈ xs, 0 ≤ y ∧ y ≤ 255) ∧ 1 ≤ xs.length ∧ xs.length ≤ 2 ∧ ∀ (n : Nat) (ys : List Int), xs.length ≤ n → getRes row half n ((xs ++ ys).getD 0 0) ((xs ++ ys).getD 1 0) = ⟨0, xs.length, 1, u⟩ := by
  rcases h with ⟨c0, rfl, h0, h1, h⟩ | ⟨c0, c1, rfl, h0, h1, h2, h3, h⟩
  · exact ⟨by simp; omega, by simp, by simp, fun n ys hn => h n _ (by simpa using hn)⟩
  · exact ⟨by simp; omega, by simp, by simp, fun n ys hn => h n (by simpa using hn)⟩
/-- what a call of Set tells -/
def SetP (row : Int → List Int) (half : Bool) (u : Int) (w : World) (e : Ending) (w' : World) : Prop :=
  ∃ (err : Int) (s : ByteArray), ((err = 0 ∧ ∃ xs, s = strOfNums xs ∧ Writes row half u xs) ∨ (err = 11 ∧ ¬ Readable row half u)) ∧
    e = .returned (.agg #[.int .i64 err, .string s, .int .i64 0, .int .i64 0, .int .u32 0, .int .i32 0]) ∧ Below w.heap.size w w'
theorem SetPost.toP {row : Int → List Int} {half : Bool} {u : Int} {w w' : World} {e : Ending} (hu : ¬ (0 ≤ u ∧ u < 128)) (h : SetPost row half u w e w') : SetP row half u w e w' := by
  obtain ⟨a, b, ok, hp, he, hb⟩ := h
  refine ⟨_, _, ?_, he, hb⟩
  cases ok with
  | true => exact .inl ⟨rfl, _, rfl, writes_place hp⟩
  | false =>
    by_cases hh : isHalf half u = true
    · exact .inl ⟨setErr_half hh, _, setStr_half a b hh, writes_half hh⟩
    · refine .inr ⟨setErr_none (by simpa using hh), ?_⟩
      rintro (h | h | ⟨r, c, r1, r2, c1, c2, h1, h2⟩)
      · exact hu h
      · exact hh h
      · have := (hp.least r1 r2 c1 c2 h1 h2).1
        cases this
theorem Set_all_81 (u : Int) (w : World) : Calls Try.prog 42 #[.int .i64 81, .int .i32 u] w (SetP jisRow true u w) := by
  by_cases hu : 0 ≤ u ∧ u < 128
  · exact (Set_plain_81 u hu.1 hu.2 w).mono fun e w' h => ⟨0, _, .inl ⟨rfl, _, rfl, writes_plain hu.1 hu.2⟩, h.1, h.2⟩
  · exact (Set_at_81 u hu w).mono fun e w' h => h.toP hu
theorem Set_all_84 (u : Int) (w : World) : Calls Try.prog 42 #[.int .i64 84, .int .i32 u] w (SetP gbRow false u w) := by
  by_cases hu : 0 ≤ u ∧ u < 128
  · exact (Set_plain_84 u hu.1 hu.2 w).mono fun e w' h => ⟨0, _, .inl ⟨rfl, _, rfl, writes_plain hu.1 hu.2⟩, h.1, h.2⟩
  · exact (Set_at_84 u hu w).mono fun e w' h => h.toP hu
theorem Set_all_86 (u : Int) (w : World) : Calls Try.prog 42 #[.int .i64 86, .int .i32 u] w (SetP kscRow false u w) := by
  by_cases hu : 0 ≤ u ∧ u < 128
  · exact (Set_plain_86 u hu.1 hu.2 w).mono fun e w' h => ⟨0, _, .inl ⟨rfl, _, rfl, writes_plain hu.1 hu.2⟩, h.1, h.2⟩
  · exact (Set_at_86 u hu w).mono fun e w' h => h.toP hu
/-- what is read of some bytes, told in three cases -/
theorem getRes_cases (row : Int → List Int) (half : Bool) (n : Nat) (c0 c1 : Int) (hc : 0 < n → 0 ≤ c0) :
    (∃ N K a, getRes row half n c0 c1 = ⟨0, N, K, a⟩ ∧ Readable row half a) ∨ (∃ K a, getRes row half n c0 c1 = ⟨1, 0, K, a⟩) ∨
    (∃ K a, getRes row half n c0 c1 = ⟨10, 1, K, a⟩ ∧ 1 ≤ n) ∨ (∃ K a, getRes row half n c0 c1 = ⟨10, 2, K, a⟩ ∧ 2 ≤ n) := by
  unfold getRes
  split
  · exact .inr (.inl ⟨_, _, rfl⟩)
  have h0 := hc (by omega)
  split
  · exact .inl ⟨_, _, _, rfl, .inl ⟨h0, by assumption⟩⟩
  split
  · rename_i hh
    obtain ⟨rfl, rfl⟩ := hh
    split
    · exact .inr (.inl ⟨_, _, rfl⟩)
    split
    · refine .inl ⟨_, _, _, rfl, .inr (.inl ?_)⟩
      simp only [isHalf, Bool.true_and, decide_eq_true_eq]
      omega
    · exact .inr (.inr (.inl ⟨_, _, rfl, by omega⟩))
  split
  · exact .inr (.inr (.inl ⟨_, _, rfl, by omega⟩))
  split
  · exact .inr (.inl ⟨_, _, rfl⟩)
  split
  · exact .inr (.inr (.inl ⟨_, _, rfl, by omega⟩))
  split
  · exact .inl ⟨_, _, _, rfl, .inr (.inr ⟨_, _, by omega, by omega, by omega, by omega, by assumption, rfl⟩)⟩
  · exact .inr (.inr (.inr ⟨_, _, rfl, by omega⟩))

/-- the bytes of a text -/
theorem bytes_of_text (w : World) (xs : List Int) (hr : ∀ y ∈ xs, 0 ≤ y ∧ y ≤ 255) : IsBytes (Lib.bytesWorld w 5 (strOfNums xs)) (some ⟨w.heap.size, 0, none⟩) xs.length xs := by
  refine ⟨rfl, hr, fun _ => ⟨_, rfl, fun j hj => ?_⟩⟩
  have hp : (⟨w.heap.size, 0, none⟩ : Addr).add j = ⟨w.heap.size, j, none⟩ := by unfold Addr.add; split <;> simp_all
  rw [hp, Lib.bytesWorld_cell w 5 (strOfNums xs) j (by rw [strOfNums_size]; exact hj), strOfNums_data, List.getD_eq_getElem?_getD, List.getElem?_map, List.getElem?_eq_getElem hj, List.getD_eq_getElem?_getD, List.getElem?_eq_getElem hj]
  have := hr _ (List.getElem_mem hj)
  simp only [Option.map_some, Option.getD_some]
  congr 2
  simp only [UInt8.toNat_ofNat']
  omega
theorem below_text (w : World) (s : ByteArray) : Below w.heap.size w (Lib.bytesWorld w 5 s) :=
  ⟨by simp [Lib.bytesWorld, World.freeze]; rfl, by simp [Lib.bytesWorld, World.freeze], by simp [Lib.bytesWorld, World.freeze]; rfl, by rw [Lib.bytesWorld_size]; omega, fun k hk => Lib.bytesWorld_at_old w _ s k hk⟩
theorem spare_text (w : World) (s : ByteArray) (j : Nat) (hj : j < grownCap w s.size 0 5) (h0 : s.size ≤ grownCap w s.size 0 5) :
    ((Lib.bytesWorld w 5 s).cell? ⟨w.heap.size, j, none⟩).isSome = true ∧ (Lib.bytesWorld w 5 s).frozen? ⟨w.heap.size, j, none⟩ = false := by
  have hsz : (Lib.bytesCells w 5 s).size = grownCap w s.size 0 5 := by
    simp only [Lib.bytesCells, Array.size_append, Array.size_map, Array.size_replicate]
    have : s.data.size = s.size := rfl
    omega
  constructor
  · simp [World.cell?, Lib.bytesWorld_at_new, hsz, hj]
  · simp [World.frozen?, Lib.bytesWorld_at_new, hsz]
    omega
theorem IsBytes.cells {w : World} {A : Option Addr} {n : Nat} {xs : List Int} (h : IsBytes w A n xs) (x : Addr) (hx : A = some x) (j : Nat) (u : Value) (hj : (xs.map (Value.int .u8))[j]? = some u) : w.cell? (x.add j) = some u := by
  subst hx
  exact h.news (Below.refl _ _) j u hj
theorem below_setCells {B : Nat} (w : World) (g o : Nat) (vs : List Value) (hB : B ≤ g) : Below B w (w.setCells g o vs) := by
  induction vs generalizing w o with
  | nil => exact Below.refl _ _
  | cons v vs ih => exact ((Below.refl B w).setCell (p := ⟨g, o, none⟩) hB v).trans (ih _ _)
/-- append of some bytes onto bytes that lie at the head of a block -/
theorem run_append_more (W : World) (ty : TypeId) (g len cap : Nat) (os xs : List Int) (A : Option Addr) (n c : Nat) (ho : IsBytes W (some ⟨g, 0, none⟩) len os) (hlc : len ≤ cap)
    (hsp : ∀ j, j < cap → (W.cell? ⟨g, j, none⟩).isSome = true ∧ W.frozen? ⟨g, j, none⟩ = false) (hx : IsBytes W A n xs) (hA : A = none → n = 0 ∧ c = 0) (hs : len + n ≤ 140737488355328) (hg : g < W.heap.size) :
    ∃ g' cap' W', (Builtin.append_ #[45, 45] ty #[.slice (some ⟨g, 0, none⟩) len cap, .slice A n c]).run Try.prog W = .ok (.slice (some ⟨g', 0, none⟩) (len + n) cap') W' ∧
      IsBytes W' (some ⟨g', 0, none⟩) (len + n) (os ++ xs) ∧ Below g W W' := by
  obtain ⟨i0, hi, hz0, hz1, hz2⟩ := info_parts info_byte
  have hlo := ho.1
  have hlx := hx.1
  have hr : ∀ y ∈ os ++ xs, 0 ≤ y ∧ y ≤ 255 := fun y hy => by
    rcases List.mem_append.1 hy with h | h
    · exact ho.2.1 y h
    · exact hx.2.1 y h
  have hadd : ∀ (b j : Nat), (⟨b, 0, none⟩ : Addr).add j = ⟨b, j, none⟩ := fun b j => by unfold Addr.add; split <;> simp_all
  cases A with
  | none =>
    obtain ⟨rfl, rfl⟩ := hA rfl
    obtain rfl : xs = [] := List.eq_nil_of_length_eq_zero hlx
    refine ⟨g, cap, W, ?_, ?_, Below.refl _ _⟩
    · simp [Builtin.append_, run_underlying Try.underlying45, sizeOf, typeInfo, hi, Builtin.lenOf, Builtin.firstCells, hlc, storeCells]
    · rw [List.append_nil]; exact ho
  | some x =>
    by_cases hroom : len + n ≤ cap
    · have hrun := run_append_room_cells (P := Try.prog) W 45 ty 5 i0 Try.underlying45 hi g 0 len cap x n c (xs.map (Value.int .u8)) (by rw [List.length_map, hlx, hz1, Nat.mul_one]) (hx.cells x rfl) (ints_oneCell .u8 xs) hroom
        (fun j hj => by rw [List.length_map] at hj; exact (hsp _ (by rw [hz1]; omega)).1) (fun j hj => by rw [List.length_map] at hj; exact (hsp _ (by rw [hz1]; omega)).2)
      refine ⟨g, cap, _, hrun, ⟨by rw [List.length_append]; omega, hr, fun _ => ⟨_, rfl, fun j hj => ?_⟩⟩, below_setCells _ _ _ _ (Nat.le_refl _)⟩
      rw [hadd, hz1, Nat.mul_one, Nat.zero_add]
      by_cases hjl : j < len
      · rw [World.cell?_setCells_out _ _ _ _ _ (fun _ _ => .inl hjl)]
        obtain ⟨x', hx', hc⟩ := ho.2.2 (by omega)
        obtain rfl := Option.some.inj hx'
        rw [← hadd g j, hc j hjl, List.getD_eq_getElem?_getD, List.getD_eq_getElem?_getD, List.getElem?_append_left (by omega)]
      · have h1 := World.cell?_setCells_in g (xs.map (Value.int .u8)) len W (fun j hj => by rw [List.length_map] at hj; exact (hsp _ (by omega)).1) (j - len) (by rw [List.length_map]; omega)
        have e : len + (j - len) = j := by omega
        rw [e] at h1
        rw [h1, List.getElem_map, List.getD_eq_getElem?_getD, List.getElem?_append_right (by omega), hlo, List.getElem?_eq_getElem (by omega)]
        rfl
    · obtain ⟨v', W', hrun, hown, hgrow⟩ := run_append_arg_grows (P := Try.prog) (w := W) 45 ty 5 i0 (.int .u8 0) 1 1 Try.underlying45 hi hz0 hz1 hz2 rfl (by decide) ⟨g, 0, none⟩ len cap (os.map (Value.int .u8)) (by rw [List.length_map]; omega) (ho.cells _ rfl)
        x n c (xs.map (Value.int .u8)) (by rw [List.length_map]; omega) (hx.cells x rfl) (by omega) (by unfold maxLen; omega) (by omega)
      rw [← List.map_append] at hown
      obtain ⟨g', cap', rfl⟩ : ∃ g' cap', v' = .slice (some ⟨g', 0, none⟩) (len + n) cap' := by
        rcases hown.2 with ⟨_, h⟩ | ⟨g', c, _, h, _⟩
        · omega
        · exact ⟨g', c, h⟩
      exact ⟨g', cap', W', hrun, IsBytes.of_owns hown (by rw [List.length_append]; omega) hr, ⟨hgrow.os, hgrow.tape, hgrow.output, hgrow.size, fun k hk => hgrow.block k (by omega) (by simp)⟩⟩
/-- at a step of a region that draws its order: an append whose run is known -/
theorem step_append_run {P : Program} {ops : Array Oper} {o : Oper} {a : Act} {w : World} {K : Act → World → Prop} {Q : Exit → Act → World → Prop} {E : Prop} (hw : Region.wanted o (yielded ops a.tmps) = true) (s x : Operand) (t : TypeId)
    (ho : o.op = .call { callee := .builtin .append, args := #[s, x], argTypes := #[t, t] }) {v u : Value} (hs : a.eval s = v) (hx : a.eval x = u) {v' : Value} {w' : World}
    (hr : (Builtin.append_ #[t, t] o.type #[v, u]).run P w = .ok v' w') (h : K (a.put o.dst v') w') : if Region.wanted o (yielded ops a.tmps) = true then Oper.wp P o a w K Q else E := by
  rw [if_pos hw]
  unfold Oper.wp execOp
  simp only [ho, resolve, invoke, builtin, Sem.run_bind, Sem.run_pure, Result.andThen_ok, List.map_toArray, List.map_cons, List.map_nil, hs, hx, hr]
  exact h
theorem step_convert_run {P : Program} {ops : Array Oper} {o : Oper} {a : Act} {w : World} {K : Act → World → Prop} {Q : Exit → Act → World → Prop} {E : Prop} (hw : Region.wanted o (yielded ops a.tmps) = true) (x : Operand) (src dst : TypeId)
    (ho : o.op = .convert src dst x) {v : Value} (hx : a.eval x = v) {v' : Value} {w' : World} (hr : (convert src dst v).run P w = .ok v' w') (h : K (a.put o.dst v') w') : if Region.wanted o (yielded ops a.tmps) = true then Oper.wp P o a w K Q else E := by
  rw [if_pos hw]
  unfold Oper.wp execOp
  simp only [ho, Sem.run_bind, Sem.run_pure, Result.andThen_ok, hx, hr]
  exact h
/-- a text of l bytes as bytes: all that a walk wants of it -/
theorem text_bytes (W : World) (xs : List Int) (hr : ∀ y ∈ xs, 0 ≤ y ∧ y ≤ 255) :
    ∃ cap W1, (convert 9 45 (.string (strOfNums xs))).run Try.prog W = .ok (.slice (some ⟨W.heap.size, 0, none⟩) xs.length cap) W1 ∧ xs.length ≤ cap ∧ IsBytes W1 (some ⟨W.heap.size, 0, none⟩) xs.length xs ∧
      (∀ j, j < cap → (W1.cell? ⟨W.heap.size, j, none⟩).isSome = true ∧ W1.frozen? ⟨W.heap.size, j, none⟩ = false) ∧ W1.heap.size = W.heap.size + 1 ∧ Below W.heap.size W W1 := by
  have hrun := Lib.run_convert_string_bytes (P := Try.prog) W 9 45 5 (strOfNums xs) Try.underlying9 Try.underlying45 Try.underlying5
  have hge := grownCap_ge W (strOfNums xs).size 0 5
  have hsz := strOfNums_size xs
  have hsp := fun j hj => spare_text W (strOfNums xs) j hj hge
  rw [hsz] at hrun hge hsp
  exact ⟨_, _, hrun, hge, bytes_of_text W xs hr, hsp, Lib.bytesWorld_size _ _ _, below_text _ _⟩
end Go.Proofs.Ytekiblpefdnfhaa
