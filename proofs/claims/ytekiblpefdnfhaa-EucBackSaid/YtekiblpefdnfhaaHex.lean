/- Lists of numbers written as texts of four digits a number, as the references keep them; and what an index into such a text reads. No program in sight. -/
import Derived.WalkKit
import Derived.WalkSpells
import Derived.Deep.Draws
import Derived.Test.YtekiblpefdnfhaaPlain
namespace Go.Proofs.Ytekiblpefdnfhaa
open Go.RowKit

/-- the value of a digit's byte -/
def digI (n : Int) : Int := if 65 ≤ n then n - 55 else n - 48
/-- the byte of a digit -/
def hexc (d : Nat) : UInt8 := if d < 10 then UInt8.ofNat (48 + d) else UInt8.ofNat (55 + d)
def hex4 (x : Int) : List UInt8 := [hexc (x.toNat / 4096 % 16), hexc (x.toNat / 256 % 16), hexc (x.toNat / 16 % 16), hexc (x.toNat % 16)]
/-- a list as a text -/
def hexBytes (L : List Int) : ByteArray := ⟨(L.flatMap hex4).toArray⟩
/-- a byte of a text, as a number -/
def bI (s : ByteArray) (i : Nat) : Int := ((s.data.toList[i]?).getD 0).toNat
/-- a byte that is a digit -/
def IsHex (n : Int) : Prop := 48 ≤ n ∧ n ≤ 57 ∨ 65 ≤ n ∧ n ≤ 70
instance (n : Int) : Decidable (IsHex n) := by unfold IsHex; exact inferInstance

theorem hexc_ok : ∀ d, d < 16 → digI (hexc d).toNat = d ∧ IsHex (hexc d).toNat := by decide
theorem digI_bound {n : Int} (h : IsHex n) : 0 ≤ digI n ∧ digI n ≤ 15 := by
  unfold digI IsHex at *; split <;> omega

theorem flat4 (f : Int → List UInt8) (hf : ∀ x, (f x).length = 4) (L : List Int) : ∀ (k t : Nat), t < 4 → (L.flatMap f)[4 * k + t]? = (L[k]?).bind fun x => (f x)[t]? := by
  induction L with
  | nil => intro k t _; simp
  | cons x L ih =>
    intro k t ht
    cases k with
    | zero => simp [List.flatMap_cons, List.getElem?_append, hf, ht]
    | succ k =>
      have e : 4 * (k + 1) + t - 4 = 4 * k + t := by omega
      simp only [List.flatMap_cons, List.getElem?_append, hf]
      rw [if_neg (by omega), e, ih k t ht]
      simp
theorem flat4_len (f : Int → List UInt8) (hf : ∀ x, (f x).length = 4) (L : List Int) : (L.flatMap f).length = 4 * L.length := by
  induction L with
  | nil => rfl
  | cons x L ih => simp [List.flatMap_cons, hf, ih]; omega

/-- a text stands for a list -/
structure HexOf (s : ByteArray) (L : List Int) : Prop where
  size : s.size = 4 * L.length
  at_ : ∀ k, k < L.length → IsHex (bI s (4 * k)) ∧ IsHex (bI s (4 * k + 1)) ∧ IsHex (bI s (4 * k + 2)) ∧ IsHex (bI s (4 * k + 3)) ∧
    4096 * digI (bI s (4 * k)) + 256 * digI (bI s (4 * k + 1)) + 16 * digI (bI s (4 * k + 2)) + digI (bI s (4 * k + 3)) = L.getD k 0

theorem hexOf (L : List Int) (h : Fits L) : HexOf (hexBytes L) L := by
  refine ⟨?_, fun k hk => ?_⟩
  · show (L.flatMap hex4).toArray.size = _
    rw [List.size_toArray, flat4_len hex4 (fun _ => rfl)]
  · have hb := h.at_ k
    obtain ⟨x, hx⟩ : ∃ x, L.getD k 0 = x := ⟨_, rfl⟩
    have hg : L[k]? = some x := by rw [← hx, List.getD_eq_getElem?_getD, List.getElem?_eq_getElem hk]; rfl
    rw [hx] at hb ⊢
    have b (t : Nat) (ht : t < 4) : bI (hexBytes L) (4 * k + t) = (((hex4 x)[t]?).getD 0).toNat := by
      unfold bI hexBytes
      rw [List.toList_toArray, flat4 hex4 (fun _ => rfl) L k t ht, hg]; rfl
    have b0 := b 0 (by omega); have b1 := b 1 (by omega); have b2 := b 2 (by omega); have b3 := b 3 (by omega)
    simp only [hex4, Nat.add_zero, List.getElem?_cons_zero, List.getElem?_cons_succ, Option.getD_some] at b0 b1 b2 b3
    obtain ⟨e0, i0⟩ := hexc_ok (x.toNat / 4096 % 16) (by omega)
    obtain ⟨e1, i1⟩ := hexc_ok (x.toNat / 256 % 16) (by omega)
    obtain ⟨e2, i2⟩ := hexc_ok (x.toNat / 16 % 16) (by omega)
    obtain ⟨e3, i3⟩ := hexc_ok (x.toNat % 16) (by omega)
    rw [b0, b1, b2, b3, e0, e1, e2, e3]
    exact ⟨i0, i1, i2, i3, by omega⟩

theorem run_index_bI {P : Program} (t : TypeId) (s : ByteArray) (i : Nat) (h : P.underlying t = some .string) (hi : i < s.size) (w : World) :
    (Instr.index t (.string s) (.int .i64 (i : Int))).run P w = .ok (.int .u8 (bI s i)) w := by
  rw [run_index_string w t s .i64 i h, dif_pos ⟨by omega, by omega⟩]
  have e : ((i : Int).toNat) = i := by omega
  have hl : i < s.data.toList.length := hi
  have : (bI s i) = (((s[i]'hi).toNat : Nat) : Int) := by
    unfold bI
    rw [List.getElem?_eq_getElem hl]; rfl
  rw [this]
  congr 3
theorem bI_extract (s : ByteArray) (a i : Nat) : bI (s.extract a s.size) i = bI s (a + i) := by
  unfold bI
  have e : (s.extract a s.size).data.toList = s.data.toList.drop a := by
    rw [ByteArray.data_extract]
    simp
    exact List.take_of_length_le (by simp)
  rw [e, List.getElem?_drop]
theorem size_extract_end (s : ByteArray) (a : Nat) : (s.extract a s.size).size = s.size - a := by
  rw [ByteArray.size_extract]; omega
theorem run_slice_end {P : Program} (t : TypeId) (s : ByteArray) (i : Nat) (h : P.underlying t = some .string) (hi : i ≤ s.size) (w : World) :
    (Instr.slice t (.string s) (some (.int .i64 (i : Int))) none none).run P w = .ok (.string (s.extract i s.size)) w := by
  have := run_slice_string_from_if w t s .i64 i h
  rw [this, if_pos ⟨by omega, by omega⟩]
  congr 3
theorem beq_not_decide (x : Int) : (x == 65533) = !decide (x ≠ 65533) := by by_cases h : x = 65533 <;> simp [h]
theorem isEmpty_of_size {s : ByteArray} (h : 0 < s.size) : s.toList.isEmpty = false := by
  rw [ByteArray.toList_eq]
  have : 0 < s.data.toList.length := h
  cases hd : s.data.toList with
  | nil => rw [hd] at this; cases this
  | cons a l => rfl
theorem below_drewN {B : Nat} {a w : World} (h : Below B a w) (n : Nat) : Below B a (w.drewN n) := ⟨h.os, h.tape, h.output, h.size, h.block⟩
end Go.Proofs.Ytekiblpefdnfhaa
