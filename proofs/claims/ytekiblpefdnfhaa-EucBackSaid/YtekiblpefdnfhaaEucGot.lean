/- What a step of layer 17 gets of some bytes, in plain numbers; that the program's Get and the reference's both tell it. -/
import Derived.Test.YtekiblpefdnfhaaEucGet81
import Derived.Test.YtekiblpefdnfhaaEucGet84
import Derived.Test.YtekiblpefdnfhaaEucGet86
import Derived.Test.YtekiblpefdnfhaaEucPair81
import Derived.Test.YtekiblpefdnfhaaEucPair84
import Derived.Test.YtekiblpefdnfhaaEucPair86
import Derived.Test.YtekiblpefdnfhaaEucRefGet81
import Derived.Test.YtekiblpefdnfhaaEucRefGet84
import Derived.Test.YtekiblpefdnfhaaEucRefGet86
import Derived.Test.YtekiblpefdnfhaaEucRefPair81
import Derived.Test.YtekiblpefdnfhaaEucRefPair84
import Derived.Test.YtekiblpefdnfhaaEucRefPair86
namespace Go.Proofs.Ytekiblpefdnfhaa
open Go.RowKit

/-- a result of Get: error, bytes, scalars, the scalar -/
structure GotR where
  err : Int
  n : Int
  k : Int
  a : Int
def gotV (r : GotR) : Value := .agg #[.int .i64 r.err, .int .i64 r.n, .int .i64 r.k, .int .i32 r.a, .int .i32 0, .int .i64 0, .int .i64 0, .int .u32 0, .int .i32 0]
/-- what the first step gets of n bytes, the first of them c0, the second c1 -/
def getRes (row : Int → List Int) (half : Bool) (n : Nat) (c0 c1 : Int) : GotR :=
  if n = 0 then ⟨1, 0, 0, 0⟩
  else if c0 < 128 then ⟨0, 1, 1, c0⟩
  else if half = true ∧ c0 = 142 then (if n = 1 then ⟨1, 0, 0, 0⟩ else if 161 ≤ c1 ∧ c1 ≤ 223 then ⟨0, 2, 1, 65377 + (c1 - 161)⟩ else ⟨10, 1, 0, 0⟩)
  else if ¬ (160 < c0 ∧ c0 < 255) then ⟨10, 1, 0, 0⟩
  else if n = 1 then ⟨1, 0, 0, 0⟩
  else if ¬ (160 < c1 ∧ c1 < 255) then ⟨10, 1, 0, 0⟩
  else if has (row (c0 - 160)) (c1 - 160) = true then ⟨0, 2, 1, scal (row (c0 - 160)) (c1 - 160)⟩ else ⟨10, 2, 0, 0⟩
/-- a slice of n bytes begins with c0, c1 -/
def Begins (w : World) (A : Option Addr) (n : Nat) (c0 c1 : Int) : Prop :=
  0 < n → ∃ b o, A = some ⟨b, o, none⟩ ∧ b < w.heap.size ∧ w.cell? ⟨b, o, none⟩ = some (.int .u8 c0) ∧ 0 ≤ c0 ∧ c0 ≤ 255 ∧ (1 < n → w.cell? ⟨b, o + 1, none⟩ = some (.int .u8 c1) ∧ 0 ≤ c1 ∧ c1 ≤ 255)
theorem Get_all_81 (A : Option Addr) (n cap : Nat) (c0 c1 : Int) (w : World) (h : Begins w A n c0 c1) : Calls Try.prog 44 #[.int .i64 81, .slice A n cap] w fun e w' => e = .returned (gotV (getRes jisRow true n c0 c1)) ∧ Below w.heap.size w w' := by
  unfold getRes
  by_cases hn0 : n = 0
  · subst hn0; rw [if_pos rfl]; exact Get_empty_81 A cap w
  rw [if_neg hn0]
  obtain ⟨b, o, rfl, hb, hc0, p0, p1, h2⟩ := h (by omega)
  have hn : ((n : Int) == 0) = false := by rw [beq_eq_false_iff_ne]; omega
  by_cases ha : c0 < 128
  · rw [if_pos ha]; exact Get_ascii_81 b o n cap c0 hn (by omega) p0 ha w hb hc0
  rw [if_neg ha]
  by_cases h142 : c0 = 142
  · subst h142
    rw [if_pos ⟨rfl, rfl⟩]
    by_cases hn1 : n = 1
    · subst hn1; rw [if_pos rfl]; exact Get_hshort_81 b o cap w hb hc0
    rw [if_neg hn1]
    obtain ⟨hc1, q0, q1⟩ := h2 (by omega)
    have hm : ((n : Int) == 1) = false := by rw [beq_eq_false_iff_ne]; omega
    by_cases hy : 161 ≤ c1 ∧ c1 ≤ 223
    · rw [if_pos hy]
      rw [← Int.add_sub_assoc]; exact Get_hyes_81 b o n cap c1 hn (by omega) hm (by omega) hy.1 hy.2 w hb hc0 hc1
    · rw [if_neg hy]
      by_cases z1 : c1 ≤ 160 ∨ 255 ≤ c1
      · exact Get_hbad1_81 b o n cap c1 hn (by omega) hm z1 w hb hc0 hc1
      · exact Get_hno_81 b o n cap c1 hn (by omega) hm (by omega) (by omega) (by omega) w hb hc0 hc1
  rw [if_neg (fun h => h142 h.2)]
  by_cases hg : 160 < c0 ∧ c0 < 255
  · rw [if_neg (fun h => h hg)]
    obtain ⟨g0, g1⟩ := hg
    by_cases hn1 : n = 1
    · subst hn1; rw [if_pos rfl]; exact Get_short_81 b o cap c0 g0 g1 w hb hc0
    rw [if_neg hn1]
    obtain ⟨hc1, q0, q1⟩ := h2 (by omega)
    have hm : ((n : Int) == 1) = false := by rw [beq_eq_false_iff_ne]; omega
    by_cases hk : 160 < c1 ∧ c1 < 255
    · rw [if_neg (fun h => h hk)]
      obtain ⟨k0, k1⟩ := hk
      by_cases hh : has (jisRow (c0 - 160)) (c1 - 160) = true
      · rw [if_pos hh]; exact Get_yes_81 b o n cap c0 c1 hn (by omega) hm g0 g1 k0 k1 hh w hb hc0 hc1
      · rw [if_neg hh]; exact Get_no_81 b o n cap c0 c1 hn (by omega) hm g0 g1 k0 k1 (by simpa using hh) w hb hc0 hc1
    · rw [if_pos hk]
      exact Get_bad1_81 b o n cap c0 c1 hn (by omega) hm g0 g1 (by omega) w hb hc0 hc1
  · rw [if_pos hg]
    exact Get_bad0_81 b o n cap c0 hn (by omega) (by omega) (by rw [beq_eq_false_iff_ne]; exact h142) (by omega) w hb hc0

theorem RGet_all_81 (A : Option Addr) (n cap : Nat) (c0 c1 : Int) (w : World) (h : Begins w A n c0 c1) : Calls Try.prog 45 #[.int .i64 81, .slice A n cap] w fun e w' => e = .returned (gotV (getRes jisRow true n c0 c1)) ∧ Below w.heap.size w w' := by
  unfold getRes
  by_cases hn0 : n = 0
  · subst hn0; rw [if_pos rfl]; exact RGet_empty_81 A cap w
  rw [if_neg hn0]
  obtain ⟨b, o, rfl, hb, hc0, p0, p1, h2⟩ := h (by omega)
  have hn : ((n : Int) == 0) = false := by rw [beq_eq_false_iff_ne]; omega
  by_cases ha : c0 < 128
  · rw [if_pos ha]; exact RGet_ascii_81 b o n cap c0 hn (by omega) p0 ha w hb hc0
  rw [if_neg ha]
  by_cases h142 : c0 = 142
  · subst h142
    rw [if_pos ⟨rfl, rfl⟩]
    by_cases hn1 : n = 1
    · subst hn1; rw [if_pos rfl]; exact RGet_hshort_81 b o cap w hb hc0
    rw [if_neg hn1]
    obtain ⟨hc1, q0, q1⟩ := h2 (by omega)
    have hm : ((n : Int) == 1) = false := by rw [beq_eq_false_iff_ne]; omega
    by_cases hy : 161 ≤ c1 ∧ c1 ≤ 223
    · rw [if_pos hy]
      exact RGet_hyes_81 b o n cap c1 hn (by omega) hm hy.1 hy.2 w hb hc0 hc1
    · rw [if_neg hy]
      by_cases z1 : c1 ≤ 160
      · exact RGet_hbad1lo_81 b o n cap c1 hn (by omega) hm z1 w hb hc0 hc1
      by_cases z2 : 255 ≤ c1
      · exact RGet_hbad1hi_81 b o n cap c1 hn (by omega) hm z2 w hb hc0 hc1
      · exact RGet_hno_81 b o n cap c1 hn (by omega) hm (by omega) (by omega) w hb hc0 hc1
  rw [if_neg (fun h => h142 h.2)]
  by_cases hg : 160 < c0 ∧ c0 < 255
  · rw [if_neg (fun h => h hg)]
    obtain ⟨g0, g1⟩ := hg
    by_cases hn1 : n = 1
    · subst hn1; rw [if_pos rfl]; exact RGet_short_81 b o cap c0 g0 g1 w hb hc0
    rw [if_neg hn1]
    obtain ⟨hc1, q0, q1⟩ := h2 (by omega)
    have hm : ((n : Int) == 1) = false := by rw [beq_eq_false_iff_ne]; omega
    by_cases hk : 160 < c1 ∧ c1 < 255
    · rw [if_neg (fun h => h hk)]
      obtain ⟨k0, k1⟩ := hk
      by_cases hh : has (jisRow (c0 - 160)) (c1 - 160) = true
      · rw [if_pos hh]; exact RGet_yes_81 b o n cap c0 c1 hn (by omega) hm g0 g1 k0 k1 hh w hb hc0 hc1
      · rw [if_neg hh]; exact RGet_no_81 b o n cap c0 c1 hn (by omega) hm g0 g1 k0 k1 (by simpa using hh) w hb hc0 hc1
    · rw [if_pos hk]
      by_cases z : c1 ≤ 160
      · exact RGet_bad1lo_81 b o n cap c0 c1 hn (by omega) hm g0 g1 z w hb hc0 hc1
      · exact RGet_bad1hi_81 b o n cap c0 c1 hn (by omega) hm g0 g1 (by omega) w hb hc0 hc1
  · rw [if_pos hg]
    by_cases z : c0 ≤ 160
    · exact RGet_bad0lo_81 b o n cap c0 hn (by omega) (by omega) (by rw [beq_eq_false_iff_ne]; exact h142) z w hb hc0
    · exact RGet_bad0hi_81 b o n cap c0 hn (by omega) (by omega) w hb hc0

theorem Get_all_84 (A : Option Addr) (n cap : Nat) (c0 c1 : Int) (w : World) (h : Begins w A n c0 c1) : Calls Try.prog 44 #[.int .i64 84, .slice A n cap] w fun e w' => e = .returned (gotV (getRes gbRow false n c0 c1)) ∧ Below w.heap.size w w' := by
  unfold getRes
  by_cases hn0 : n = 0
  · subst hn0; rw [if_pos rfl]; exact Get_empty_84 A cap w
  rw [if_neg hn0]
  obtain ⟨b, o, rfl, hb, hc0, p0, p1, h2⟩ := h (by omega)
  have hn : ((n : Int) == 0) = false := by rw [beq_eq_false_iff_ne]; omega
  by_cases ha : c0 < 128
  · rw [if_pos ha]; exact Get_ascii_84 b o n cap c0 hn (by omega) p0 ha w hb hc0
  rw [if_neg ha]
  rw [if_neg (fun h => by cases h.1)]
  by_cases hg : 160 < c0 ∧ c0 < 255
  · rw [if_neg (fun h => h hg)]
    obtain ⟨g0, g1⟩ := hg
    by_cases hn1 : n = 1
    · subst hn1; rw [if_pos rfl]; exact Get_short_84 b o cap c0 g0 g1 w hb hc0
    rw [if_neg hn1]
    obtain ⟨hc1, q0, q1⟩ := h2 (by omega)
    have hm : ((n : Int) == 1) = false := by rw [beq_eq_false_iff_ne]; omega
    by_cases hk : 160 < c1 ∧ c1 < 255
    · rw [if_neg (fun h => h hk)]
      obtain ⟨k0, k1⟩ := hk
      by_cases hh : has (gbRow (c0 - 160)) (c1 - 160) = true
      · rw [if_pos hh]; exact Get_yes_84 b o n cap c0 c1 hn (by omega) hm g0 g1 k0 k1 hh w hb hc0 hc1
      · rw [if_neg hh]; exact Get_no_84 b o n cap c0 c1 hn (by omega) hm g0 g1 k0 k1 (by simpa using hh) w hb hc0 hc1
    · rw [if_pos hk]
      exact Get_bad1_84 b o n cap c0 c1 hn (by omega) hm g0 g1 (by omega) w hb hc0 hc1
  · rw [if_pos hg]
    exact Get_bad0_84 b o n cap c0 hn (by omega) (by omega) (by omega) w hb hc0

theorem RGet_all_84 (A : Option Addr) (n cap : Nat) (c0 c1 : Int) (w : World) (h : Begins w A n c0 c1) : Calls Try.prog 45 #[.int .i64 84, .slice A n cap] w fun e w' => e = .returned (gotV (getRes gbRow false n c0 c1)) ∧ Below w.heap.size w w' := by
  unfold getRes
  by_cases hn0 : n = 0
  · subst hn0; rw [if_pos rfl]; exact RGet_empty_84 A cap w
  rw [if_neg hn0]
  obtain ⟨b, o, rfl, hb, hc0, p0, p1, h2⟩ := h (by omega)
  have hn : ((n : Int) == 0) = false := by rw [beq_eq_false_iff_ne]; omega
  by_cases ha : c0 < 128
  · rw [if_pos ha]; exact RGet_ascii_84 b o n cap c0 hn (by omega) p0 ha w hb hc0
  rw [if_neg ha]
  rw [if_neg (fun h => by cases h.1)]
  by_cases hg : 160 < c0 ∧ c0 < 255
  · rw [if_neg (fun h => h hg)]
    obtain ⟨g0, g1⟩ := hg
    by_cases hn1 : n = 1
    · subst hn1; rw [if_pos rfl]; exact RGet_short_84 b o cap c0 g0 g1 w hb hc0
    rw [if_neg hn1]
    obtain ⟨hc1, q0, q1⟩ := h2 (by omega)
    have hm : ((n : Int) == 1) = false := by rw [beq_eq_false_iff_ne]; omega
    by_cases hk : 160 < c1 ∧ c1 < 255
    · rw [if_neg (fun h => h hk)]
      obtain ⟨k0, k1⟩ := hk
      by_cases hh : has (gbRow (c0 - 160)) (c1 - 160) = true
      · rw [if_pos hh]; exact RGet_yes_84 b o n cap c0 c1 hn (by omega) hm g0 g1 k0 k1 hh w hb hc0 hc1
      · rw [if_neg hh]; exact RGet_no_84 b o n cap c0 c1 hn (by omega) hm g0 g1 k0 k1 (by simpa using hh) w hb hc0 hc1
    · rw [if_pos hk]
      by_cases z : c1 ≤ 160
      · exact RGet_bad1lo_84 b o n cap c0 c1 hn (by omega) hm g0 g1 z w hb hc0 hc1
      · exact RGet_bad1hi_84 b o n cap c0 c1 hn (by omega) hm g0 g1 (by omega) w hb hc0 hc1
  · rw [if_pos hg]
    by_cases h142 : c0 = 142
    · subst h142; exact RGet_bad142_84 b o n cap hn (by omega) w hb hc0
    by_cases z : c0 ≤ 160
    · exact RGet_bad0lo_84 b o n cap c0 hn (by omega) (by omega) (by rw [beq_eq_false_iff_ne]; exact h142) z w hb hc0
    · exact RGet_bad0hi_84 b o n cap c0 hn (by omega) (by omega) w hb hc0

theorem Get_all_86 (A : Option Addr) (n cap : Nat) (c0 c1 : Int) (w : World) (h : Begins w A n c0 c1) : Calls Try.prog 44 #[.int .i64 86, .slice A n cap] w fun e w' => e = .returned (gotV (getRes kscRow false n c0 c1)) ∧ Below w.heap.size w w' := by
  unfold getRes
  by_cases hn0 : n = 0
  · subst hn0; rw [if_pos rfl]; exact Get_empty_86 A cap w
  rw [if_neg hn0]
  obtain ⟨b, o, rfl, hb, hc0, p0, p1, h2⟩ := h (by omega)
  have hn : ((n : Int) == 0) = false := by rw [beq_eq_false_iff_ne]; omega
  by_cases ha : c0 < 128
  · rw [if_pos ha]; exact Get_ascii_86 b o n cap c0 hn (by omega) p0 ha w hb hc0
  rw [if_neg ha]
  rw [if_neg (fun h => by cases h.1)]
  by_cases hg : 160 < c0 ∧ c0 < 255
  · rw [if_neg (fun h => h hg)]
    obtain ⟨g0, g1⟩ := hg
    by_cases hn1 : n = 1
    · subst hn1; rw [if_pos rfl]; exact Get_short_86 b o cap c0 g0 g1 w hb hc0
    rw [if_neg hn1]
    obtain ⟨hc1, q0, q1⟩ := h2 (by omega)
    have hm : ((n : Int) == 1) = false := by rw [beq_eq_false_iff_ne]; omega
    by_cases hk : 160 < c1 ∧ c1 < 255
    · rw [if_neg (fun h => h hk)]
      obtain ⟨k0, k1⟩ := hk
      by_cases hh : has (kscRow (c0 - 160)) (c1 - 160) = true
      · rw [if_pos hh]; exact Get_yes_86 b o n cap c0 c1 hn (by omega) hm g0 g1 k0 k1 hh w hb hc0 hc1
      · rw [if_neg hh]; exact Get_no_86 b o n cap c0 c1 hn (by omega) hm g0 g1 k0 k1 (by simpa using hh) w hb hc0 hc1
    · rw [if_pos hk]
      exact Get_bad1_86 b o n cap c0 c1 hn (by omega) hm g0 g1 (by omega) w hb hc0 hc1
  · rw [if_pos hg]
    exact Get_bad0_86 b o n cap c0 hn (by omega) (by omega) (by omega) w hb hc0

theorem RGet_all_86 (A : Option Addr) (n cap : Nat) (c0 c1 : Int) (w : World) (h : Begins w A n c0 c1) : Calls Try.prog 45 #[.int .i64 86, .slice A n cap] w fun e w' => e = .returned (gotV (getRes kscRow false n c0 c1)) ∧ Below w.heap.size w w' := by
  unfold getRes
  by_cases hn0 : n = 0
  · subst hn0; rw [if_pos rfl]; exact RGet_empty_86 A cap w
  rw [if_neg hn0]
  obtain ⟨b, o, rfl, hb, hc0, p0, p1, h2⟩ := h (by omega)
  have hn : ((n : Int) == 0) = false := by rw [beq_eq_false_iff_ne]; omega
  by_cases ha : c0 < 128
  · rw [if_pos ha]; exact RGet_ascii_86 b o n cap c0 hn (by omega) p0 ha w hb hc0
  rw [if_neg ha]
  rw [if_neg (fun h => by cases h.1)]
  by_cases hg : 160 < c0 ∧ c0 < 255
  · rw [if_neg (fun h => h hg)]
    obtain ⟨g0, g1⟩ := hg
    by_cases hn1 : n = 1
    · subst hn1; rw [if_pos rfl]; exact RGet_short_86 b o cap c0 g0 g1 w hb hc0
    rw [if_neg hn1]
    obtain ⟨hc1, q0, q1⟩ := h2 (by omega)
    have hm : ((n : Int) == 1) = false := by rw [beq_eq_false_iff_ne]; omega
    by_cases hk : 160 < c1 ∧ c1 < 255
    · rw [if_neg (fun h => h hk)]
      obtain ⟨k0, k1⟩ := hk
      by_cases hh : has (kscRow (c0 - 160)) (c1 - 160) = true
      · rw [if_pos hh]; exact RGet_yes_86 b o n cap c0 c1 hn (by omega) hm g0 g1 k0 k1 hh w hb hc0 hc1
      · rw [if_neg hh]; exact RGet_no_86 b o n cap c0 c1 hn (by omega) hm g0 g1 k0 k1 (by simpa using hh) w hb hc0 hc1
    · rw [if_pos hk]
      by_cases z : c1 ≤ 160
      · exact RGet_bad1lo_86 b o n cap c0 c1 hn (by omega) hm g0 g1 z w hb hc0 hc1
      · exact RGet_bad1hi_86 b o n cap c0 c1 hn (by omega) hm g0 g1 (by omega) w hb hc0 hc1
  · rw [if_pos hg]
    by_cases h142 : c0 = 142
    · subst h142; exact RGet_bad142_86 b o n cap hn (by omega) w hb hc0
    by_cases z : c0 ≤ 160
    · exact RGet_bad0lo_86 b o n cap c0 hn (by omega) (by omega) (by rw [beq_eq_false_iff_ne]; exact h142) z w hb hc0
    · exact RGet_bad0hi_86 b o n cap c0 hn (by omega) (by omega) w hb hc0
end Go.Proofs.Ytekiblpefdnfhaa
