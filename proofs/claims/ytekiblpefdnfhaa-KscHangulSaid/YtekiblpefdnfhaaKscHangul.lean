/- The walk of the law KscHangul: the syllables of row 16 rise; a greater triple of parts is a greater syllable. -/
import Derived.Test.YtekiblpefdnfhaaKscLaws
namespace Go.Proofs.Ytekiblpefdnfhaa
open Go.RowKit
set_option maxRecDepth 100000

/-- is there a syllable of three parts? -/
def sylB (f m l : Int) : Bool := decide (0 ≤ f ∧ f < 19 ∧ 0 ≤ m ∧ m < 21 ∧ 0 ≤ l ∧ l < 28)
/-- the syllable -/
def sylI (f m l : Int) : Int := if sylB f m l then 44032 + (f * 21 + m) * 28 + l else 0

theorem ksc_Syllable_yes (f m l : Int) (f0 : 0 ≤ f) (f1 : f < 19) (m0 : 0 ≤ m) (m1 : m < 21) (l0 : 0 ≤ l) (l1 : l < 28) (w : World) : Calls Try.prog 41 #[.int .i64 f, .int .i64 m, .int .i64 l] w fun e w' =>
    e = .returned (.tuple #[.int .i32 (44032 + (f * 21 + m) * 28 + l), .bool true]) ∧ w = w' := by
  go_enter Try.func41, Try.ntmps41
  go_wp2_with fail
  go_ret2
  exact ⟨rfl, rfl⟩
theorem ksc_Syllable_no (f m l : Int) (h : f < 0 ∨ 0 ≤ f ∧ 19 ≤ f ∨ (0 ≤ f ∧ f < 19) ∧ m < 0 ∨ (0 ≤ f ∧ f < 19) ∧ 0 ≤ m ∧ 21 ≤ m ∨ (0 ≤ f ∧ f < 19 ∧ 0 ≤ m ∧ m < 21) ∧ l < 0 ∨ (0 ≤ f ∧ f < 19 ∧ 0 ≤ m ∧ m < 21) ∧ 0 ≤ l ∧ 28 ≤ l) (w : World) :
    Calls Try.prog 41 #[.int .i64 f, .int .i64 m, .int .i64 l] w fun e w' => e = .returned (.tuple #[.int .i32 0, .bool false]) ∧ w = w' := by
  rcases h with h | ⟨h, h'⟩ | ⟨⟨h1, h2⟩, h⟩ | ⟨⟨h1, h2⟩, h, h'⟩ | ⟨⟨h1, h2, h3, h4⟩, h⟩ | ⟨⟨h1, h2, h3, h4⟩, h, h'⟩
  all_goals
    go_enter Try.func41, Try.ntmps41
    go_wp2_with fail
    go_ret2
    exact ⟨rfl, rfl⟩
theorem ksc_Syllable (f m l : Int) (w : World) : Calls Try.prog 41 #[.int .i64 f, .int .i64 m, .int .i64 l] w fun e w' => e = .returned (.tuple #[.int .i32 (sylI f m l), .bool (sylB f m l)]) ∧ w = w' := by
  by_cases h : 0 ≤ f ∧ f < 19 ∧ 0 ≤ m ∧ m < 21 ∧ 0 ≤ l ∧ l < 28
  · have e : sylB f m l = true := decide_eq_true h
    have e2 : sylI f m l = 44032 + (f * 21 + m) * 28 + l := by simp [sylI, e]
    rw [e, e2]
    obtain ⟨a, b, c, d, x, y⟩ := h
    exact ksc_Syllable_yes f m l a b c d x y w
  · have e : sylB f m l = false := decide_eq_false h
    have e2 : sylI f m l = 0 := by simp [sylI, e]
    rw [e, e2]
    exact ksc_Syllable_no f m l (by omega) w
theorem ksc_Parts_in (u : Int) (h0 : 44032 ≤ u) (h1 : u < 55204) (w : World) : Calls Try.prog 40 #[.int .i32 u] w fun e w' => ∃ x y z : Int, e = .returned (.tuple #[.int .i64 x, .int .i64 y, .int .i64 z, .bool true]) ∧ w = w' := by
  go_enter Try.func40, Try.ntmps40
  go_wp2_with fail
  refine bodyPost_ret (by simp [results, Try.results40, go_sem]; rfl) rfl ?_
  exact ⟨_, _, _, rfl, rfl⟩

theorem ksc_16 (k : Nat) (hk : k < 93) : has (kscRow 16) ((k : Int) + 1) = true ∧ has (kscRow 16) ((k : Int) + 1 + 1) = true ∧ scal (kscRow 16) ((k : Int) + 1) < scal (kscRow 16) ((k : Int) + 1 + 1) ∧
    44032 ≤ scal (kscRow 16) ((k : Int) + 1) ∧ scal (kscRow 16) ((k : Int) + 1) < 55204 := by
  have h : (List.range 93).all (fun k => has (kscRow 16) ((k : Int) + 1) && has (kscRow 16) ((k : Int) + 1 + 1) && decide (scal (kscRow 16) ((k : Int) + 1) < scal (kscRow 16) ((k : Int) + 1 + 1)) &&
    decide (44032 ≤ scal (kscRow 16) ((k : Int) + 1)) && decide (scal (kscRow 16) ((k : Int) + 1) < 55204)) = true := by decide +kernel
  have := List.all_eq_true.1 h k (List.mem_range.2 hk)
  simp only [Bool.and_eq_true, decide_eq_true_eq] at this
  exact ⟨this.1.1.1.1, this.1.1.1.2, this.1.1.2, this.1.2, this.2⟩

theorem syl_yes {f m l : Int} (h : sylB f m l = true) : (0 ≤ f ∧ f < 19 ∧ 0 ≤ m ∧ m < 21 ∧ 0 ≤ l ∧ l < 28) ∧ sylI f m l = 44032 + (f * 21 + m) * 28 + l := by
  refine ⟨of_decide_eq_true h, by simp [sylI, h]⟩

set_option maxHeartbeats 2000000 in
theorem ksc_Hangul_at (cell x c a b f m l u v y z : Int) (ok o1 o2 o3 : Bool) (hx : IntKind.u64.wrap cell = x) (hx0 : 0 ≤ x) (hr : 1 + x % 93 = c)
    (e1 : has (kscRow 16) c = true) (e2 : has (kscRow 16) (c + 1) = true) (s1 : scal (kscRow 16) c = a) (s2 : scal (kscRow 16) (c + 1) = b) (hab : a < b) (ha0 : 44032 ≤ a) (ha1 : a < 55204)
    (S : ∀ w, Calls Try.prog 41 #[.int .i64 f, .int .i64 m, .int .i64 l] w fun e w' => e = .returned (.tuple #[.int .i32 u, .bool ok]) ∧ w = w')
    (hb : ok = true → f < 19 ∧ 0 ≤ f ∧ m < 21 ∧ 0 ≤ m ∧ l < 28 ∧ 0 ≤ l ∧ 44032 ≤ u ∧ u < 55204)
    (S1 : ∀ w, Calls Try.prog 41 #[.int .i64 f, .int .i64 m, .int .i64 (l + 1)] w fun e w' => e = .returned (.tuple #[.int .i32 v, .bool o1]) ∧ w = w') (h1 : ok = true → o1 = true → v = u + 1)
    (S2 : ∀ w, Calls Try.prog 41 #[.int .i64 f, .int .i64 (m + 1), .int .i64 0] w fun e w' => e = .returned (.tuple #[.int .i32 y, .bool o2]) ∧ w = w') (h2 : ok = true → o2 = true → u < y)
    (S3 : ∀ w, Calls Try.prog 41 #[.int .i64 (f + 1), .int .i64 0, .int .i64 0] w fun e w' => e = .returned (.tuple #[.int .i32 z, .bool o3]) ∧ w = w') (h3 : ok = true → o3 = true → u < z) (w : World) :
    Calls Try.prog 14 #[.int .i64 cell, .int .i64 f, .int .i64 m, .int .i64 l] w fun e w' => e = .returned (.bool true) ∧ Below w.heap.size w w' := by
  have T := Lib.hid S
  have T1 := Lib.hid S1
  have T2 := Lib.hid S2
  have T3 := Lib.hid S3
  clear S S1 S2 S3
  cases ok
  · clear h1 h2 h3 hb
    go_enter Try.func14, Try.ntmps14
    go_wp2_with fail
    refine (ksc_works _).mono ?_
    rintro e w1 ⟨rfl, hb1⟩
    go_wp2_with fail
    refine (ksc_Scalar _ _ _).mono ?_
    rintro e w2 ⟨rfl, hb2⟩
    go_wp2_with fail
    refine (ksc_Scalar _ _ _).mono ?_
    rintro e w3 ⟨rfl, hb3⟩
    go_wp2_with fail
    refine (ksc_Parts_in a ha0 ha1 _).mono ?_
    rintro e w4 ⟨p1, p2, p3, rfl, rfl⟩
    go_wp2_with fail
    refine (T.out _).mono ?_
    rintro e w5 ⟨rfl, rfl⟩
    go_wp2_with fail
    go_ret
    exact ⟨rfl, below_then (below_then hb1 hb2 (Nat.le_refl _)) hb3 (Nat.le_refl _)⟩
  · obtain ⟨b1, b2, b3, b4, b5, b6, b7, b8⟩ := hb rfl
    replace h1 := h1 rfl
    replace h2 := h2 rfl
    replace h3 := h3 rfl
    clear hb
    cases o1 <;> cases o2 <;> cases o3
    all_goals
      (try (have h1 := h1 rfl; subst h1))
      (try (have h2 := h2 rfl))
      (try (have h3 := h3 rfl))
      go_enter Try.func14, Try.ntmps14
      go_wp2_with fail
      refine (ksc_works _).mono ?_
      rintro e w1 ⟨rfl, hb1⟩
      go_wp2_with fail
      refine (ksc_Scalar _ _ _).mono ?_
      rintro e w2 ⟨rfl, hb2⟩
      go_wp2_with fail
      refine (ksc_Scalar _ _ _).mono ?_
      rintro e w3 ⟨rfl, hb3⟩
      go_wp2_with fail
      refine (ksc_Parts_in a ha0 ha1 _).mono ?_
      rintro e w4 ⟨p1, p2, p3, rfl, rfl⟩
      go_wp2_with fail
      refine (T.out _).mono ?_
      rintro e w5 ⟨rfl, rfl⟩
      go_wp2_with fail
      refine (T1.out _).mono ?_
      rintro e w5 ⟨rfl, rfl⟩
      go_wp2_with fail
      refine (T2.out _).mono ?_
      rintro e w5 ⟨rfl, rfl⟩
      go_wp2_with fail
      refine (T3.out _).mono ?_
      rintro e w5 ⟨rfl, rfl⟩
      go_wp2_with fail
      go_ret
      exact ⟨rfl, below_then (below_then hb1 hb2 (Nat.le_refl _)) hb3 (Nat.le_refl _)⟩

theorem ksc_Hangul (cell f m l : Int) (w : World) : Calls Try.prog 14 #[.int .i64 cell, .int .i64 f, .int .i64 m, .int .i64 l] w fun e w' => e = .returned (.bool true) ∧ Below w.heap.size w w' := by
  obtain ⟨x, hx⟩ : ∃ x, IntKind.u64.wrap cell = x := ⟨_, rfl⟩
  have hx0 : 0 ≤ x := by rw [← hx, IntKind.wrap_u64]; omega
  obtain ⟨k, hk⟩ : ∃ k : Nat, x % 93 = k := ⟨(x % 93).toNat, by omega⟩
  obtain ⟨k1, k2, k3, k4, k5⟩ := ksc_16 k (by omega)
  refine ksc_Hangul_at cell x ((k : Int) + 1) _ _ f m l _ _ _ _ _ _ _ _ hx hx0 (by omega) k1 k2 rfl rfl k3 k4 k5 (ksc_Syllable f m l) (fun h => ?_) (ksc_Syllable f m (l + 1)) (fun h h' => ?_) (ksc_Syllable f (m + 1) 0) (fun h h' => ?_) (ksc_Syllable (f + 1) 0 0) (fun h h' => ?_) w
  · obtain ⟨h, e⟩ := syl_yes h
    omega
  · obtain ⟨h, e⟩ := syl_yes h
    obtain ⟨h', e'⟩ := syl_yes h'
    omega
  · obtain ⟨h, e⟩ := syl_yes h
    obtain ⟨h', e'⟩ := syl_yes h'
    omega
  · obtain ⟨h, e⟩ := syl_yes h
    obtain ⟨h', e'⟩ := syl_yes h'
    omega
end Go.Proofs.Ytekiblpefdnfhaa
