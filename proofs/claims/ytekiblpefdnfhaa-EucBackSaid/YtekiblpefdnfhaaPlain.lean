/- Plain words on rows of 94 cells: what a cell stands for, where a scalar's first place is, and that such a place is but one. No program in sight. -/
namespace Go.Proofs.Ytekiblpefdnfhaa

/-- each number of a list is that of two bytes -/
def Fits (L : List Int) : Prop := L.all (fun x => decide (0 ≤ x) && decide (x < 65536)) = true
instance (L : List Int) : Decidable (Fits L) := by unfold Fits; exact inferInstance
theorem fits_nil : Fits [] := rfl
theorem Fits.at_ {L : List Int} (h : Fits L) (i : Nat) : 0 ≤ L.getD i 0 ∧ L.getD i 0 < 65536 := by
  by_cases hi : i < L.length
  · have := List.all_eq_true.1 h (L.getD i 0) (by simp [List.getD_eq_getElem?_getD, hi])
    simpa using this
  · simp [List.getD_eq_getElem?_getD, Nat.not_lt.1 hi]

/-- does a cell of a row stand for a scalar? -/
def has (L : List Int) (c : Int) : Bool := decide (L ≠ [] ∧ 1 ≤ c ∧ c ≤ 94 ∧ L.getD (c - 1).toNat 0 ≠ 65533)
/-- the scalar that it stands for; else nought -/
def scal (L : List Int) (c : Int) : Int := if has L c then L.getD (c - 1).toNat 0 else 0

theorem has_iff {L : List Int} {c : Int} : has L c = true ↔ L ≠ [] ∧ 1 ≤ c ∧ c ≤ 94 ∧ L.getD (c - 1).toNat 0 ≠ 65533 := by simp [has]
theorem scal_has {L : List Int} {c : Int} (h : has L c = true) : scal L c = L.getD (c - 1).toNat 0 := by simp [scal, h]
theorem scal_not {L : List Int} {c : Int} (h : has L c = false) : scal L c = 0 := by simp [scal, h]
theorem has_nil (c : Int) : has [] c = false := by simp [has]
theorem scal_bound {L : List Int} (h : Fits L) (c : Int) : 0 ≤ scal L c ∧ scal L c < 65536 := by
  unfold scal; split
  · exact h.at_ _
  · omega

/-- a cell of a set stands for a scalar -/
def Stands (row : Int → List Int) (r c u : Int) : Prop := has (row r) c = true ∧ scal (row r) c = u

/-- the first place of a scalar among 94 rows of 94 cells, or that there is none -/
def IsPlace (row : Int → List Int) (u a b : Int) (ok : Bool) : Prop :=
  (ok = true ∧ 1 ≤ a ∧ a ≤ 94 ∧ 1 ≤ b ∧ b ≤ 94 ∧ Stands row a b u ∧
    ∀ r c, 1 ≤ r → r ≤ 94 → 1 ≤ c → c ≤ 94 → (r < a ∨ r = a ∧ c < b) → ¬ Stands row r c u) ∨
  (ok = false ∧ a = 0 ∧ b = 0 ∧ ∀ r c, 1 ≤ r → r ≤ 94 → 1 ≤ c → c ≤ 94 → ¬ Stands row r c u)

theorem IsPlace.unique {row : Int → List Int} {u a b a' b' : Int} {ok ok' : Bool} (h : IsPlace row u a b ok) (h' : IsPlace row u a' b' ok') :
    a = a' ∧ b = b' ∧ ok = ok' := by
  rcases h with ⟨rfl, a1, a2, b1, b2, hs, hf⟩ | ⟨rfl, rfl, rfl, hf⟩ <;> rcases h' with ⟨rfl, a1', a2', b1', b2', hs', hf'⟩ | ⟨rfl, rfl, rfl, hf'⟩
  · have h1 := hf a' b' a1' a2' b1' b2'
    have h2 := hf' a b a1 a2 b1 b2
    have h3 : ¬ (a' < a ∨ a' = a ∧ b' < b) := fun h => h1 h hs'
    have h4 : ¬ (a < a' ∨ a = a' ∧ b < b') := fun h => h2 h hs
    refine ⟨by omega, by omega, rfl⟩
  · exact absurd hs (hf' a b a1 a2 b1 b2)
  · exact absurd hs' (hf a' b' a1' a2' b1' b2')
  · exact ⟨rfl, rfl, rfl⟩

theorem IsPlace.found {row : Int → List Int} {u a b : Int} (h : IsPlace row u a b true) : 1 ≤ a ∧ a ≤ 94 ∧ 1 ≤ b ∧ b ≤ 94 ∧ has (row a) b = true ∧ scal (row a) b = u := by
  rcases h with ⟨_, a1, a2, b1, b2, hs, _⟩ | ⟨h, _⟩
  · exact ⟨a1, a2, b1, b2, hs.1, hs.2⟩
  · cases h
theorem IsPlace.least {row : Int → List Int} {u a b r c : Int} {ok : Bool} (h : IsPlace row u a b ok) (h1 : 1 ≤ r) (h2 : r ≤ 94) (h3 : 1 ≤ c) (h4 : c ≤ 94) (hs : has (row r) c = true) (hu : scal (row r) c = u) :
    ok = true ∧ (a < r ∨ a = r ∧ b ≤ c) := by
  rcases h with ⟨hk, a1, a2, b1, b2, _, hf⟩ | ⟨_, _, _, hf⟩
  · have := hf r c h1 h2 h3 h4
    exact ⟨hk, by
      have : ¬ (r < a ∨ r = a ∧ c < b) := fun h => this h ⟨hs, hu⟩
      omega⟩
  · exact absurd ⟨hs, hu⟩ (hf r c h1 h2 h3 h4)
theorem IsPlace.none_ {row : Int → List Int} {u a b : Int} (h : IsPlace row u a b false) : a = 0 ∧ b = 0 := by
  rcases h with ⟨h, _⟩ | ⟨_, h1, h2, _⟩
  · cases h
  · exact ⟨h1, h2⟩
theorem IsPlace.missing (row : Int → List Int) : IsPlace row 65533 0 0 false := by
  refine .inr ⟨rfl, rfl, rfl, fun r c _ _ _ _ h => ?_⟩
  have h1 := has_iff.1 h.1
  rw [Stands, scal_has h.1] at h
  exact h1.2.2.2 h.2
theorem IsPlace.out {row : Int → List Int} (hfit : ∀ r, Fits (row r)) {u : Int} (h : u < 0 ∨ 65535 < u) : IsPlace row u 0 0 false := by
  refine .inr ⟨rfl, rfl, rfl, fun r c _ _ _ _ hs => ?_⟩
  have := scal_bound (hfit r) c
  have := hs.2
  omega

/-- nothing stands for u in the rows up to k -/
def NoneTo (row : Int → List Int) (u : Int) (k : Nat) : Prop := ∀ r c : Int, 1 ≤ r → r ≤ k → 1 ≤ c → c ≤ 94 → ¬ Stands row r c u
/-- nor in the first j cells of row r -/
def NoneIn (row : Int → List Int) (u r : Int) (j : Nat) : Prop := ∀ c : Int, 1 ≤ c → c ≤ j → ¬ Stands row r c u
theorem NoneTo.zero (row : Int → List Int) (u : Int) : NoneTo row u 0 := fun r c h1 h2 _ _ => by omega
theorem NoneIn.zero (row : Int → List Int) (u r : Int) : NoneIn row u r 0 := fun c h1 h2 => by omega
theorem NoneIn.step {row : Int → List Int} {u r : Int} {j : Nat} (h : NoneIn row u r j) (hn : ¬ Stands row r (j + 1 : Nat) u) : NoneIn row u r (j + 1) := by
  intro c h1 h2
  by_cases e : c = ((j + 1 : Nat) : Int)
  · subst e; exact hn
  · exact h c h1 (by omega)
theorem NoneTo.step {row : Int → List Int} {u : Int} {k : Nat} (h : NoneTo row u k) (hn : NoneIn row u (k + 1 : Nat) 94) : NoneTo row u (k + 1) := by
  intro r c h1 h2 h3 h4
  by_cases e : r = ((k + 1 : Nat) : Int)
  · subst e; exact hn c h3 (by omega)
  · exact h r c h1 (by omega) h3 h4
theorem NoneIn.empty {row : Int → List Int} {u r : Int} (h : row r = []) (j : Nat) : NoneIn row u r j := fun c _ _ hs => by
  have := hs.1; rw [h, has_nil] at this; cases this
theorem NoneTo.end_ {row : Int → List Int} {u : Int} (h : NoneTo row u 94) : IsPlace row u 0 0 false := .inr ⟨rfl, rfl, rfl, fun r c h1 h2 h3 h4 => h r c h1 (by omega) h3 h4⟩
theorem NoneTo.hit {row : Int → List Int} {u : Int} {k j : Nat} (h : NoneTo row u k) (hi : NoneIn row u (k + 1 : Nat) j) (hk : k < 94) (hj : j < 94) (hs : Stands row (k + 1 : Nat) (j + 1 : Nat) u) :
    IsPlace row u (k + 1 : Nat) (j + 1 : Nat) true := by
  refine .inl ⟨rfl, by omega, by omega, by omega, by omega, hs, fun r c h1 h2 h3 h4 hlt => ?_⟩
  rcases hlt with hlt | ⟨rfl, hlt⟩
  · exact h r c h1 (by omega) h3 h4
  · exact hi c h3 (by omega)
/-- a cell whose number is u, u not 65533 -/
theorem stands_of {row : Int → List Int} {r u : Int} {j : Nat} (hne : row r ≠ []) (hj : j < 94) (hu : u ≠ 65533) (h : (row r).getD j 0 = u) : Stands row r (j + 1 : Nat) u := by
  have e : (((j + 1 : Nat) : Int) - 1).toNat = j := by omega
  have hh : has (row r) (j + 1 : Nat) = true := has_iff.2 ⟨hne, by omega, by omega, by rw [e, h]; exact hu⟩
  exact ⟨hh, by rw [scal_has hh, e, h]⟩
theorem stands_not {row : Int → List Int} {r u : Int} {j : Nat} (h : (row r).getD j 0 ≠ u) : ¬ Stands row r (j + 1 : Nat) u := by
  intro hs
  have e : (((j + 1 : Nat) : Int) - 1).toNat = j := by omega
  have := hs.2
  rw [scal_has hs.1, e] at this
  exact h this
/-- by program: nothing stands for u ahead of row a, cell b -/
def clearB (row : Int → List Int) (u : Int) (a b : Nat) : Bool :=
  (List.range a).all fun i => (List.range 94).all fun j => decide (i + 1 = a ∧ b ≤ j + 1) || !(has (row ((i + 1 : Nat) : Int)) ((j + 1 : Nat) : Int) && scal (row ((i + 1 : Nat) : Int)) ((j + 1 : Nat) : Int) == u)
theorem isPlace_of_clear {row : Int → List Int} {u : Int} {a b : Nat} (h : clearB row u a b = true) (ha : 1 ≤ a ∧ a ≤ 94) (hb : 1 ≤ b ∧ b ≤ 94) (h1 : has (row a) b = true) (h2 : scal (row a) b = u) : IsPlace row u a b true := by
  refine .inl ⟨rfl, by omega, by omega, by omega, by omega, ⟨h1, h2⟩, fun r c r1 r2 c1 c2 hlt hs => ?_⟩
  obtain ⟨i, rfl⟩ : ∃ i : Nat, r = ((i + 1 : Nat) : Int) := ⟨(r - 1).toNat, by omega⟩
  obtain ⟨j, rfl⟩ : ∃ j : Nat, c = ((j + 1 : Nat) : Int) := ⟨(c - 1).toNat, by omega⟩
  have := List.all_eq_true.1 (List.all_eq_true.1 h i (List.mem_range.2 (by omega))) j (List.mem_range.2 (by omega))
  rw [Bool.or_eq_true, decide_eq_true_eq] at this
  rcases this with this | this
  · omega
  · rw [hs.1, hs.2] at this
    simp at this
theorem placeCases {row : Int → List Int} {u a b : Int} {ok : Bool} (h : IsPlace row u a b ok) : (ok = true ∧ has (row a) b = true ∧ scal (row a) b = u) ∨ ok = false := by
  cases ok
  · exact .inr rfl
  · exact .inl ⟨rfl, h.found.2.2.2.2.1, h.found.2.2.2.2.2⟩
theorem leastCases {row : Int → List Int} {u a b r c : Int} {ok : Bool} (h : IsPlace row u a b ok) (h1 : 1 ≤ r) (h2 : r ≤ 94) (h3 : 1 ≤ c) (h4 : c ≤ 94) (hs : has (row r) c = true) (hu : scal (row r) c = u) :
    ok = true ∧ has (row a) b = true ∧ scal (row a) b = u ∧ (a < r ∨ a = r ∧ b ≤ c) := by
  obtain ⟨rfl, hl⟩ := h.least h1 h2 h3 h4 hs hu
  exact ⟨rfl, h.found.2.2.2.2.1, h.found.2.2.2.2.2, hl⟩
theorem cell_has {L : List Int} {j : Nat} (h : L ≠ []) (hj : j < 94) (hx : L.getD j 0 ≠ 65533) : has L ((j : Int) + 1) = true ∧ scal L ((j : Int) + 1) = L.getD j 0 := by
  have e : ((j : Int) + 1 - 1).toNat = j := by omega
  have hh : has L ((j : Int) + 1) = true := has_iff.2 ⟨h, by omega, by omega, by rw [e]; exact hx⟩
  exact ⟨hh, by rw [scal_has hh, e]⟩
theorem cell_not {L : List Int} {j : Nat} (hx : L.getD j 0 = 65533) : has L ((j : Int) + 1) = false ∧ scal L ((j : Int) + 1) = 0 := by
  have e : ((j : Int) + 1 - 1).toNat = j := by omega
  have hh : has L ((j : Int) + 1) = false := by
    rw [Bool.eq_false_iff]; intro h2; have := (has_iff.1 h2).2.2.2; rw [e] at this; exact this hx
  exact ⟨hh, scal_not hh⟩
end Go.Proofs.Ytekiblpefdnfhaa
