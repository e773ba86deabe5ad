/- Walks that layer 17 leans on: bytes as texts; the bytes of JIS X 0201; which rows a kind has. -/
import Derived.Test.YtekiblpefdnfhaaJisLaws
import Derived.Test.YtekiblpefdnfhaaGbLaws
import Derived.Test.YtekiblpefdnfhaaKscLaws
import Derived.Laws.EntriesVeiled
import Derived.WalkLawsBesides
import Derived.Laws.BytesArg
namespace Go.Proofs.Ytekiblpefdnfhaa
open Go.RowKit
set_option maxRecDepth 100000

/-- one byte, two bytes as a text -/
theorem conv1 (W : World) (h : Nat) (x : Int) (hh : W.heap.size = h) : (convert 45 9 (.slice (some ⟨h, 0, none⟩) 1 1)).run Try.prog (W.alloc (.cells #[.int .u8 x] 5)) = .ok (.string (strOfNums [x])) (W.alloc (.cells #[.int .u8 x] 5)) := by
  subst hh
  refine run_convert_bytes_arg _ 45 5 Try.underlying45 Try.underlying5 W.heap.size 0 1 1 [x] rfl (fun i hi => ?_) 9 Try.underlying9
  obtain rfl : i = 0 := by omega
  rw [World.cell?_alloc_at _ _ _ _ rfl]
  rfl
theorem conv2 (W : World) (h : Nat) (x y : Int) (hh : W.heap.size = h) : (convert 45 9 (.slice (some ⟨h, 0, none⟩) 2 2)).run Try.prog (W.alloc (.cells #[.int .u8 x, .int .u8 y] 5)) = .ok (.string (strOfNums [x, y])) (W.alloc (.cells #[.int .u8 x, .int .u8 y] 5)) := by
  subst hh
  refine run_convert_bytes_arg _ 45 5 Try.underlying45 Try.underlying5 W.heap.size 0 2 2 [x, y] rfl (fun i hi => ?_) 9 Try.underlying9
  rw [World.cell?_alloc_at _ _ _ _ rfl]
  match i, hi with
  | 0, _ => rfl
  | 1, _ => rfl

/-- jis.HalfByte of a form of half width -/
theorem HalfByte_half (u : Int) (h0 : 65377 ≤ u) (h1 : u ≤ 65439) (w : World) : Calls Try.prog 59 #[.int .i32 u] w fun e w' => e = .returned (.tuple #[.int .u8 (u - 65377 + 161), .bool true]) ∧ w = w' := by
  go_enter Try.func59, Try.ntmps59
  go_wp2_with fail
  go_ret2
  exact ⟨rfl, rfl⟩
def SmallByte (w : World) (e : Ending) (w' : World) : Prop := ∃ (b : Int) (ok : Bool), e = .returned (.tuple #[.int .u8 b, .bool ok]) ∧ b ≤ 128 ∧ w = w'
/-- of any other scalar that is no byte: none, or a byte below 128 -/
theorem HalfByte_not (u : Int) (h : u < 0 ∨ 128 ≤ u ∧ u < 65377 ∨ 65439 < u) (w : World) : Calls Try.prog 59 #[.int .i32 u] w (SmallByte w) := by
  rcases h with h | ⟨h, h'⟩ | h
  · go_enter Try.func59, Try.ntmps59
    go_wp2_with fail
    go_ret2
    exact ⟨_, _, rfl, by decide, rfl⟩
  · by_cases h1 : u = 165
    · subst h1
      go_enter Try.func59, Try.ntmps59
      go_wp2_with fail
      go_ret2
      exact ⟨_, _, rfl, by decide, rfl⟩
    by_cases h2 : u = 8254
    · subst h2
      go_enter Try.func59, Try.ntmps59
      go_wp2_with fail
      go_ret2
      exact ⟨_, _, rfl, by decide, rfl⟩
    have g1 : (u == 165) = false := by simp [h1]
    have g2 : (u == 8254) = false := by simp [h2]
    clear h1 h2
    go_enter Try.func59, Try.ntmps59
    go_wp2_with fail
    go_ret2
    exact ⟨_, _, rfl, by decide, rfl⟩
  · go_enter Try.func59, Try.ntmps59
    go_wp2_with fail
    go_ret2
    exact ⟨_, _, rfl, by decide, rfl⟩

/-- what a byte of JIS X 0201 stands for -/
def halfB (b : Int) : Bool := decide (b < 128 ∨ 161 ≤ b ∧ b ≤ 223)
def halfI (b : Int) : Int := if b = 92 then 165 else if b = 126 then 8254 else if b < 128 then b else if 161 ≤ b ∧ b ≤ 223 then 65377 + (b - 161) else 0
theorem refHalf (b : Int) (h0 : 0 ≤ b) (h1 : b < 256) (w : World) : Calls Try.prog 64 #[.int .u8 b] w fun e w' => e = .returned (.tuple #[.int .i32 (halfI b), .bool (halfB b)]) ∧ w = w' := by
  by_cases h2 : b = 92
  · subst h2
    go_enter Try.func64, Try.ntmps64
    go_wp2_with fail
    go_ret2
    exact ⟨rfl, rfl⟩
  by_cases h3 : b = 126
  · subst h3
    go_enter Try.func64, Try.ntmps64
    go_wp2_with fail
    go_ret2
    exact ⟨rfl, rfl⟩
  have g2 : (b == 92) = false := by simp [h2]
  have g3 : (b == 126) = false := by simp [h3]
  by_cases h4 : b < 128
  · have e1 : halfI b = b := by simp [halfI, h2, h3, h4]
    have e2 : halfB b = true := by simp [halfB, h4]
    rw [e1, e2]
    clear e1 e2 h2 h3
    go_enter Try.func64, Try.ntmps64
    go_wp2_with fail
    go_ret2
    exact ⟨rfl, rfl⟩
  by_cases h5 : b < 161
  · have e1 : halfI b = 0 := by simp only [halfI]; rw [if_neg h2, if_neg h3, if_neg h4, if_neg (by omega)]
    have e2 : halfB b = false := decide_eq_false (by omega)
    rw [e1, e2]
    clear e1 e2 h2 h3
    go_enter Try.func64, Try.ntmps64
    go_wp2_with fail
    go_ret2
    exact ⟨rfl, rfl⟩
  by_cases h6 : 223 < b
  · have e1 : halfI b = 0 := by simp only [halfI]; rw [if_neg h2, if_neg h3, if_neg h4, if_neg (by omega)]
    have e2 : halfB b = false := decide_eq_false (by omega)
    rw [e1, e2]
    clear e1 e2 h2 h3
    go_enter Try.func64, Try.ntmps64
    go_wp2_with fail
    go_ret2
    exact ⟨rfl, rfl⟩
  · have e1 : halfI b = 65377 + (b - 161) := by simp only [halfI]; rw [if_neg h2, if_neg h3, if_neg h4, if_pos (by omega)]
    have e2 : halfB b = true := decide_eq_true (by omega)
    rw [e1, e2]
    clear e1 e2 h2 h3
    go_enter Try.func64, Try.ntmps64
    go_wp2_with fail
    go_ret2
    exact ⟨rfl, rfl⟩
theorem half_first {u : Int} {k : Nat} (h0 : 65377 ≤ u) (h1 : u ≤ 65439) (hk : (k : Int) ≤ u - 65377 + 161) (hb : halfB k = true) (hi : halfI k = u) : (k : Int) = u - 65377 + 161 := by
  have hb' := of_decide_eq_true hb
  unfold halfI at hi
  split at hi
  · omega
  split at hi
  · omega
  split at hi
  · omega
  split at hi
  · omega
  · omega
theorem half_hit {u : Int} (h0 : 65377 ≤ u) (h1 : u ≤ 65439) : halfB (u - 65377 + 161) = true ∧ halfI (u - 65377 + 161) = u := by
  refine ⟨decide_eq_true (by omega), ?_⟩
  simp only [halfI]
  rw [if_neg (by omega), if_neg (by omega), if_neg (by omega), if_pos (by omega)]
  omega
set_option maxHeartbeats 1000000 in
theorem refHalfByte_half (u : Int) (h0 : 65377 ≤ u) (h1 : u ≤ 65439) (w : World) : Calls Try.prog 61 #[.int .i32 u] w fun e w' => e = .returned (.tuple #[.int .u8 (u - 65377 + 161), .bool true]) ∧ w = w' := by
  go_enter Try.func61, Try.ntmps61
  go_wp2_with fail
  go_loop [4] (fun i => ∃ k : Nat, (k : Int) ≤ u - 65377 + 161 ∧ i = .int .i64 k) (fun i => 256 - (intOf i).toNat)
  case atStart => exact ⟨0, by omega, rfl⟩
  case round =>
    obtain ⟨k, hk, rfl⟩ := hrel
    have hk2 : (k : Int) < 256 := by omega
    by_cases he : (k : Int) = u - 65377 + 161
    · obtain ⟨q1, q2⟩ := half_hit h0 h1
      rw [← he] at q1 q2
      have HE := Lib.hid he
      clear he
      go_wp2_with (go_at_call 64; refine (refHalf _ (by omega) (by omega) _).mono ?_; rintro e w1 ⟨rfl, rfl⟩)
      go_ret2
      exact ⟨by rw [← HE.out]; rfl, rfl⟩
    · have hlt : (k : Int) < u - 65377 + 161 := by omega
      by_cases hb : halfB k = true
      · have hn : (halfI k == u) = false := by
          rw [beq_eq_false_iff_ne]
          intro hi
          exact he (half_first h0 h1 hk hb hi)
        clear he
        go_wp2_with (go_at_call 64; refine (refHalf _ (by omega) (by omega) _).mono ?_; rintro e w1 ⟨rfl, rfl⟩)
        go_round
        case rel => exact ⟨k + 1, by omega, by go_num⟩
        case measure => simp [intOf]; omega
      · have hb' : halfB k = false := by simpa using hb
        clear he hb
        go_wp2_with (go_at_call 64; refine (refHalf _ (by omega) (by omega) _).mono ?_; rintro e w1 ⟨rfl, rfl⟩)
        go_round
        case rel => exact ⟨k + 1, by omega, by go_num⟩
        case measure => simp [intOf]; omega

/-- the three kinds -/
def IsKind (k : Int) : Prop := k = 81 ∨ k = 84 ∨ k = 86
/-- the rows of a kind -/
def eucRow (k : Int) : Int → List Int := if k = 81 then jisRow else if k = 84 then gbRow else kscRow
abbrev rowsV (f g : Nat) (h : Bool) : Array Value := #[.func (.func f) #[] #[], .func (.func g) #[] #[], .bool h]
theorem rowsOf_81 (w : World) : Calls Try.prog 58 #[.int .i64 81] w fun e w' => e = .returned (.tuple #[.agg #[.func (.func 21) #[] #[], .func (.func 23) #[] #[], .bool true], .bool true]) ∧
    w.alloc (.cells #[.func (.func 21) #[] #[], .func (.func 23) #[] #[], .bool true] 62) = w' := by
  go_enter Try.func58, Try.ntmps58
  go_wp2
  exact bodyPost_ret (v := .tuple #[.agg #[.func (.func 21) #[] #[], .func (.func 23) #[] #[], .bool true], .bool true]) (by simp [results, Try.results58, go_sem]) rfl ⟨rfl, rfl⟩
theorem rowsOf_84 (w : World) : Calls Try.prog 58 #[.int .i64 84] w fun e w' => e = .returned (.tuple #[.agg #[.func (.func 28) #[] #[], .func (.func 30) #[] #[], .bool false], .bool true]) ∧
    w.alloc (.cells #[.func (.func 28) #[] #[], .func (.func 30) #[] #[], .bool false] 62) = w' := by
  go_enter Try.func58, Try.ntmps58
  go_wp2
  exact bodyPost_ret (v := .tuple #[.agg #[.func (.func 28) #[] #[], .func (.func 30) #[] #[], .bool false], .bool true]) (by simp [results, Try.results58, go_sem]) rfl ⟨rfl, rfl⟩
theorem rowsOf_86 (w : World) : Calls Try.prog 58 #[.int .i64 86] w fun e w' => e = .returned (.tuple #[.agg #[.func (.func 35) #[] #[], .func (.func 37) #[] #[], .bool false], .bool true]) ∧
    w.alloc (.cells #[.func (.func 35) #[] #[], .func (.func 37) #[] #[], .bool false] 62) = w' := by
  go_enter Try.func58, Try.ntmps58
  go_wp2
  exact bodyPost_ret (v := .tuple #[.agg #[.func (.func 35) #[] #[], .func (.func 37) #[] #[], .bool false], .bool true]) (by simp [results, Try.results58, go_sem]) rfl ⟨rfl, rfl⟩
theorem rowsOf_none (k : Int) (h1 : (k == 81) = false) (h2 : (k == 84) = false) (h3 : (k == 86) = false) (w : World) : Calls Try.prog 58 #[.int .i64 k] w fun e w' => e = .returned (.tuple #[.agg #[.nilFunc, .nilFunc, .bool false], .bool false]) ∧
    w.alloc (.cells #[.nilFunc, .nilFunc, .bool false] 62) = w' := by
  go_enter Try.func58, Try.ntmps58
  go_wp2
  exact bodyPost_ret (v := .tuple #[.agg #[.nilFunc, .nilFunc, .bool false], .bool false]) (by simp [results, Try.results58, go_sem]) rfl ⟨rfl, rfl⟩
theorem refHas (k : Int) (w : World) : Calls Try.prog 47 #[.int .i64 k] w fun e w' => e = .returned (.bool (decide (k = 81 ∨ k = 84 ∨ k = 86))) ∧ w = w' := by
  by_cases h1 : k = 81
  · subst h1
    go_enter Try.func47, Try.ntmps47
    go_wp2
    go_ret
    exact ⟨rfl, rfl⟩
  by_cases h2 : k = 84
  · subst h2
    go_enter Try.func47, Try.ntmps47
    go_wp2
    go_ret
    exact ⟨rfl, rfl⟩
  by_cases h3 : k = 86
  · subst h3
    go_enter Try.func47, Try.ntmps47
    go_wp2
    go_ret
    exact ⟨rfl, rfl⟩
  have e : decide (k = 81 ∨ k = 84 ∨ k = 86) = false := decide_eq_false (by simp [h1, h2, h3])
  rw [e]
  have g1 : (k == 81) = false := by simp [h1]
  have g2 : (k == 84) = false := by simp [h2]
  have g3 : (k == 86) = false := by simp [h3]
  clear e h1 h2 h3
  go_enter Try.func47, Try.ntmps47
  go_wp2
  go_ret
  exact ⟨rfl, rfl⟩
end Go.Proofs.Ytekiblpefdnfhaa
