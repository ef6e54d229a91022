/- How long each symbol's code is; the comparison by it. -/
import Derived.Test.YthfildmldppihaaProg
import Derived.Below
import Derived.Tactics
import Derived.WalkKit
import Derived.KernelRfl
import Derived.Deep.QuietTactic
import Derived.BigQuiet
import Derived.Laws.Strings
import Derived.Sort.Row
import Derived.Sort.Defs
import Derived.Deep.LoopGhost
import Derived.BigRegion
import Derived.Test.YthfildmldppihaaWWords
import Derived.Test.YthfildmldppihaaWLast
import Derived.Test.YthfildmldppihaaWMore
namespace Go.Proofs.Ythfildmldppihaa.Ga
open Go.RowKit Go.Proofs.YthfildmldppihaaW.PrintWords Go.Proofs.YthfildmldppihaaW.PrintLast Go.Proofs.YthfildmldppihaaW.PrintMore

/-- How many bits each symbol has. -/
def lens : List Nat := [13, 23, 28, 28, 28, 28, 28, 28, 28, 24, 30, 28, 28, 30, 28, 28, 28, 28, 28, 28, 28, 28, 30, 28, 28, 28, 28, 28, 28, 28, 28, 28, 6, 10, 10, 12, 13, 6, 8, 11, 10, 10, 8, 11, 8, 6, 6, 6, 5, 5, 5, 6, 6, 6, 6, 6, 6, 6, 7, 8, 15, 6, 12, 10, 13, 6, 7, 7, 7, 7, 7, 7, 7, 7, 7, 7, 7, 7, 7, 7, 7, 7, 7, 7, 7, 7, 7, 7, 8, 7, 8, 13, 19, 13, 14, 6, 15, 5, 6, 5, 6, 5, 6, 6, 6, 5, 7, 7, 6, 6, 6, 5, 6, 7, 6, 5, 5, 6, 7, 7, 7, 7, 7, 15, 11, 14, 13, 28, 20, 22, 20, 20, 22, 22, 22, 23, 22, 23, 23, 23, 23, 23, 24, 23, 24, 24, 22, 23, 24, 23, 23, 23, 23, 21, 22, 23, 22, 23, 23, 24, 22, 21, 20, 22, 22, 23, 23, 21, 23, 22, 22, 24, 21, 22, 23, 23, 21, 21, 22, 21, 23, 22, 23, 23, 20, 22, 22, 22, 23, 22, 22, 23, 26, 26, 20, 19, 22, 23, 22, 25, 26, 26, 26, 27, 27, 26, 24, 25, 19, 21, 26, 27, 27, 26, 27, 24, 21, 21, 26, 26, 28, 27, 27, 27, 20, 24, 20, 21, 22, 21, 21, 23, 22, 22, 25, 25, 24, 24, 26, 23, 26, 27, 26, 26, 27, 27, 27, 27, 27, 28, 27, 27, 27, 27, 27, 26, 30]
/-- A symbol's. -/
def L (i : Nat) : Nat := lens.getD i 0
theorem L_bd : ∀ i, i < 257 → 5 ≤ L i ∧ L i ≤ 30 := by decide +kernel
theorem lens_length : lens.length = 257 := by decide +kernel

set_option maxRecDepth 100000 in
set_option maxHeartbeats 4000000 in
theorem long_calls (x : Nat) (hx : x < 257) (w : World) : Calls Try.prog 43 #[.int .i64 x] w fun e w' => e = .returned (.int .i64 (L x)) ∧ w' = w := by
  go_enter Try.func43, Try.ntmps43
  generalize hS : ByteArray.mk _ = S
  have hz : S.size = 257 := by rw [← hS]; decide +kernel
  have hl : S.data.toList = lens.map (fun n => UInt8.ofNat (n + 48)) := by rw [← hS]; decide +kernel
  clear hS
  have hv : ∀ i, (h : i < S.size) → (S[i]'h).toNat = L i + 48 := fun i h => by
    have h' : i < S.data.toList.length := by simpa using h
    have e : S[i]'h = S.data.toList[i]'h' := rfl
    have hb := L_bd i (by omega)
    have hi : L i = lens[i]'(by rw [lens_length]; omega) := by unfold L; rw [List.getD_eq_getElem?_getD, List.getElem?_eq_getElem (by rw [lens_length]; omega)]; rfl
    rw [e]
    simp only [hl, List.getElem_map, UInt8.toNat_ofNat']
    rw [← hi]
    omega
  have hI : ∀ W, (Instr.index 9 (.string S) (.int .i64 (x : Int))).run Try.prog W = .ok (.int .u8 ((L x : Nat) + 48 : Int)) W := fun W => by
    have hi : 0 ≤ (x : Int) ∧ (x : Int) < (S.size : Int) := by rw [hz]; omega
    rw [run_index_string W 9 S .i64 x (by kernel_rfl), dif_pos hi]
    have := hv x (by omega)
    simp only [Int.toNat_natCast]
    rw [show ((S[x]'(by omega)).toNat : Int) = (L x : Nat) + 48 by rw [this]; rfl]
  have hb := L_bd x hx
  generalize L x = l at hI hb ⊢
  clear hv
  obtain ⟨b0, b1⟩ := hb
  go_wp2
  go_ret
  exact ⟨rfl, rfl⟩

set_option maxHeartbeats 1000000 in
theorem isNaN_calls (x : Int) (w : World) : Calls Try.prog 61 #[.int .i64 x] w fun e w' => e = .returned (.bool false) ∧ w' = w := by
  go_enter Try.func61, Try.ntmps61
  go_wp2
  go_ret
  exact ⟨by simp, rfl⟩

/-- The order of two symbols, as a number. -/
def cf (x y : Nat) : Int := if L x < L y then -1 else if L y < L x then 1 else 0
set_option maxHeartbeats 1000000 in
theorem compare_calls (x y : Nat) (w : World) : Calls Try.prog 56 #[.int .i64 x, .int .i64 y] w fun e w' => e = .returned (.int .i64 (if x < y then -1 else if y < x then 1 else 0)) ∧ w' = w := by
  by_cases h : x < y
  · have h1 : decide ((x : Int) < (y : Int)) = true := decide_eq_true (by omega)
    rw [if_pos h]
    go_enter Try.func56, Try.ntmps56
    go_wp2_with (go_at_call 61; refine (isNaN_calls _ _).mono ?_; rintro e w' ⟨rfl, rfl⟩)
    go_ret
    exact ⟨rfl, rfl⟩
  · have h1 : decide ((x : Int) < (y : Int)) = false := decide_eq_false (by omega)
    rw [if_neg h]
    by_cases h2 : y < x
    · have h3 : decide ((x : Int) > (y : Int)) = true := decide_eq_true (by omega)
      have h4 : decide ((y : Int) < (x : Int)) = true := decide_eq_true (by omega)
      rw [if_pos h2]
      go_enter Try.func56, Try.ntmps56
      go_wp2_with (go_at_call 61; refine (isNaN_calls _ _).mono ?_; rintro e w' ⟨rfl, rfl⟩)
      go_ret
      exact ⟨rfl, rfl⟩
    · have h3 : decide ((x : Int) > (y : Int)) = false := decide_eq_false (by omega)
      have h4 : decide ((y : Int) < (x : Int)) = false := decide_eq_false (by omega)
      rw [if_neg h2]
      go_enter Try.func56, Try.ntmps56
      go_wp2_with (go_at_call 61; refine (isNaN_calls _ _).mono ?_; rintro e w' ⟨rfl, rfl⟩)
      go_ret
      exact ⟨rfl, rfl⟩
set_option maxHeartbeats 1000000 in
theorem cmp_calls (x y : Nat) (hx : x < 257) (hy : y < 257) (w : World) : Calls Try.prog 55 #[.int .i64 x, .int .i64 y] w fun e w' => e = .returned (.int .i64 (cf x y)) ∧ w' = w := by
  have h0 : cf x y = (if L x < L y then -1 else if L y < L x then 1 else 0) := rfl
  rw [h0]
  clear h0
  have HX := Aside.out (p := x < 257) hx
  have lx : ∀ w, Calls Try.prog 43 #[.int .i64 x] w fun e w' => e = .returned (.int .i64 (L x)) ∧ w' = w := fun w => long_calls x hx w
  have ly : ∀ w, Calls Try.prog 43 #[.int .i64 y] w fun e w' => e = .returned (.int .i64 (L y)) ∧ w' = w := fun w => long_calls y hy w
  generalize L x = a at lx ⊢
  generalize L y = b at ly ⊢
  have lc : ∀ w, Calls Try.prog 56 #[.int .i64 a, .int .i64 b] w fun e w' => e = .returned (.int .i64 (if a < b then -1 else if b < a then 1 else 0)) ∧ w' = w := fun w => compare_calls a b w
  generalize (if a < b then (-1 : Int) else if b < a then 1 else 0) = r at lc ⊢
  go_enter Try.func55, Try.ntmps55
  go_wp2_with (first | (go_at_call 43; refine (lx _).mono ?_; clear lx; rintro e w' ⟨rfl, rfl⟩) | (go_at_call 43; refine (ly _).mono ?_; clear ly; rintro e w' ⟨rfl, rfl⟩) | (go_at_call 56; refine (lc _).mono ?_; rintro e w' ⟨rfl, rfl⟩))
  go_ret
  exact ⟨rfl, rfl⟩
end Go.Proofs.Ythfildmldppihaa.Ga
