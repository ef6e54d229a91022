/- How long each symbol's code is; the comparison by it. A row of 257 small numbers in one number; a world in which nothing but such a row has turned. The stable sort's walks: rotate, insertion. -/
import Derived.Test.YthfildmldppihaaProg
import Derived.Below
import Derived.Tactics
import Derived.WalkKit
import Derived.KernelRfl
import Derived.Deep.QuietTactic
import Derived.BigQuiet
import Derived.Laws.Strings
import Derived.Sort.Row
import Derived.Sort.Defs
import Derived.Deep.LoopGhost
import Derived.BigRegion
import Derived.Test.YthfildmldppihaaWWords
import Derived.Test.YthfildmldppihaaWLast
import Derived.Test.YthfildmldppihaaWMore
/- How long each symbol's code is; the comparison by it. -/
namespace Go.Proofs.Ythfildmldppihaa.Ga
open Go.RowKit Go.Proofs.YthfildmldppihaaW.PrintWords Go.Proofs.YthfildmldppihaaW.PrintLast Go.Proofs.YthfildmldppihaaW.PrintMore

/-- How many bits each symbol has. -/
def lens : List Nat := [13, 23, 28, 28, 28, 28, 28, 28, 28, 24, 30, 28, 28, 30, 28, 28, 28, 28, 28, 28, 28, 28, 30, 28, 28, 28, 28, 28, 28, 28, 28, 28, 6, 10, 10, 12, 13, 6, 8, 11, 10, 10, 8, 11, 8, 6, 6, 6, 5, 5, 5, 6, 6, 6, 6, 6, 6, 6, 7, 8, 15, 6, 12, 10, 13, 6, 7, 7, 7, 7, 7, 7, 7, 7, 7, 7, 7, 7, 7, 7, 7, 7, 7, 7, 7, 7, 7, 7, 8, 7, 8, 13, 19, 13, 14, 6, 15, 5, 6, 5, 6, 5, 6, 6, 6, 5, 7, 7, 6, 6, 6, 5, 6, 7, 6, 5, 5, 6, 7, 7, 7, 7, 7, 15, 11, 14, 13, 28, 20, 22, 20, 20, 22, 22, 22, 23, 22, 23, 23, 23, 23, 23, 24, 23, 24, 24, 22, 23, 24, 23, 23, 23, 23, 21, 22, 23, 22, 23, 23, 24, 22, 21, 20, 22, 22, 23, 23, 21, 23, 22, 22, 24, 21, 22, 23, 23, 21, 21, 22, 21, 23, 22, 23, 23, 20, 22, 22, 22, 23, 22, 22, 23, 26, 26, 20, 19, 22, 23, 22, 25, 26, 26, 26, 27, 27, 26, 24, 25, 19, 21, 26, 27, 27, 26, 27, 24, 21, 21, 26, 26, 28, 27, 27, 27, 20, 24, 20, 21, 22, 21, 21, 23, 22, 22, 25, 25, 24, 24, 26, 23, 26, 27, 26, 26, 27, 27, 27, 27, 27, 28, 27, 27, 27, 27, 27, 26, 30]
/-- A symbol's. -/
def L (i : Nat) : Nat := lens.getD i 0
theorem L_bd : ∀ i, i < 257 → 5 ≤ L i ∧ L i ≤ 30 := by decide +kernel
theorem lens_length : lens.length = 257 := by decide +kernel

set_option maxRecDepth 100000 in
set_option maxHeartbeats 4000000 in
theorem long_calls (x : Nat) (hx : x < 257) (w : World) : Calls Try.prog 43 #[.int .i64 x] w fun e w' => e = .returned (.int .i64 (L x)) ∧ w' = w := by
  go_enter Try.func43, Try.ntmps43
  generalize hS : ByteArray.mk _ = S
  have hz : S.size = 257 := by rw [← hS]; decide +kernel
  have hl : S.data.toList = lens.map (fun n => UInt8.ofNat (n + 48)) := by rw [← hS]; decide +kernel
  clear hS
  have hv : ∀ i, (h : i < S.size) → (S[i]'h).toNat = L i + 48 := fun i h => by
    have h' : i < S.data.toList.length := by simpa using h
    have e : S[i]'h = S.data.toList[i]'h' := rfl
    have hb := L_bd i (by omega)
    have hi : L i = lens[i]'(by rw [lens_length]; omega) := by unfold L; rw [List.getD_eq_getElem?_getD, List.getElem?_eq_getElem (by rw [lens_length]; omega)]; rfl
    rw [e]
    simp only [hl, List.getElem_map, UInt8.toNat_ofNat']
    rw [← hi]
    omega
  have hI : ∀ W, (Instr.index 9 (.string S) (.int .i64 (x : Int))).run Try.prog W = .ok (.int .u8 ((L x : Nat) + 48 : Int)) W := fun W => by
    have hi : 0 ≤ (x : Int) ∧ (x : Int) < (S.size : Int) := by rw [hz]; omega
    rw [run_index_string W 9 S .i64 x (by kernel_rfl), dif_pos hi]
    have := hv x (by omega)
    simp only [Int.toNat_natCast]
    rw [show ((S[x]'(by omega)).toNat : Int) = (L x : Nat) + 48 by rw [this]; rfl]
  have hb := L_bd x hx
  generalize L x = l at hI hb ⊢
  clear hv
  obtain ⟨b0, b1⟩ := hb
  go_wp2
  go_ret
  exact ⟨rfl, rfl⟩

set_option maxHeartbeats 1000000 in
theorem isNaN_calls (x : Int) (w : World) : Calls Try.prog 61 #[.int .i64 x] w fun e w' => e = .returned (.bool false) ∧ w' = w := by
  go_enter Try.func61, Try.ntmps61
  go_wp2
  go_ret
  exact ⟨by simp, rfl⟩

/-- The order of two symbols, as a number. -/
def cf (x y : Nat) : Int := if L x < L y then -1 else if L y < L x then 1 else 0
set_option maxHeartbeats 1000000 in
theorem compare_calls (x y : Nat) (w : World) : Calls Try.prog 56 #[.int .i64 x, .int .i64 y] w fun e w' => e = .returned (.int .i64 (if x < y then -1 else if y < x then 1 else 0)) ∧ w' = w := by
  by_cases h : x < y
  · have h1 : decide ((x : Int) < (y : Int)) = true := decide_eq_true (by omega)
    rw [if_pos h]
    go_enter Try.func56, Try.ntmps56
    go_wp2_with (go_at_call 61; refine (isNaN_calls _ _).mono ?_; rintro e w' ⟨rfl, rfl⟩)
    go_ret
    exact ⟨rfl, rfl⟩
  · have h1 : decide ((x : Int) < (y : Int)) = false := decide_eq_false (by omega)
    rw [if_neg h]
    by_cases h2 : y < x
    · have h3 : decide ((x : Int) > (y : Int)) = true := decide_eq_true (by omega)
      have h4 : decide ((y : Int) < (x : Int)) = true := decide_eq_true (by omega)
      rw [if_pos h2]
      go_enter Try.func56, Try.ntmps56
      go_wp2_with (go_at_call 61; refine (isNaN_calls _ _).mono ?_; rintro e w' ⟨rfl, rfl⟩)
      go_ret
      exact ⟨rfl, rfl⟩
    · have h3 : decide ((x : Int) > (y : Int)) = false := decide_eq_false (by omega)
      have h4 : decide ((y : Int) < (x : Int)) = false := decide_eq_false (by omega)
      rw [if_neg h2]
      go_enter Try.func56, Try.ntmps56
      go_wp2_with (go_at_call 61; refine (isNaN_calls _ _).mono ?_; rintro e w' ⟨rfl, rfl⟩)
      go_ret
      exact ⟨rfl, rfl⟩
set_option maxHeartbeats 1000000 in
theorem cmp_calls (x y : Nat) (hx : x < 257) (hy : y < 257) (w : World) : Calls Try.prog 55 #[.int .i64 x, .int .i64 y] w fun e w' => e = .returned (.int .i64 (cf x y)) ∧ w' = w := by
  have h0 : cf x y = (if L x < L y then -1 else if L y < L x then 1 else 0) := rfl
  rw [h0]
  clear h0
  have HX := Aside.out (p := x < 257) hx
  have lx : ∀ w, Calls Try.prog 43 #[.int .i64 x] w fun e w' => e = .returned (.int .i64 (L x)) ∧ w' = w := fun w => long_calls x hx w
  have ly : ∀ w, Calls Try.prog 43 #[.int .i64 y] w fun e w' => e = .returned (.int .i64 (L y)) ∧ w' = w := fun w => long_calls y hy w
  generalize L x = a at lx ⊢
  generalize L y = b at ly ⊢
  have lc : ∀ w, Calls Try.prog 56 #[.int .i64 a, .int .i64 b] w fun e w' => e = .returned (.int .i64 (if a < b then -1 else if b < a then 1 else 0)) ∧ w' = w := fun w => compare_calls a b w
  generalize (if a < b then (-1 : Int) else if b < a then 1 else 0) = r at lc ⊢
  go_enter Try.func55, Try.ntmps55
  go_wp2_with (first | (go_at_call 43; refine (lx _).mono ?_; clear lx; rintro e w' ⟨rfl, rfl⟩) | (go_at_call 43; refine (ly _).mono ?_; clear ly; rintro e w' ⟨rfl, rfl⟩) | (go_at_call 56; refine (lc _).mono ?_; rintro e w' ⟨rfl, rfl⟩))
  go_ret
  exact ⟨rfl, rfl⟩
end Go.Proofs.Ythfildmldppihaa.Ga

/- A row of 257 small numbers in one number; a world in which nothing but such a row has turned. -/
namespace Go.Proofs.Ythfildmldppihaa.Gb
open Go.RowKit Go.Proofs.Ythfildmldppihaa.Ga Go.Proofs.YthfildmldppihaaW.PrintWords Go.Proofs.YthfildmldppihaaW.PrintLast Go.Proofs.YthfildmldppihaaW.PrintMore

def gt (N i : Nat) : Nat := (N >>> (9 * i)) % 512
def put (N i v : Nat) : Nat := N ^^^ ((gt N i ^^^ v) <<< (9 * i))
def swp (N i j : Nat) : Nat := put (put N i (gt N j)) j (gt N i)

theorem gt_bit (N i b : Nat) : (gt N i).testBit b = (decide (b < 9) && N.testBit (9 * i + b)) := by
  unfold gt
  rw [show (512 : Nat) = 2 ^ 9 from rfl, Nat.testBit_mod_two_pow, Nat.testBit_shiftRight]
theorem gt_lt (N i : Nat) : gt N i < 512 := Nat.mod_lt _ (by decide)
theorem gt_put_same (N i v : Nat) (hv : v < 512) : gt (put N i v) i = v := by
  apply Nat.eq_of_testBit_eq
  intro b
  rw [gt_bit]
  unfold put
  rw [Nat.testBit_xor, Nat.testBit_shiftLeft, Nat.testBit_xor, gt_bit]
  by_cases hb : b < 9
  · simp only [hb, decide_true, Bool.true_and, show 9 * i + b ≥ 9 * i by omega, show 9 * i + b - 9 * i = b by omega]
    cases N.testBit (9 * i + b) <;> cases v.testBit b <;> rfl
  · have : v.testBit b = false := Nat.testBit_lt_two_pow (Nat.lt_of_lt_of_le hv (show 2 ^ 9 ≤ 2 ^ b from Nat.pow_le_pow_right (by decide) (by omega)))
    simp [hb, this]
theorem gt_put_other (N i v k : Nat) (hv : v < 512) (hk : k ≠ i) : gt (put N i v) k = gt N k := by
  apply Nat.eq_of_testBit_eq
  intro b
  rw [gt_bit, gt_bit]
  unfold put
  rw [Nat.testBit_xor, Nat.testBit_shiftLeft]
  by_cases hb : b < 9
  · by_cases hki : 9 * k + b ≥ 9 * i
    · have hz : (gt N i ^^^ v).testBit (9 * k + b - 9 * i) = false :=
        Nat.testBit_lt_two_pow (Nat.lt_of_lt_of_le (Nat.xor_lt_two_pow (n := 9) (gt_lt N i) hv) (show 2 ^ 9 ≤ 2 ^ (9 * k + b - 9 * i) from Nat.pow_le_pow_right (by decide) (by omega)))
      simp [hb, hz]
    · simp [hb, hki]
  · simp [hb]
theorem gt_swp (N i j k : Nat) : gt (swp N i j) k = if k = j then gt N i else if k = i then gt N j else gt N k := by
  unfold swp
  by_cases h : k = j
  · subst h; rw [if_pos rfl, gt_put_same _ _ _ (gt_lt _ _)]
  · rw [if_neg h, gt_put_other _ _ _ _ (gt_lt _ _) h]
    by_cases h' : k = i
    · subst h'; rw [if_pos rfl, gt_put_same _ _ _ (gt_lt _ _)]
    · rw [if_neg h', gt_put_other _ _ _ _ (gt_lt _ _) h']

/-- Each is a symbol. -/
def V (N : Nat) : Prop := ∀ i, i < 257 → gt N i < 257
theorem V.swp {N : Nat} (h : V N) (i j : Nat) (hi : i < 257) (hj : j < 257) : V (swp N i j) := fun k hk => by
  rw [gt_swp]; split
  · exact h i hi
  · split
    · exact h j hj
    · exact h k hk

/-- Nothing has turned but cells lo .. hi of block blk. -/
structure Ch (blk lo hi : Nat) (w W : World) : Prop where
  os : W.os = w.os
  tape : W.tape = w.tape
  output : W.output = w.output
  size : W.heap.size = w.heap.size
  other : ∀ b, b ≠ blk → W.heap[b]? = w.heap[b]?
  cell : ∀ o, ¬ (lo ≤ o ∧ o < hi) → W.cell? ⟨blk, o, none⟩ = w.cell? ⟨blk, o, none⟩
  frozen : ∀ o, W.frozen? ⟨blk, o, none⟩ = w.frozen? ⟨blk, o, none⟩
section
variable {blk lo hi : Nat} {w W W' : World}
theorem Ch.refl (blk lo hi : Nat) (w : World) : Ch blk lo hi w w := ⟨rfl, rfl, rfl, rfl, fun _ _ => rfl, fun _ _ => rfl, fun _ => rfl⟩
theorem Ch.trans (h : Ch blk lo hi w W) (k : Ch blk lo hi W W') : Ch blk lo hi w W' :=
  ⟨k.os.trans h.os, k.tape.trans h.tape, k.output.trans h.output, k.size.trans h.size, fun b hb => (k.other b hb).trans (h.other b hb), fun o ho => (k.cell o ho).trans (h.cell o ho), fun o => (k.frozen o).trans (h.frozen o)⟩
theorem Ch.drewN (h : Ch blk lo hi w W) (n : Nat) : Ch blk lo hi w (W.drewN n) := ⟨h.os, h.tape, h.output, h.size, h.other, h.cell, h.frozen⟩
theorem Ch.drew (h : Ch blk lo hi w W) : Ch blk lo hi w W.drew := ⟨h.os, h.tape, h.output, h.size, h.other, h.cell, h.frozen⟩
theorem Ch.set (h : Ch blk lo hi w W) (o : Nat) (ho : lo ≤ o ∧ o < hi) (v : Value) : Ch blk lo hi w (W.setCell ⟨blk, o, none⟩ v) :=
  ⟨h.os, h.tape, h.output, by rw [← h.size]; simp, fun b hb => (Below.heap_setCell W ⟨blk, o, none⟩ v b hb).trans (h.other b hb),
   fun o' ho' => (World.cell?_setCell_other _ _ _ _ (by intro e; simp only [Addr.mk.injEq] at e; omega)).trans (h.cell o' ho'), fun o' => by rw [World.frozen?_setCell]; exact h.frozen o'⟩
theorem Ch.mono (h : Ch blk lo hi w W) {lo' hi' : Nat} (hl : lo' ≤ lo) (hh : hi ≤ hi') : Ch blk lo' hi' w W :=
  ⟨h.os, h.tape, h.output, h.size, h.other, fun o ho => h.cell o (fun q => ho ⟨by omega, by omega⟩), h.frozen⟩
end

/-- The row at off holds N; nothing else has turned since w0. -/
structure RW (w0 : World) (blk off N : Nat) (W : World) : Prop where
  v : V N
  c : ∀ i, i < 257 → W.cell? ⟨blk, off + i, none⟩ = some (.int .i64 (gt N i : Nat))
  f : ∀ i, i < 257 → W.frozen? ⟨blk, off + i, none⟩ = false
  ch : Ch blk off (off + 257) w0 W
section
variable {w0 W : World} {blk off N : Nat}
theorem RW.drewN (h : RW w0 blk off N W) (n : Nat) : RW w0 blk off N (W.drewN n) := ⟨h.v, h.c, h.f, h.ch.drewN n⟩
theorem RW.drew (h : RW w0 blk off N W) : RW w0 blk off N W.drew := ⟨h.v, h.c, h.f, h.ch.drew⟩
theorem RW.swp (h : RW w0 blk off N W) (i j : Nat) (hi : i < 257) (hj : j < 257) :
    RW w0 blk off (swp N i j) (((W.setCell ⟨blk, off + i, none⟩ (.int .i64 (gt N j : Nat))).setCell ⟨blk, off + j, none⟩ (.int .i64 (gt N i : Nat)))).drew := by
  refine ⟨h.v.swp i j hi hj, fun k hk => ?_, fun k hk => ?_, ((h.ch.set (off + i) (by omega) _).set (off + j) (by omega) _).drew⟩
  · show ((W.setCell _ _).setCell _ _).cell? _ = _
    rw [gt_swp]
    by_cases hkj : k = j
    · subst hkj
      rw [if_pos rfl]
      by_cases hki : k = i
      · subst hki
        exact World.cell?_setCell_same _ _ _ (World.cell?_setCell_same _ _ _ (h.c k hk))
      · exact World.cell?_setCell_same _ _ _ ((World.cell?_setCell_other _ _ _ _ (by intro e; simp only [Addr.mk.injEq] at e; omega)).trans (h.c k hk))
    · rw [if_neg hkj, World.cell?_setCell_other _ _ _ _ (by intro e; simp only [Addr.mk.injEq] at e; omega)]
      by_cases hki : k = i
      · subst hki
        rw [if_pos rfl]
        exact World.cell?_setCell_same _ _ _ (h.c k hk)
      · rw [if_neg hki, World.cell?_setCell_other _ _ _ _ (by intro e; simp only [Addr.mk.injEq] at e; omega)]
        exact h.c k hk
  · show ((W.setCell _ _).setCell _ _).frozen? _ = _
    rw [World.frozen?_setCell, World.frozen?_setCell]
    exact h.f k hk
/-- Behind the exchange's first store the second place still holds something. -/
theorem RW.c2 (h : RW w0 blk off N W) (i j : Nat) (hi : i < 257) (hj : j < 257) (v : Value) : ∃ u, (W.setCell ⟨blk, off + i, none⟩ v).cell? ⟨blk, off + j, none⟩ = some u := by
  by_cases e : i = j
  · subst e; exact ⟨v, World.cell?_setCell_same _ _ _ (h.c i hi)⟩
  · exact ⟨_, (World.cell?_setCell_other _ _ _ _ (by intro e'; simp only [Addr.mk.injEq] at e'; omega)).trans (h.c j hj)⟩
end

/-! ### the sort in plain numbers -/
def lt (x y : Nat) : Bool := decide (cf x y < 0)
def insI (a : Nat) : Nat → Nat → Nat
  | 0, d => d
  | j + 1, d => if j + 1 > a && lt (gt d (j + 1)) (gt d j) then insI a j (swp d (j + 1) j) else d
def insO (a : Nat) : Nat → Nat → Nat → Nat
  | 0, _, d => d
  | r + 1, i, d => insO a r (i + 1) (insI a i d)
def ins (d : Nat) (a b : Nat) : Nat := insO a (b - (a + 1)) (a + 1) d
def swr (a b : Nat) : Nat → Nat → Nat → Nat
  | 0, _, d => d
  | k + 1, i, d => swr a b k (i + 1) (swp d (a + i) (b + i))

set_option maxHeartbeats 4000000 in
set_option maxRecDepth 100000 in
theorem swapRange_calls (w0 : World) (blk off a b n N : Nat) (w : World) (H : RW w0 blk off N w) (ha : a + n ≤ 257) (hb : b + n ≤ 257) :
    Calls Try.prog 82 #[.slice (some ⟨blk, off, none⟩) 257 257, .int .i64 a, .int .i64 b, .int .i64 n, .func (.func 55) #[] #[]] w fun e w' => e = .returned (.tuple #[]) ∧ RW w0 blk off (swr a b n 0 N) w' := by
  have S0 : Aside (RW w0 blk off N w) := H
  clear H
  go_enter Try.func82, Try.ntmps82
  go_wp2
  go_loopg [10] n (fun g1 vi wr => ∃ (i d : Nat), vi = .int .i64 i ∧ i ≤ n ∧ n - i ≤ g1 ∧ Aside (RW w0 blk off d wr) ∧ Hid (swr a b (n - i) i d = swr a b n 0 N))
  case atStart => exact ⟨0, N, rfl, by omega, by omega, S0, rfl⟩
  case round =>
    clear S0
    obtain ⟨i, d, rfl, hi, hg, S, HI⟩ := hrel
    by_cases hlt : i < n
    · have hlz : (i : Int) < (n : Int) := by omega
      obtain ⟨iN, hiN⟩ : ∃ q, q = a + i := ⟨_, rfl⟩
      obtain ⟨jN, hjN⟩ : ∃ q, q = b + i := ⟨_, rfl⟩
      have ea : ((a : Int) + (i : Int)).toNat = iN := by omega
      have pa : (0 : Int) ≤ (a : Int) + (i : Int) := by omega
      have ba : (a : Int) + (i : Int) < 257 := by omega
      have ra : IntKind.i64.wrap ((a : Int) + (i : Int)) = (a : Int) + (i : Int) := by rw [IntKind.wrap_i64]; omega
      have ec : ((b : Int) + (i : Int)).toNat = jN := by omega
      have pc : (0 : Int) ≤ (b : Int) + (i : Int) := by omega
      have bc : (b : Int) + (i : Int) < 257 := by omega
      have rc : IntKind.i64.wrap ((b : Int) + (i : Int)) = (b : Int) + (i : Int) := by rw [IntKind.wrap_i64]; omega
      have S3 : Aside (RW w0 blk off (swp d (a + i) (b + i)) (((wr.setCell ⟨blk, off + iN, none⟩ (.int .i64 (gt d jN : Nat))).setCell ⟨blk, off + jN, none⟩ (.int .i64 (gt d iN : Nat)))).drew) := by
        rw [hiN, hjN]; exact S.out.swp (a + i) (b + i) (by omega) (by omega)
      have ca := S.out.c iN (by omega)
      have cb := S.out.c jN (by omega)
      have fa := S.out.f iN (by omega)
      have fb := S.out.f jN (by omega)
      obtain ⟨u, cc⟩ := S.out.c2 iN jN (by omega) (by omega) (.int .i64 (gt d jN : Nat))
      generalize gt d iN = x at S3 ca cb cc ⊢
      generalize gt d jN = y at S3 ca cb cc ⊢
      clear S hiN hjN
      go_wp2_with fail
      go_big_region
      generalize ((wr.setCell ⟨blk, off + iN, none⟩ (.int .i64 (y : Nat))).setCell ⟨blk, off + jN, none⟩ (.int .i64 (x : Nat))).drew = w3 at S3 ⊢
      clear ea ec ca cb fa fb cc
      go_wp2
      go_roundg (n - (i + 1))
      case measure => omega
      case rel => exact ⟨i + 1, swp d (a + i) (b + i), by go_num, by omega, by omega, S3, (show _ = _ from by rw [← HI.out, show n - i = (n - (i + 1)) + 1 by omega]; rfl)⟩
    · have hlz : ¬ (i : Int) < (n : Int) := by omega
      go_wp2
      go_end0
      exact ⟨rfl, by rw [← HI.out, show n - i = 0 by omega]; exact S.out⟩
end Go.Proofs.Ythfildmldppihaa.Gb

/- The stable sort's walks: rotate, insertion. -/
namespace Go.Proofs.Ythfildmldppihaa.Gc
open Go.RowKit Go.Proofs.Ythfildmldppihaa.Ga Go.Proofs.Ythfildmldppihaa.Gb Go.Proofs.YthfildmldppihaaW.PrintWords Go.Proofs.YthfildmldppihaaW.PrintLast Go.Proofs.YthfildmldppihaaW.PrintMore

def rot (m : Nat) : Nat → Nat → Nat → Nat → Nat
  | 0, _, _, d => d
  | k + 1, i, j, d => if i = j then swr (m - i) m i 0 d else if j < i then rot m k (i - j) j (swr (m - i) m j 0 d) else rot m k i (j - i) (swr (m - i) (m + j - i) i 0 d)

set_option maxHeartbeats 4000000 in
set_option maxRecDepth 100000 in
theorem rotate_calls (w0 : World) (blk off a m b K N : Nat) (w : World) (H : RW w0 blk off N w) (ha : a < m) (hb : m < b) (hz : b ≤ 257) (hK : (m - a) + (b - m) ≤ K) :
    Calls Try.prog 73 #[.slice (some ⟨blk, off, none⟩) 257 257, .int .i64 a, .int .i64 m, .int .i64 b, .func (.func 55) #[] #[]] w fun e w' => e = .returned (.tuple #[]) ∧ RW w0 blk off (rot m K (m - a) (b - m) N) w' := by
  have S0 : Aside (RW w0 blk off N w) := H
  clear H
  go_enter Try.func73, Try.ntmps73
  go_wp2
  go_loopg [10, 11] K (fun g1 vi vj wr => ∃ (i j d : Nat), vi = .int .i64 i ∧ vj = .int .i64 j ∧ 0 < i ∧ 0 < j ∧ i ≤ m ∧ m + j ≤ 257 ∧ i + j ≤ g1 ∧ Aside (RW w0 blk off d wr) ∧ Hid (rot m g1 i j d = rot m K (m - a) (b - m) N))
  case atStart => exact ⟨m - a, b - m, N, by congr 1; omega, by congr 1; omega, by omega, by omega, by omega, by omega, hK, S0, rfl⟩
  case round =>
    clear S0
    obtain ⟨i, j, d, rfl, rfl, hi, hj, him, hmj, hg, S, HI⟩ := hrel
    obtain ⟨k, rfl⟩ : ∃ k, gk = k + 1 := ⟨gk - 1, by omega⟩
    by_cases hij : i = j
    · have e1 : ((i : Int) != (j : Int)) = false := bne_eq_false_iff_eq.mpr (by omega)
      have e2 : ((i : Int) == (j : Int)) = true := beq_iff_eq.mpr (by omega)
      have HIJ := Aside0.mk hij
      have HR : Aside0 (rot m (k + 1) i j d = swr (m - i) m i 0 d) := ⟨by rw [rot, if_pos hij]⟩
      have ez : (m : Int) - (i : Int) = ((m - i : Nat) : Int) := by omega
      have hC := swapRange_calls w0 blk off (m - i) m i d wr S.out (by omega) (by omega)
      clear hij
      generalize m - i = mi at hC HR ez
      go_wp2_with (go_at_call 82; refine hC.mono ?_; clear hC; rintro e w' ⟨rfl, hw⟩; have S2 : Aside _ := hw; clear hw)
      go_end0
      exact ⟨rfl, by rw [← HI.out, HR.out]; exact S2⟩
    · have e1 : ((i : Int) != (j : Int)) = true := bne_iff_ne.mpr (by omega)
      have e2 : ((i : Int) == (j : Int)) = false := beq_eq_false_iff_ne.mpr (by omega)
      by_cases hji : j < i
      · have e3 : decide ((i : Int) > (j : Int)) = true := decide_eq_true (by omega)
        have e4 : (j : Int) < (i : Int) := by omega
        have HR : Aside0 (rot m (k + 1) i j d = rot m k (i - j) j (swr (m - i) m j 0 d)) := ⟨by rw [rot, if_neg hij, if_pos hji]⟩
        have ez : (m : Int) - (i : Int) = ((m - i : Nat) : Int) := by omega
        have hC := swapRange_calls w0 blk off (m - i) m j d wr S.out (by omega) (by omega)
        have HIJ := Aside0.mk hij
        clear hij S
        generalize m - i = mi at hC HR ez
        go_wp2_with (go_at_call 82; refine hC.mono ?_; clear hC; rintro e w' ⟨rfl, hw⟩; have S2 : Aside (RW w0 blk off (swr mi m j 0 d) w') := hw; clear hw)
        go_roundg k
        case measure => omega
        case rel => exact ⟨i - j, j, _, by congr 1; omega, rfl, by omega, by omega, by omega, by omega, by omega, S2, (show _ = _ from by rw [← HI.out, HR.out])⟩
      · have e3 : decide ((i : Int) > (j : Int)) = false := decide_eq_false (by omega)
        have e4 : ¬ (j : Int) < (i : Int) := by omega
        have HR : Aside0 (rot m (k + 1) i j d = rot m k i (j - i) (swr (m - i) (m + j - i) i 0 d)) := ⟨by rw [rot, if_neg hij, if_neg hji]⟩
        have ez : (m : Int) - (i : Int) = ((m - i : Nat) : Int) := by omega
        have ey : (m : Int) + (j : Int) - (i : Int) = ((m + j - i : Nat) : Int) := by omega
        have hlt : i < j := by omega
        have hC := swapRange_calls w0 blk off (m - i) (m + j - i) i d wr S.out (by omega) (by omega)
        have HIJ := Aside0.mk hij
        clear hij S
        generalize m - i = mi at hC HR ez
        generalize m + j - i = mj at hC HR ey
        go_wp2_with (go_at_call 82; refine hC.mono ?_; clear hC; rintro e w' ⟨rfl, hw⟩; have S2 : Aside (RW w0 blk off (swr mi mj i 0 d) w') := hw; clear hw)
        go_roundg k
        case measure => omega
        case rel => exact ⟨i, j - i, _, rfl, by congr 1; omega, by omega, by omega, by omega, by omega, by omega, S2, (show _ = _ from by rw [← HI.out, HR.out])⟩

theorem insI_go (a j d : Nat) (h : a < j) (hl : lt (gt d j) (gt d (j - 1)) = true) : insI a j d = insI a (j - 1) (swp d j (j - 1)) := by
  obtain ⟨q, rfl⟩ : ∃ q, j = q + 1 := ⟨j - 1, by omega⟩
  rw [insI, if_pos (by simp only [Bool.and_eq_true, decide_eq_true_eq]; exact ⟨by omega, hl⟩)]; rfl
theorem insI_stop (a j d : Nat) (h : j ≤ a ∨ lt (gt d j) (gt d (j - 1)) = false) : insI a j d = d := by
  cases j with
  | zero => rfl
  | succ q =>
    rw [insI, if_neg]
    simp only [Bool.and_eq_true, decide_eq_true_eq, not_and, Bool.not_eq_true]
    intro h1
    rcases h with h | h
    · omega
    · exact h

set_option maxHeartbeats 8000000 in
set_option maxRecDepth 100000 in
theorem insertion_calls (w0 : World) (blk off a b N : Nat) (w : World) (H : RW w0 blk off N w) (hab : a ≤ b) (hb : b ≤ 257) :
    Calls Try.prog 67 #[.slice (some ⟨blk, off, none⟩) 257 257, .int .i64 a, .int .i64 b, .func (.func 55) #[] #[]] w fun e w' => e = .returned (.tuple #[]) ∧ RW w0 blk off (ins N a b) w' := by
  have S0 : Aside (RW w0 blk off N w) := H
  clear H
  go_enter Try.func67, Try.ntmps67
  go_wp2
  go_loopg [8] (b - a) (fun g1 vi wr => ∃ (i dk : Nat), vi = .int .i64 i ∧ a < i ∧ i ≤ b + 1 ∧ b + 1 - i ≤ g1 + 1 ∧ Aside (RW w0 blk off dk wr) ∧ Hid (insO a (b - i) i dk = insO a (b - (a + 1)) (a + 1) N))
  case atStart => exact ⟨a + 1, N, by go_num, by omega, by omega, by omega, S0, rfl⟩
  case round =>
    clear S0
    obtain ⟨i, dk, rfl, hai, hib, hg1, S1, HO⟩ := hrel
    by_cases hlt : i < b
    · have hltz : (i : Int) < (b : Int) := by omega
      go_wp2
      go_loopg [9] i (fun g2 vj wr2 => ∃ (j dj : Nat), vj = .int .i64 j ∧ a ≤ j ∧ j ≤ i ∧ j ≤ g2 ∧ Aside (RW w0 blk off dj wr2) ∧ Hid (insI a j dj = insI a i dk))
      case atStart => exact ⟨i, dk, rfl, by omega, Nat.le_refl _, Nat.le_refl _, S1, rfl⟩
      case round =>
        clear S1
        obtain ⟨j, dj, rfl, haj, hji, hg2, SJ, HI⟩ := hrel
        have OUT : Aside ((j ≤ a ∨ lt (gt dj j) (gt dj (j - 1)) = false) → Hid (insO a (b - (i + 1)) (i + 1) dj = insO a (b - (a + 1)) (a + 1) N)) := fun hs => by
          show _ = _
          rw [← HO.out, show b - i = (b - (i + 1)) + 1 by omega, insO, ← HI.out, insI_stop a j dj hs]
        by_cases hja : a < j
        · have hjaz : (a : Int) < (j : Int) := by omega
          obtain ⟨jp, hjp⟩ : ∃ q, q + 1 = j := ⟨j - 1, by omega⟩
          have zjp : (j : Int) = (jp : Int) + 1 := by omega
          have hjad : decide ((jp : Int) + 1 > (a : Int)) = true := decide_eq_true (by omega)
          have hjaz' : (a : Int) < (jp : Int) + 1 := by omega
          obtain ⟨iN, hiN⟩ : ∃ q, q = j := ⟨_, rfl⟩
          obtain ⟨jN, hjN⟩ : ∃ q, q = j - 1 := ⟨_, rfl⟩
          have ea : ((jp : Int) + 1).toNat = iN := by omega
          have pa : (0 : Int) ≤ (jp : Int) + 1 := by omega
          have ba : (jp : Int) + 1 < 257 := by omega
          have ra : IntKind.i64.wrap ((jp : Int) + 1) = (jp : Int) + 1 := by rw [IntKind.wrap_i64]; omega
          have ec : ((jp : Int)).toNat = jN := by omega
          have pc : (0 : Int) ≤ (jp : Int) := by omega
          have bc : (jp : Int) < 257 := by omega
          have rc : IntKind.i64.wrap ((jp : Int)) = (jp : Int) := by rw [IntKind.wrap_i64]; omega
          have hC : ∀ w, Calls Try.prog 55 #[.int .i64 (gt dj j : Nat), .int .i64 (gt dj (j - 1) : Nat)] w fun e w' => e = .returned (.int .i64 (cf (gt dj j) (gt dj (j - 1)))) ∧ w' = w := fun w => cmp_calls _ _ (SJ.out.v j (by omega)) (SJ.out.v (j - 1) (by omega)) w
          have ca : wr.cell? ⟨blk, off + iN, none⟩ = some (.int .i64 (gt dj j : Nat)) := by rw [hiN]; exact SJ.out.c j (by omega)
          have cb : wr.cell? ⟨blk, off + jN, none⟩ = some (.int .i64 (gt dj (j - 1) : Nat)) := by rw [hjN]; exact SJ.out.c (j - 1) (by omega)
          have hlt' : lt (gt dj j) (gt dj (j - 1)) = decide (cf (gt dj j) (gt dj (j - 1)) < 0) := rfl
          have hl2 : lt (gt dj j) (gt dj (j - 1)) = decide (cf (gt dj j) (gt dj (j - 1)) < 0) := rfl
          clear hlt'
          obtain ⟨lv, hlv⟩ : ∃ lv, lv = lt (gt dj j) (gt dj (j - 1)) := ⟨_, rfl⟩
          rw [← hlv] at hl2
          have HLV := Aside0.mk hlv
          clear hlv
          have HIN := Aside0.mk hiN
          have HJN := Aside0.mk hjN
          clear hiN hjN
          generalize cf (gt dj j) (gt dj (j - 1)) = cv at hC hl2
          obtain ⟨x, hx⟩ : ∃ x, x = gt dj j := ⟨_, rfl⟩
          obtain ⟨y, hy⟩ : ∃ y, y = gt dj (j - 1) := ⟨_, rfl⟩
          rw [← hx] at hC ca
          rw [← hy] at hC cb
          clear hx hy
          cases lv with
          | true =>
            have hlt2 : decide (cv < 0) = true := hl2.symm
            have hlt3 : cv < 0 := of_decide_eq_true hlt2
            clear hl2
            go_wp2_with fail
            go_quiet (first | (go_at_call 55; exact (hC _).mono (by rintro e w' ⟨rfl, rfl⟩; exact ⟨rfl, _, rfl⟩)))
            have S2 : Aside (RW w0 blk off dj (wr.drewN nq)) := SJ.out.drewN nq
            clear SJ ca cb hC
            generalize wr.drewN nq = w2 at S2 ⊢
            go_wp2_with fail
            have S3 : Aside (RW w0 blk off (swp dj j (j - 1)) ((((w2).setCell ⟨blk, off + iN, none⟩ (.int .i64 (gt dj (j - 1) : Nat))).setCell ⟨blk, off + jN, none⟩ (.int .i64 (gt dj j : Nat)))).drew) := by
              rw [HIN.out, HJN.out]; exact S2.out.swp j (j - 1) (by omega) (by omega)
            have ca : w2.cell? ⟨blk, off + iN, none⟩ = some (.int .i64 (gt dj j : Nat)) := by rw [HIN.out]; exact S2.out.c j (by omega)
            have cb : w2.cell? ⟨blk, off + jN, none⟩ = some (.int .i64 (gt dj (j - 1) : Nat)) := by rw [HJN.out]; exact S2.out.c (j - 1) (by omega)
            have fa : w2.frozen? ⟨blk, off + iN, none⟩ = false := by rw [HIN.out]; exact S2.out.f j (by omega)
            have fb : w2.frozen? ⟨blk, off + jN, none⟩ = false := by rw [HJN.out]; exact S2.out.f (j - 1) (by omega)
            obtain ⟨u, cc⟩ : ∃ u, (w2.setCell ⟨blk, off + iN, none⟩ (.int .i64 (gt dj (j - 1) : Nat))).cell? ⟨blk, off + jN, none⟩ = some u := by
              rw [HIN.out, HJN.out]; exact S2.out.c2 j (j - 1) (by omega) (by omega) _
            clear S2
            obtain ⟨x, hx⟩ : ∃ x, x = gt dj j := ⟨_, rfl⟩
            obtain ⟨y, hy⟩ : ∃ y, y = gt dj (j - 1) := ⟨_, rfl⟩
            rw [← hx] at S3 ca
            rw [← hy] at S3 cb cc
            clear hx hy
            go_big_region
            generalize ((w2.setCell ⟨blk, off + iN, none⟩ (.int .i64 (y : Nat))).setCell ⟨blk, off + jN, none⟩ (.int .i64 (x : Nat))).drew = w3 at S3 ⊢
            clear ea ec ca cb fa fb cc
            go_wp2
            go_roundg (j - 1)
            case measure => omega
            case rel => exact ⟨j - 1, swp dj j (j - 1), by first | rfl | go_num | (congr 1; omega), by omega, by omega, Nat.le_refl _, S3, (show Hid _ from by rw [← HI.out, insI_go a j dj hja HLV.out.symm]; exact rfl)⟩
          | false =>
            have hlt2 : decide (cv < 0) = false := hl2.symm
            have hlt3 : ¬ cv < 0 := of_decide_eq_false hlt2
            clear hl2
            go_wp2_with fail
            go_quiet (first | (go_at_call 55; exact (hC _).mono (by rintro e w' ⟨rfl, rfl⟩; exact ⟨rfl, _, rfl⟩)))
            have S2 : Aside (RW w0 blk off dj (wr.drewN nq)) := SJ.out.drewN nq
            clear SJ ca cb hC
            generalize wr.drewN nq = w2 at S2 ⊢
            go_wp2
            go_roundg (b - (i + 1))
            case measure => omega
            case rel => exact ⟨i + 1, dj, by go_num, by omega, by omega, by omega, S2, OUT.out (Or.inr HLV.out.symm)⟩
        · have hjaz : decide ((j : Int) > (a : Int)) = false := decide_eq_false (by omega)
          have hjaz' : ¬ (a : Int) < (j : Int) := by omega
          go_wp2_with fail
          go_quiet (fail)
          have S2 : Aside (RW w0 blk off dj (wr.drewN nq)) := SJ.out.drewN nq
          clear SJ
          generalize wr.drewN nq = w2 at S2 ⊢
          go_wp2
          go_roundg (b - (i + 1))
          case measure => omega
          case rel => exact ⟨i + 1, dj, by go_num, by omega, by omega, by omega, S2, OUT.out (Or.inl (by omega))⟩
    · have hltz : ¬ (i : Int) < (b : Int) := by omega
      go_wp2
      go_end0
      exact ⟨rfl, by unfold ins; rw [← HO.out, show b - i = 0 by omega]; exact S1.out⟩
end Go.Proofs.Ythfildmldppihaa.Gc
