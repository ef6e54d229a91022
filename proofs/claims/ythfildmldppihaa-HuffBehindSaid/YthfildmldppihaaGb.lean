/- A row of 257 small numbers in one number; a world in which nothing but such a row has turned. -/
import Derived.Test.YthfildmldppihaaGa
namespace Go.Proofs.Ythfildmldppihaa.Gb
open Go.RowKit Go.Proofs.Ythfildmldppihaa.Ga Go.Proofs.YthfildmldppihaaW.PrintWords Go.Proofs.YthfildmldppihaaW.PrintLast Go.Proofs.YthfildmldppihaaW.PrintMore

def gt (N i : Nat) : Nat := (N >>> (9 * i)) % 512
def put (N i v : Nat) : Nat := N ^^^ ((gt N i ^^^ v) <<< (9 * i))
def swp (N i j : Nat) : Nat := put (put N i (gt N j)) j (gt N i)

theorem gt_bit (N i b : Nat) : (gt N i).testBit b = (decide (b < 9) && N.testBit (9 * i + b)) := by
  unfold gt
  rw [show (512 : Nat) = 2 ^ 9 from rfl, Nat.testBit_mod_two_pow, Nat.testBit_shiftRight]
theorem gt_lt (N i : Nat) : gt N i < 512 := Nat.mod_lt _ (by decide)
theorem gt_put_same (N i v : Nat) (hv : v < 512) : gt (put N i v) i = v := by
  apply Nat.eq_of_testBit_eq
  intro b
  rw [gt_bit]
  unfold put
  rw [Nat.testBit_xor, Nat.testBit_shiftLeft, Nat.testBit_xor, gt_bit]
  by_cases hb : b < 9
  · simp only [hb, decide_true, Bool.true_and, show 9 * i + b ≥ 9 * i by omega, show 9 * i + b - 9 * i = b by omega]
    cases N.testBit (9 * i + b) <;> cases v.testBit b <;> rfl
  · have : v.testBit b = false := Nat.testBit_lt_two_pow (Nat.lt_of_lt_of_le hv (show 2 ^ 9 ≤ 2 ^ b from Nat.pow_le_pow_right (by decide) (by omega)))
    simp [hb, this]
theorem gt_put_other (N i v k : Nat) (hv : v < 512) (hk : k ≠ i) : gt (put N i v) k = gt N k := by
  apply Nat.eq_of_testBit_eq
  intro b
  rw [gt_bit, gt_bit]
  unfold put
  rw [Nat.testBit_xor, Nat.testBit_shiftLeft]
  by_cases hb : b < 9
  · by_cases hki : 9 * k + b ≥ 9 * i
    · have hz : (gt N i ^^^ v).testBit (9 * k + b - 9 * i) = false :=
        Nat.testBit_lt_two_pow (Nat.lt_of_lt_of_le (Nat.xor_lt_two_pow (n := 9) (gt_lt N i) hv) (show 2 ^ 9 ≤ 2 ^ (9 * k + b - 9 * i) from Nat.pow_le_pow_right (by decide) (by omega)))
      simp [hb, hz]
    · simp [hb, hki]
  · simp [hb]
theorem gt_swp (N i j k : Nat) : gt (swp N i j) k = if k = j then gt N i else if k = i then gt N j else gt N k := by
  unfold swp
  by_cases h : k = j
  · subst h; rw [if_pos rfl, gt_put_same _ _ _ (gt_lt _ _)]
  · rw [if_neg h, gt_put_other _ _ _ _ (gt_lt _ _) h]
    by_cases h' : k = i
    · subst h'; rw [if_pos rfl, gt_put_same _ _ _ (gt_lt _ _)]
    · rw [if_neg h', gt_put_other _ _ _ _ (gt_lt _ _) h']

/-- Each is a symbol. -/
def V (N : Nat) : Prop := ∀ i, i < 257 → gt N i < 257
theorem V.swp {N : Nat} (h : V N) (i j : Nat) (hi : i < 257) (hj : j < 257) : V (swp N i j) := fun k hk => by
  rw [gt_swp]; split
  · exact h i hi
  · split
    · exact h j hj
    · exact h k hk

/-- Nothing has turned but cells lo .. hi of block blk. -/
structure Ch (blk lo hi : Nat) (w W : World) : Prop where
  os : W.os = w.os
  tape : W.tape = w.tape
  output : W.output = w.output
  size : W.heap.size = w.heap.size
  other : ∀ b, b ≠ blk → W.heap[b]? = w.heap[b]?
  cell : ∀ o, ¬ (lo ≤ o ∧ o < hi) → W.cell? ⟨blk, o, none⟩ = w.cell? ⟨blk, o, none⟩
  frozen : ∀ o, W.frozen? ⟨blk, o, none⟩ = w.frozen? ⟨blk, o, none⟩
section
variable {blk lo hi : Nat} {w W W' : World}
theorem Ch.refl (blk lo hi : Nat) (w : World) : Ch blk lo hi w w := ⟨rfl, rfl, rfl, rfl, fun _ _ => rfl, fun _ _ => rfl, fun _ => rfl⟩
theorem Ch.trans (h : Ch blk lo hi w W) (k : Ch blk lo hi W W') : Ch blk lo hi w W' :=
  ⟨k.os.trans h.os, k.tape.trans h.tape, k.output.trans h.output, k.size.trans h.size, fun b hb => (k.other b hb).trans (h.other b hb), fun o ho => (k.cell o ho).trans (h.cell o ho), fun o => (k.frozen o).trans (h.frozen o)⟩
theorem Ch.drewN (h : Ch blk lo hi w W) (n : Nat) : Ch blk lo hi w (W.drewN n) := ⟨h.os, h.tape, h.output, h.size, h.other, h.cell, h.frozen⟩
theorem Ch.drew (h : Ch blk lo hi w W) : Ch blk lo hi w W.drew := ⟨h.os, h.tape, h.output, h.size, h.other, h.cell, h.frozen⟩
theorem Ch.set (h : Ch blk lo hi w W) (o : Nat) (ho : lo ≤ o ∧ o < hi) (v : Value) : Ch blk lo hi w (W.setCell ⟨blk, o, none⟩ v) :=
  ⟨h.os, h.tape, h.output, by rw [← h.size]; simp, fun b hb => (Below.heap_setCell W ⟨blk, o, none⟩ v b hb).trans (h.other b hb),
   fun o' ho' => (World.cell?_setCell_other _ _ _ _ (by intro e; simp only [Addr.mk.injEq] at e; omega)).trans (h.cell o' ho'), fun o' => by rw [World.frozen?_setCell]; exact h.frozen o'⟩
theorem Ch.mono (h : Ch blk lo hi w W) {lo' hi' : Nat} (hl : lo' ≤ lo) (hh : hi ≤ hi') : Ch blk lo' hi' w W :=
  ⟨h.os, h.tape, h.output, h.size, h.other, fun o ho => h.cell o (fun q => ho ⟨by omega, by omega⟩), h.frozen⟩
end

/-- The row at off holds N; nothing else has turned since w0. -/
structure RW (w0 : World) (blk off N : Nat) (W : World) : Prop where
  v : V N
  c : ∀ i, i < 257 → W.cell? ⟨blk, off + i, none⟩ = some (.int .i64 (gt N i : Nat))
  f : ∀ i, i < 257 → W.frozen? ⟨blk, off + i, none⟩ = false
  ch : Ch blk off (off + 257) w0 W
section
variable {w0 W : World} {blk off N : Nat}
theorem RW.drewN (h : RW w0 blk off N W) (n : Nat) : RW w0 blk off N (W.drewN n) := ⟨h.v, h.c, h.f, h.ch.drewN n⟩
theorem RW.drew (h : RW w0 blk off N W) : RW w0 blk off N W.drew := ⟨h.v, h.c, h.f, h.ch.drew⟩
theorem RW.swp (h : RW w0 blk off N W) (i j : Nat) (hi : i < 257) (hj : j < 257) :
    RW w0 blk off (swp N i j) (((W.setCell ⟨blk, off + i, none⟩ (.int .i64 (gt N j : Nat))).setCell ⟨blk, off + j, none⟩ (.int .i64 (gt N i : Nat)))).drew := by
  refine ⟨h.v.swp i j hi hj, fun k hk => ?_, fun k hk => ?_, ((h.ch.set (off + i) (by omega) _).set (off + j) (by omega) _).drew⟩
  · show ((W.setCell _ _).setCell _ _).cell? _ = _
    rw [gt_swp]
    by_cases hkj : k = j
    · subst hkj
      rw [if_pos rfl]
      by_cases hki : k = i
      · subst hki
        exact World.cell?_setCell_same _ _ _ (World.cell?_setCell_same _ _ _ (h.c k hk))
      · exact World.cell?_setCell_same _ _ _ ((World.cell?_setCell_other _ _ _ _ (by intro e; simp only [Addr.mk.injEq] at e; omega)).trans (h.c k hk))
    · rw [if_neg hkj, World.cell?_setCell_other _ _ _ _ (by intro e; simp only [Addr.mk.injEq] at e; omega)]
      by_cases hki : k = i
      · subst hki
        rw [if_pos rfl]
        exact World.cell?_setCell_same _ _ _ (h.c k hk)
      · rw [if_neg hki, World.cell?_setCell_other _ _ _ _ (by intro e; simp only [Addr.mk.injEq] at e; omega)]
        exact h.c k hk
  · show ((W.setCell _ _).setCell _ _).frozen? _ = _
    rw [World.frozen?_setCell, World.frozen?_setCell]
    exact h.f k hk
/-- Behind the exchange's first store the second place still holds something. -/
theorem RW.c2 (h : RW w0 blk off N W) (i j : Nat) (hi : i < 257) (hj : j < 257) (v : Value) : ∃ u, (W.setCell ⟨blk, off + i, none⟩ v).cell? ⟨blk, off + j, none⟩ = some u := by
  by_cases e : i = j
  · subst e; exact ⟨v, World.cell?_setCell_same _ _ _ (h.c i hi)⟩
  · exact ⟨_, (World.cell?_setCell_other _ _ _ _ (by intro e'; simp only [Addr.mk.injEq] at e'; omega)).trans (h.c j hj)⟩
end

/-! ### the sort in plain numbers -/
def lt (x y : Nat) : Bool := decide (cf x y < 0)
def insI (a : Nat) : Nat → Nat → Nat
  | 0, d => d
  | j + 1, d => if j + 1 > a && lt (gt d (j + 1)) (gt d j) then insI a j (swp d (j + 1) j) else d
def insO (a : Nat) : Nat → Nat → Nat → Nat
  | 0, _, d => d
  | r + 1, i, d => insO a r (i + 1) (insI a i d)
def ins (d : Nat) (a b : Nat) : Nat := insO a (b - (a + 1)) (a + 1) d
def swr (a b : Nat) : Nat → Nat → Nat → Nat
  | 0, _, d => d
  | k + 1, i, d => swr a b k (i + 1) (swp d (a + i) (b + i))

set_option maxHeartbeats 4000000 in
set_option maxRecDepth 100000 in
theorem swapRange_calls (w0 : World) (blk off a b n N : Nat) (w : World) (H : RW w0 blk off N w) (ha : a + n ≤ 257) (hb : b + n ≤ 257) :
    Calls Try.prog 82 #[.slice (some ⟨blk, off, none⟩) 257 257, .int .i64 a, .int .i64 b, .int .i64 n, .func (.func 55) #[] #[]] w fun e w' => e = .returned (.tuple #[]) ∧ RW w0 blk off (swr a b n 0 N) w' := by
  have S0 : Aside (RW w0 blk off N w) := H
  clear H
  go_enter Try.func82, Try.ntmps82
  go_wp2
  go_loopg [10] n (fun g1 vi wr => ∃ (i d : Nat), vi = .int .i64 i ∧ i ≤ n ∧ n - i ≤ g1 ∧ Aside (RW w0 blk off d wr) ∧ Hid (swr a b (n - i) i d = swr a b n 0 N))
  case atStart => exact ⟨0, N, rfl, by omega, by omega, S0, rfl⟩
  case round =>
    clear S0
    obtain ⟨i, d, rfl, hi, hg, S, HI⟩ := hrel
    by_cases hlt : i < n
    · have hlz : (i : Int) < (n : Int) := by omega
      obtain ⟨iN, hiN⟩ : ∃ q, q = a + i := ⟨_, rfl⟩
      obtain ⟨jN, hjN⟩ : ∃ q, q = b + i := ⟨_, rfl⟩
      have ea : ((a : Int) + (i : Int)).toNat = iN := by omega
      have pa : (0 : Int) ≤ (a : Int) + (i : Int) := by omega
      have ba : (a : Int) + (i : Int) < 257 := by omega
      have ra : IntKind.i64.wrap ((a : Int) + (i : Int)) = (a : Int) + (i : Int) := by rw [IntKind.wrap_i64]; omega
      have ec : ((b : Int) + (i : Int)).toNat = jN := by omega
      have pc : (0 : Int) ≤ (b : Int) + (i : Int) := by omega
      have bc : (b : Int) + (i : Int) < 257 := by omega
      have rc : IntKind.i64.wrap ((b : Int) + (i : Int)) = (b : Int) + (i : Int) := by rw [IntKind.wrap_i64]; omega
      have S3 : Aside (RW w0 blk off (swp d (a + i) (b + i)) (((wr.setCell ⟨blk, off + iN, none⟩ (.int .i64 (gt d jN : Nat))).setCell ⟨blk, off + jN, none⟩ (.int .i64 (gt d iN : Nat)))).drew) := by
        rw [hiN, hjN]; exact S.out.swp (a + i) (b + i) (by omega) (by omega)
      have ca := S.out.c iN (by omega)
      have cb := S.out.c jN (by omega)
      have fa := S.out.f iN (by omega)
      have fb := S.out.f jN (by omega)
      obtain ⟨u, cc⟩ := S.out.c2 iN jN (by omega) (by omega) (.int .i64 (gt d jN : Nat))
      generalize gt d iN = x at S3 ca cb cc ⊢
      generalize gt d jN = y at S3 ca cb cc ⊢
      clear S hiN hjN
      go_wp2_with fail
      go_big_region
      generalize ((wr.setCell ⟨blk, off + iN, none⟩ (.int .i64 (y : Nat))).setCell ⟨blk, off + jN, none⟩ (.int .i64 (x : Nat))).drew = w3 at S3 ⊢
      clear ea ec ca cb fa fb cc
      go_wp2
      go_roundg (n - (i + 1))
      case measure => omega
      case rel => exact ⟨i + 1, swp d (a + i) (b + i), by go_num, by omega, by omega, S3, (show _ = _ from by rw [← HI.out, show n - i = (n - (i + 1)) + 1 by omega]; rfl)⟩
    · have hlz : ¬ (i : Int) < (n : Int) := by omega
      go_wp2
      go_end0
      exact ⟨rfl, by rw [← HI.out, show n - i = 0 by omega]; exact S.out⟩
end Go.Proofs.Ythfildmldppihaa.Gb
