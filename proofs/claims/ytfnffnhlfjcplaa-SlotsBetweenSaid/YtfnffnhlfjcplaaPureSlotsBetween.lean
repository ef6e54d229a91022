/- SlotsBetween answers true at any two ticks and every number of tenants; no condition. -/
import Derived.Test.YtfnffnhlfjcplaaSl
namespace Go.Proofs.Ytfnffnhlfjcplaa.Pure
open Go.RowKit Go.Proofs.Ytfnffnhlfjcplaa.Q Go.Proofs.Ytfnffnhlfjcplaa.Sl Go.Proofs.YtfnffnhlfjcplaaW.PrintWords Go.Proofs.YtfnffnhlfjcplaaW.PrintLast Go.Proofs.YtfnffnhlfjcplaaW.PrintMore

/-- All the slots of the tenants below m. -/
def psum (a b n : Int) : Nat → Int
  | 0 => 0
  | m + 1 => psum a b n m + (upto b m n - upto a m n)
theorem psum_self (a n : Int) : ∀ m, psum a a n m = 0
  | 0 => rfl
  | m + 1 => by rw [psum, psum_self a n m]; omega
theorem psum_succ {a b n : Int} (hb : 0 ≤ b) (m : Nat) (hm : (m : Int) ≤ n) : psum a (b + 1) n m = psum a b n m + if b % n < m then 1 else 0 := by
  induction m with
  | zero =>
    rw [psum, psum]
    by_cases h : n = 0
    · subst h; rw [Int.emod_zero, if_neg (by omega)]; rfl
    · rw [if_neg (by have := Int.emod_nonneg b h; omega)]; rfl
  | succ m ih =>
    have hu := upto_succ (t := b) (tenant := m) (n := n) hb (by omega) (by omega)
    rw [psum, psum, ih (by omega), hu]
    split <;> split <;> split <;> omega
theorem psum_all {a n : Int} (ha : 0 ≤ a) (hn : 0 < n) (j : Nat) : psum a (a + j) n n.toNat = j := by
  induction j with
  | zero => rw [show a + ((0 : Nat) : Int) = a by omega, psum_self]; rfl
  | succ j ih =>
    rw [show a + ((j + 1 : Nat) : Int) = a + j + 1 by omega, psum_succ (by omega) _ (by omega), ih, if_pos (by have := Int.emod_lt_of_pos (a + j) hn; omega)]; omega
theorem psum_bd {a b n : Int} (ha : 0 ≤ a) (hab : a ≤ b) (hb : b ≤ 1073741824) (hn : n ≤ 64) (m : Nat) (hm : (m : Int) ≤ n) : -(m * 2147483648) ≤ psum a b n m ∧ psum a b n m ≤ m * 2147483648 := by
  induction m with
  | zero => rw [psum]; omega
  | succ m ih =>
    have b1 := upto_bd (t := a) (tenant := m) (n := n) ha (by omega) (by omega)
    have b2 := upto_bd (t := b) (tenant := m) (n := n) (by omega) (by omega) (by omega)
    have := ih (by omega)
    rw [psum]; omega

theorem btw_loop {a b n : Int} (ha : Right a n) (hb : Right b n) (hd : b - a ≤ 500) (j : Nat) : ∀ (m : Nat) (k : Nat), (m : Int) + j = n → 600 + j < k →
    squintlaw19_SlotsBetween.l0 k a b n (if a ≤ b then psum a b n m else 0) n m = some true := by
  obtain ⟨r0, r1, r2, r3⟩ := id ha
  obtain ⟨s0, s1, _, _⟩ := id hb
  induction j with
  | zero =>
    intro m k hm hk
    obtain ⟨k, rfl⟩ : ∃ m, k = m + 1 := ⟨k - 1, by omega⟩
    obtain ⟨k, rfl⟩ : ∃ m, k = m + 1 := ⟨k - 1, by omega⟩
    rw [squintlaw19_SlotsBetween.l0, if_neg (by omega), w64 (x := b - a) (by omega) (by omega)]
    have e : (if a ≤ b then psum a b n m else 0) = mx (b - a) 0 := by
      unfold mx
      split
      · have := psum_all (a := a) (n := n) r0 (by omega) (b - a).toNat
        rw [show a + ((b - a).toNat : Int) = b by omega, show n.toNat = m by omega] at this
        split <;> omega
      · rw [if_pos (by omega)]
    rw [if_pos e, between_no (by omega)]; simp only [Option.bind_some, if_true]
    rw [awake _ (by omega)]; rfl
  | succ j ih =>
    intro m k hm hk
    obtain ⟨k, rfl⟩ : ∃ m, k = m + 1 := ⟨k - 1, by omega⟩
    obtain ⟨k, rfl⟩ : ∃ m, k = m + 1 := ⟨k - 1, by omega⟩
    have go := ih (m + 1) (k + 1) (by omega) (by omega)
    rw [show (((m + 1 : Nat)) : Int) = m + 1 by omega] at go
    rw [squintlaw19_SlotsBetween.l0, if_pos (by omega)]
    by_cases hab : a ≤ b
    · have b1 := upto_bd (t := a) (tenant := m) (n := n) r0 (by omega) (by omega)
      have b2 := upto_bd (t := b) (tenant := m) (n := n) s0 (by omega) (by omega)
      have pb := psum_bd (n := n) r0 hab (by omega) r3 m (by omega)
      rw [if_pos hab, psum] at go
      rw [between_yes ha hb (by omega) (by omega) hab, refBetween ha hb (by omega) (by omega) hab _ (by omega)]; simp only [Option.bind_some, if_true]
      rw [if_pos hab, if_pos hab, w64 (by omega) (by omega), w64 (by omega) (by omega)]
      exact go
    · rw [if_neg hab] at go
      rw [between_no (by omega)]; simp only [Option.bind_some, if_true]
      rw [if_neg hab, if_neg hab, w64 (by omega) (by omega), w64 (by omega) (by omega)]
      exact go

theorem SlotsBetween : squintlaw19_SlotsBetween.Pure := by
  intro a b n _ _ _
  refine ⟨700, ?_⟩
  have hw := awake 699 (by decide)
  have hbad : ∀ a b : Int, squintlaw19_SlotsBetween.j0 700 a b n true = some true := fun a b => by
    rw [squintlaw19_SlotsBetween.j0, if_pos rfl, between_no (by omega) 698]; simp only [Option.bind_some, if_true]
    rw [hw]; rfl
  unfold squintlaw19_SlotsBetween.f
  by_cases ha : Right a n
  · rw [right_yes ha]; simp only [Option.bind_some, if_true]
    by_cases hb : Right b n
    · rw [right_yes hb]; simp only [Option.bind_some, if_true]
      obtain ⟨r0, r1, r2, r3⟩ := id ha
      obtain ⟨s0, s1, _, _⟩ := id hb
      rw [w64 (by omega) (by omega)]
      by_cases hd : b - a > 500
      · rw [decide_eq_true hd]; exact hbad a b
      · rw [decide_eq_false hd, squintlaw19_SlotsBetween.j0, if_neg (by decide)]
        have := btw_loop ha hb (by omega) n.toNat 0 699 (by omega) (by omega)
        rw [psum, ite_self] at this
        exact this
    · rw [right_no hb]; exact hbad a b
  · rw [right_no ha]; exact hbad a b

end Go.Proofs.Ytfnffnhlfjcplaa.Pure
