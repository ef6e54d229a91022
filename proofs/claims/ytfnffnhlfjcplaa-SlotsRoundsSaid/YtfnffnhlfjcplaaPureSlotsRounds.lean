/- SlotsRounds answers true at every round and every number of tenants; no condition. -/
import Derived.Test.YtfnffnhlfjcplaaSl
import Derived.Test.YtfnffnhlfjcplaaQ5
namespace Go.Proofs.Ytfnffnhlfjcplaa.Pure
open Go.RowKit Go.Proofs.Ytfnffnhlfjcplaa.Q Go.Proofs.Ytfnffnhlfjcplaa.Sl Go.Proofs.YtfnffnhlfjcplaaW.PrintWords Go.Proofs.YtfnffnhlfjcplaaW.PrintLast Go.Proofs.YtfnffnhlfjcplaaW.PrintMore

theorem rounds_loop {r n : Int} (r0 : 0 ≤ r) (r1 : r ≤ 1048576) (h2 : 1 ≤ n) (h3 : n ≤ 64) (j : Nat) : ∀ (t : Int) (k : Nat), 0 ≤ t → t + j = n → 20 + j < k → squintlaw19_SlotsRounds.l0 k r n n t = some true := by
  have hp := mul_bd (a := r) (b := n) (A := 1048576) (B := 64) r0 r1 (by omega) h3
  have hp1 : (r + 1) * n = r * n + n := by rw [Int.add_mul, Int.one_mul]
  induction j with
  | zero =>
    intro t k ht hj hk
    obtain ⟨k, rfl⟩ : ∃ m, k = m + 1 := ⟨k - 1, by omega⟩
    rw [squintlaw19_SlotsRounds.l0, if_neg (by omega), awake _ (by omega)]; rfl
  | succ j ih =>
    intro t k ht hj hk
    obtain ⟨k, rfl⟩ : ∃ m, k = m + 1 := ⟨k - 1, by omega⟩
    obtain ⟨k, rfl⟩ : ∃ m, k = m + 1 := ⟨k - 1, by omega⟩
    have m0 : r * n % n = 0 := Int.mul_emod_left r n
    have m1 : (r * n + t) % n = t := by rw [Int.add_comm, Int.add_mul_emod_self_right, Int.emod_eq_of_lt ht (by omega)]
    have m2 : (r * n + t) / n = r := by rw [Int.add_comm, Int.add_mul_ediv_right _ _ (by omega), Int.ediv_eq_zero_of_lt ht (by omega)]; omega
    have g : gap t (r * n) n = t := by rw [gap_eq (by omega) ht (by omega), m0, if_pos ht]; omega
    rw [squintlaw19_SlotsRounds.l0, if_pos (by omega), w64 (x := r * n) (by omega) (by omega), w64 (x := r * n + t) (by omega) (by omega), w64 (x := r + 1) (by omega) (by omega), w64 (x := (r + 1) * n) (by omega) (by omega)]
    rw [owner_yes ⟨by omega, by omega, h2, h3⟩]; simp only [Option.bind_some]
    rw [next_yes ⟨by omega, by omega, h2, h3⟩ ht (by omega) (by omega)]; simp only [Option.bind_some]
    rw [if_pos trivial, if_pos m1, if_pos trivial, g, if_pos rfl, round_yes ⟨by omega, by omega, h2, h3⟩]; simp only [Option.bind_some]
    rw [if_pos m2, between_yes ⟨by omega, by omega, h2, h3⟩ ⟨by omega, by omega, h2, h3⟩ ht (by omega) (by omega)]; simp only [Option.bind_some]
    have hu := upto_rounds (t := r * n) (tenant := t) (c := 1) (show 0 < n by omega)
    rw [Int.one_mul] at hu
    rw [hp1, hu, if_pos (by omega), w64 (by omega) (by omega)]
    exact ih (t + 1) (k + 1) (by omega) (by omega) (by omega)

theorem SlotsRounds : squintlaw19_SlotsRounds.Pure := by
  intro r n _ _
  refine ⟨100, ?_⟩
  have hw := awake 99 (by decide)
  have hbad : squintlaw19_SlotsRounds.j0 100 r n true = some true := by
    rw [squintlaw19_SlotsRounds.j0, if_pos rfl, hw]; rfl
  unfold squintlaw19_SlotsRounds.f
  split
  · exact hbad
  split
  · exact hbad
  split
  · exact hbad
  by_cases h : r > 1048576
  · rw [decide_eq_true h]; exact hbad
  · rw [decide_eq_false h, squintlaw19_SlotsRounds.j0, if_neg (by decide)]
    exact rounds_loop (by omega) (by omega) (by omega) (by omega) n.toNat 0 99 (Int.le_refl _) (by omega) (by omega)

end Go.Proofs.Ytfnffnhlfjcplaa.Pure
