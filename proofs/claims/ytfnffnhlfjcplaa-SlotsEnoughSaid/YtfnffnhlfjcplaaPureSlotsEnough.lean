/- SlotsEnough answers true at every tick, number of tenants, cells and queued ones; no condition. -/
import Derived.Test.YtfnffnhlfjcplaaSl
import Derived.Test.YtfnffnhlfjcplaaQ4
namespace Go.Proofs.Ytfnffnhlfjcplaa.Pure
open Go.RowKit Go.Proofs.Ytfnffnhlfjcplaa.Q Go.Proofs.Ytfnffnhlfjcplaa.Sl Go.Proofs.YtfnffnhlfjcplaaW.PrintWords Go.Proofs.YtfnffnhlfjcplaaW.PrintLast Go.Proofs.YtfnffnhlfjcplaaW.PrintMore

theorem enough_loop {a n c q s : Int} (ha : Right a n) (hc : 0 ≤ c + q) (hc' : c + q ≤ 2097152) (hb : Right (a + s) n) (hs : s = (c + q) * n) (j : Nat) : ∀ (t : Int) (k : Nat), 0 ≤ t → t + j = n → 20 + j < k → squintlaw19_SlotsEnough.l0 k a n c q s n t = some true := by
  obtain ⟨r0, r1, r2, r3⟩ := id ha
  obtain ⟨s0, s1, _, _⟩ := id hb
  have hp := mul_bd (a := c + q) (b := n) (A := 2097152) (B := 64) hc hc' (by omega) r3
  induction j with
  | zero =>
    intro t k ht hj hk
    obtain ⟨k, rfl⟩ : ∃ m, k = m + 1 := ⟨k - 1, by omega⟩
    rw [squintlaw19_SlotsEnough.l0, if_neg (by omega), awake _ (by omega)]; rfl
  | succ j ih =>
    intro t k ht hj hk
    obtain ⟨k, rfl⟩ : ∃ m, k = m + 1 := ⟨k - 1, by omega⟩
    obtain ⟨k, rfl⟩ : ∃ m, k = m + 1 := ⟨k - 1, by omega⟩
    have hu := upto_rounds (t := a) (tenant := t) (c := c + q) (show 0 < n by omega)
    rw [← hs] at hu
    rw [squintlaw19_SlotsEnough.l0, if_pos (by omega), w64 (x := a + s) (by omega) (by omega), between_yes ha hb ht (by omega) (by omega)]; simp only [Option.bind_some]
    rw [w64 (x := c + q) (by omega) (by omega), hu, if_pos (by omega), w64 (by omega) (by omega)]
    exact ih (t + 1) (k + 1) (by omega) (by omega) (by omega)

theorem SlotsEnough (a n c q : Int) (_ha : (Lit.int .i64 a).wf = true) : ∃ k, squintlaw19_SlotsEnough.f k a n c q = some true := by
  refine ⟨200, ?_⟩
  have hw := awake 199 (by decide)
  have hw' := awake 198 (by decide)
  unfold squintlaw19_SlotsEnough.f
  by_cases h : (0 ≤ c ∧ c ≤ 1048576) ∧ (0 ≤ q ∧ q ≤ 1048576) ∧ (0 ≤ n ∧ n ≤ 1048576)
  · obtain ⟨hc, hq, hn⟩ := h
    rw [wait_yes 196 hc hq hn]; simp only [Option.bind_some]
    have hp := mul_bd (a := c + q) (b := n) (A := 2097152) (B := 1048576) (by omega) (by omega) hn.1 hn.2
    rw [if_neg (by omega), if_neg (by omega), if_neg (by omega), if_neg (by omega), if_neg (by omega), decide_eq_false (by omega), squintlaw19_SlotsEnough.j0, if_neg (by decide)]
    rw [w64 (x := c + q) (by omega) (by omega), w64 (by omega) (by omega), if_pos rfl]
    by_cases hr : Right a n
    · rw [right_yes hr]; simp only [Option.bind_some, if_true]
      obtain ⟨r0, r1, r2, r3⟩ := id hr
      rw [w64 (x := a + _) (by omega) (by omega)]
      by_cases hb : Right (a + (c + q) * n) n
      · rw [right_yes hb]; simp only [Option.bind_some]
        rw [squintlaw19_SlotsEnough.j1, if_neg (by decide)]
        exact enough_loop hr (by omega) (by omega) hb rfl n.toNat 0 198 (Int.le_refl _) (by omega) (by omega)
      · rw [right_no hb]; simp only [Option.bind_some]
        rw [squintlaw19_SlotsEnough.j1, if_pos (by decide), hw']; rfl
    · rw [right_no hr]; simp only [Option.bind_some]
      rw [if_neg (by decide), squintlaw19_SlotsEnough.j1, if_pos rfl, hw']; rfl
  · have hbad : squintlaw19_SlotsEnough.j0 200 a n c q 0 true = some true := by
      rw [squintlaw19_SlotsEnough.j0, if_pos rfl, if_pos rfl, hw]; rfl
    rw [wait_no 196 h]; simp only [Option.bind_some]
    split; · exact hbad
    split; · exact hbad
    split; · exact hbad
    split; · exact hbad
    split; · exact hbad
    rw [decide_eq_true (by omega)]; exact hbad
end Go.Proofs.Ytfnffnhlfjcplaa.Pure
