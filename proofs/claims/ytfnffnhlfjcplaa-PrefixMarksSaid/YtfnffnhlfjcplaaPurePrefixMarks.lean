/- PrefixMarks answers true at every row of bytes and every number of bits; no condition. -/
import Derived.OpenShut
import Derived.Test.YtfnffnhlfjcplaaPx
import Derived.Test.YtfnffnhlfjcplaaQ11
namespace Go.Proofs.Ytfnffnhlfjcplaa.Pure
open Go.RowKit Go.Proofs.Ytfnffnhlfjcplaa.Q Go.Proofs.Ytfnffnhlfjcplaa.Px Go.Proofs.YtfnffnhlfjcplaaW.PrintWords Go.Proofs.YtfnffnhlfjcplaaW.PrintLast Go.Proofs.YtfnffnhlfjcplaaW.PrintMore

theorem marks_loop {c b : Int} (hc : 0 ≤ c) (hc' : c ≤ 255) (hb' : b ≤ 8) (j : Nat) : ∀ (i : Int) (k : Nat), 0 ≤ i → i + j = b → 40 + j < k → squintlaw03_PrefixMarks.l0 k (c / P2 b) true (c / P2 i) b i = some true := by
  induction j with
  | zero =>
    intro i k hi hj hk
    obtain ⟨k, rfl⟩ : ∃ m, k = m + 1 := ⟨k - 1, by omega⟩
    obtain rfl : i = b := by omega
    rw [squintlaw03_PrefixMarks.l0, if_neg (by omega), if_pos rfl, if_pos rfl, awake (by omega)]; rfl
  | succ j ih =>
    intro i k hi hj hk
    obtain ⟨k, rfl⟩ : ∃ m, k = m + 1 := ⟨k - 1, by omega⟩
    have hp := P2_bd (b := i) (by omega) (by omega)
    have hq : 0 ≤ c / P2 i := Int.ediv_nonneg hc (by omega)
    have hq' : c / P2 i ≤ c := Int.ediv_le_self _ hc
    have e : P2 (i + 1) = P2 i * 2 := by unfold P2; rw [show (i + 1).toNat = i.toNat + 1 by omega, Int.pow_succ]
    rw [squintlaw03_PrefixMarks.l0, if_pos (by omega), tdiv_ok hq, w64 (x := c / P2 i / 2) (by omega) (by omega), w64 (x := i + 1) (by omega) (by omega), Int.ediv_ediv_of_nonneg (by omega), ← e]
    exact ih (i + 1) k (by omega) (by omega) (by omega)
theorem PrefixMarks : squintlaw03_PrefixMarks.Pure := by
  intro l b _ hl hw _
  refine ⟨60, ?_⟩
  have hok : Okb l := fun x hx => bounds_u8 (hw x hx)
  have hbad : squintlaw03_PrefixMarks.j0 60 l b 0 false true = some true := by
    rw [squintlaw03_PrefixMarks.j0, if_pos rfl, if_neg (by decide), if_pos rfl, awake (by decide)]; rfl
  unfold squintlaw03_PrefixMarks.f
  by_cases h : l = []
  · subst h; rw [mark_empty]; simp only [Option.bind_some]
    rw [if_pos (by decide)]; exact hbad
  · have hp : 0 < l.length := by cases l with
      | nil => exact absurd rfl h
      | cons _ _ => simp
    by_cases hb : 1 ≤ b ∧ b ≤ 8
    · rw [mark_ok hok h hb.1 hb.2]; simp only [Option.bind_some]
      have hc : 0 ≤ rd l 0 ∧ rd l 0 ≤ 255 := rd_okb hok (i := 0) hp
      rw [if_neg (by omega), if_neg (by omega), decide_eq_false (by omega), squintlaw03_PrefixMarks.j0, if_neg (by decide), if_pos (by omega), w64 (x := rd l 0) (by omega) (by omega)]
      have := marks_loop hc.1 hc.2 hb.2 b.toNat 0 59 (Int.le_refl _) (by omega) (by omega)
      rw [show P2 0 = 1 from rfl, Int.ediv_one] at this
      exact this
    · rw [mark_no hb]; simp only [Option.bind_some]
      rw [if_neg (by omega)]
      split
      · exact hbad
      · rw [decide_eq_true (by omega)]; exact hbad

end Go.Proofs.Ytfnffnhlfjcplaa.Pure
