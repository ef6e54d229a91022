/- SlotsNext answers true at every tenant, tick and number of tenants; no condition. -/
import Derived.Test.YtfnffnhlfjcplaaSl
namespace Go.Proofs.Ytfnffnhlfjcplaa.Pure
open Go.RowKit Go.Proofs.Ytfnffnhlfjcplaa.Q Go.Proofs.Ytfnffnhlfjcplaa.Sl Go.Proofs.YtfnffnhlfjcplaaW.PrintWords Go.Proofs.YtfnffnhlfjcplaaW.PrintLast Go.Proofs.YtfnffnhlfjcplaaW.PrintMore

theorem SlotsNext : squintlaw19_SlotsNext.Pure := by
  intro tenant a n _ _ _
  refine ⟨70, ?_⟩
  have hw := awake 69 (by decide)
  have hbad : squintlaw19_SlotsNext.j0 70 tenant a n 0 11 true = some true := by
    rw [squintlaw19_SlotsNext.j0, if_pos rfl, if_pos rfl, if_pos rfl, hw]; rfl
  unfold squintlaw19_SlotsNext.f
  by_cases h : Right a n ∧ 0 ≤ tenant ∧ tenant < n
  · obtain ⟨hr, h0, h1⟩ := h
    obtain ⟨r0, r1, r2, r3⟩ := id hr
    have hb := gap_bd (tenant := tenant) (a := a) (n := n) (by omega) h0 h1
    by_cases hs : a + gap tenant a n < 1073741824
    · rw [next_yes hr h0 h1 hs 69]; simp only [Option.bind_some]
      rw [right_yes hr]; simp only [Option.bind_some, if_true]
      rw [if_neg (by omega), if_neg (by omega), refNext hr h0 h1 70 (by decide)]; simp only [Option.bind_some]
      rw [decide_eq_false (by omega), squintlaw19_SlotsNext.j0, if_neg (by decide), if_pos rfl, refNext hr h0 h1 69 (by decide)]; simp only [Option.bind_some, if_true]
      rw [w64 (by omega) (by omega), if_pos (by omega), hw]; rfl
    · rw [next_late hr h0 h1 (by omega) 69]; simp only [Option.bind_some]
      rw [right_yes hr]; simp only [Option.bind_some, if_true]
      rw [if_neg (by omega), if_neg (by omega), refNext hr h0 h1 70 (by decide)]; simp only [Option.bind_some]
      rw [decide_eq_true (by omega)]; exact hbad
  · rw [next_no h 69]; simp only [Option.bind_some]
    by_cases hr : Right a n
    · rw [right_yes hr]; simp only [Option.bind_some, if_true]
      by_cases h0 : tenant < 0
      · rw [if_pos h0]; exact hbad
      · rw [if_neg h0, if_pos (by have : ¬ (tenant < n) := fun q => h ⟨hr, by omega, q⟩
                                  omega)]; exact hbad
    · rw [right_no hr]; exact hbad

end Go.Proofs.Ytfnffnhlfjcplaa.Pure
