/- SlotsOwners answers true at every tick and every number of tenants; no condition. -/
import Derived.Test.YtfnffnhlfjcplaaSl
namespace Go.Proofs.Ytfnffnhlfjcplaa.Pure
open Go.RowKit Go.Proofs.Ytfnffnhlfjcplaa.Q Go.Proofs.Ytfnffnhlfjcplaa.Sl Go.Proofs.YtfnffnhlfjcplaaW.PrintWords Go.Proofs.YtfnffnhlfjcplaaW.PrintLast Go.Proofs.YtfnffnhlfjcplaaW.PrintMore

theorem SlotsOwners : squintlaw19_SlotsOwners.Pure := by
  intro t n _ _
  refine ⟨20, ?_⟩
  have hw := awake 20 (Nat.le_refl _)
  unfold squintlaw19_SlotsOwners.f
  by_cases h : Right t n
  · rw [owner_yes h]; simp only [Option.bind_some]
    rw [right_yes h]; simp only [Option.bind_some, if_true]
    obtain ⟨h0, h1, h2, h3⟩ := id h
    rw [if_neg (by omega), tmod_ok h0, if_pos rfl, round_yes h]; simp only [Option.bind_some]
    have e := Int.mul_ediv_add_emod t n
    rw [Int.mul_comm] at e
    have e1 := Int.emod_nonneg t (show n ≠ 0 by omega)
    have e2 : 0 ≤ t / n * n := Int.mul_nonneg (Int.ediv_nonneg h0 (by omega)) (by omega)
    rw [w64 (x := t / n * n) (by omega) (by omega), w64 (by omega) (by omega), if_pos e, hw]; rfl
  · rw [owner_no h]; simp only [Option.bind_some]
    rw [right_no h]; simp only [Option.bind_some]
    rw [if_neg (by decide), if_pos trivial, if_pos trivial, round_no h]; simp only [Option.bind_some, if_true]
    rw [hw]; rfl

end Go.Proofs.Ytfnffnhlfjcplaa.Pure
