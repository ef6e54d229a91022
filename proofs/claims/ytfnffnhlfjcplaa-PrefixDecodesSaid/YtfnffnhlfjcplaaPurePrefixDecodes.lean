/- PrefixDecodes answers true at every row of bytes and every number of bits; no condition. -/
import Derived.OpenShut
import Derived.Test.YtfnffnhlfjcplaaPx
namespace Go.Proofs.Ytfnffnhlfjcplaa.Pure
open Go.RowKit Go.Proofs.Ytfnffnhlfjcplaa.Q Go.Proofs.Ytfnffnhlfjcplaa.Px Go.Proofs.YtfnffnhlfjcplaaW.PrintWords Go.Proofs.YtfnffnhlfjcplaaW.PrintLast Go.Proofs.YtfnffnhlfjcplaaW.PrintMore

theorem PrefixDecodes : squintlaw03_PrefixDecodes.Pure := by
  intro l b _ hl hw _
  refine ⟨40, ?_⟩
  have hok : Okb l := fun x hx => bounds_u8 (hw x hx)
  unfold squintlaw03_PrefixDecodes.f
  split
  · rw [awake (by decide)]; rfl
  · by_cases hb : 1 ≤ b ∧ b ≤ 8
    · rw [decode_yes hok (by omega) hb.1 hb.2 (by decide)]; simp only [Option.bind_some]
      rw [if_neg (by omega), decide_eq_false (by omega), squintlaw03_PrefixDecodes.j0, if_neg (by decide), refDecode hok (by omega) hb.1 hb.2 (by decide)]; simp only [Option.bind_some]
      rw [if_pos trivial, if_pos trivial, if_pos trivial, awake (by decide)]; rfl
    · rw [decode_no hb]; simp only [Option.bind_some]
      have hbad : squintlaw03_PrefixDecodes.j0 40 l b 0 0 11 true = some true := by
        rw [squintlaw03_PrefixDecodes.j0, if_pos rfl, if_pos rfl, if_pos rfl, if_pos rfl, awake (by decide)]; rfl
      split
      · exact hbad
      · rw [decide_eq_true (by omega)]; exact hbad

end Go.Proofs.Ytfnffnhlfjcplaa.Pure
