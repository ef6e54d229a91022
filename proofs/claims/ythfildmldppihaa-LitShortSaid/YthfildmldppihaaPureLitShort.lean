/- LitShort's plain law; no condition. -/
import Derived.Test.YthfildmldppihaaQ4
import Derived.Test.YthfildmldppihaaPe
namespace Go.Proofs.Ythfildmldppihaa.Pure
open Go.RowKit Go.Proofs.Ythfildmldppihaa.Q Go.Proofs.Ythfildmldppihaa.Gv Go.Proofs.Ythfildmldppihaa.Pt Go.Proofs.YthfildmldppihaaW.PrintWords Go.Proofs.YthfildmldppihaaW.PrintLast
theorem LitShort : squintlaw04_LitShort.Pure := by
  intro l _ _ hw
  have hl := byt_wf hw
  obtain ⟨k, hk⟩ : ∃ k, 200000 < k := ⟨200001, by omega⟩
  refine ⟨k, ?_⟩
  unfold squintlaw04_LitShort.f
  by_cases h300 : (l.length : Int) > 300
  · rw [if_pos h300, awake4 (by omega)]; rfl
  · have hp := refencode_lit hl (by omega) false hk
    have hc := refencode_lit hl (by omega) true hk
    rw [if_neg (by decide)] at hp
    rw [if_pos rfl] at hc
    have ep := encode_lit hl (by omega) false (show 10 ≤ k by omega)
    have ec := encode_lit hl (by omega) true (show 10 ≤ k by omega)
    have hs : lit_Short.f k l = some (if ((lenc l true).length : Int) < ((lenc l false).length : Int) then lenc l true else lenc l false) := by
      unfold lit_Short.f
      rw [ep, Option.bind_some]
      dsimp only
      rw [if_pos rfl, ec, Option.bind_some]
      split <;> rfl
    rw [if_neg h300, hp, Option.bind_some, hc, Option.bind_some, strOfNums_size, strOfNums_size, hs]
    by_cases hlt : ((lenc l true).length : Int) < ((lenc l false).length : Int)
    · rw [if_pos hlt, if_pos hlt, Option.bind_some, if_pos rfl, awake4 (by omega)]; rfl
    · rw [if_neg hlt, if_neg hlt, Option.bind_some, if_pos rfl, awake4 (by omega)]; rfl
end Go.Proofs.Ythfildmldppihaa.Pure
