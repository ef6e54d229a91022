/- HuffEncodes' plain law; no condition. -/
import Derived.Test.YthfildmldppihaaQ8
import Derived.Test.YthfildmldppihaaPc
namespace Go.Proofs.Ythfildmldppihaa.Pure
open Go.RowKit Go.Proofs.Ythfildmldppihaa.Q Go.Proofs.Ythfildmldppihaa.Gv Go.Proofs.Ythfildmldppihaa.Pt Go.Proofs.YthfildmldppihaaW.PrintWords Go.Proofs.YthfildmldppihaaW.PrintLast
theorem HuffEncodes : squintlaw02_HuffEncodes.Pure := by
  intro l _ _ hw
  have hl := byt_wf hw
  by_cases h200 : (l.length : Int) > 200
  · refine ⟨0, ?_⟩
    unfold squintlaw02_HuffEncodes.f
    rw [if_pos h200, awake2]; rfl
  · obtain ⟨k, hk⟩ : ∃ k, 10000 < k := ⟨10001, by omega⟩
    refine ⟨k + 1, ?_⟩
    have hn : l.length ≤ 100000 := by omega
    have hes := enc_size hl
    have hb := bits_ok (enc_byt l) (show (enc l).length ≤ 100000 by omega) (show 10 * (enc l).length < k + 1 by omega)
    rw [enc_bits hl] at hb
    have hs := size_ok hl hn (show l.length < k + 1 by omega)
    have hd := (decode_ok (enc_byt l) (show (enc l).length ≤ 100000 by omega)).trans ((dec_eq (enc l)).symm.trans (dec_enc hl))
    have hne : ((((enc l).length : Int)) != (((enc l).length : Int))) = false := bne_self_eq_false _
    unfold squintlaw02_HuffEncodes.f
    rw [if_neg h200, encode_ok hl hn, Option.bind_some, hb, Option.bind_some, text_ok hl hn, Option.bind_some, if_pos rfl, hs, Option.bind_some, hne, squintlaw02_HuffEncodes.j0, if_neg (by decide), hd, Option.bind_some]
    dsimp only
    rw [if_pos rfl, if_pos rfl, awake2]; rfl
end Go.Proofs.Ythfildmldppihaa.Pure
