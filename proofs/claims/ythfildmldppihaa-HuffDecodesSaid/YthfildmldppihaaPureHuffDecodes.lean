/- HuffDecodes' plain law; no condition. -/
import Derived.Test.YthfildmldppihaaQ6
import Derived.Test.YthfildmldppihaaPc
namespace Go.Proofs.Ythfildmldppihaa.Pure
open Go.RowKit Go.Proofs.Ythfildmldppihaa.Q Go.Proofs.Ythfildmldppihaa.Gv Go.Proofs.Ythfildmldppihaa.Pt Go.Proofs.YthfildmldppihaaW.PrintWords Go.Proofs.YthfildmldppihaaW.PrintLast
theorem HuffDecodes : squintlaw02_HuffDecodes.Pure := by
  intro l _ _ hw
  have hl := byt_wf hw
  by_cases h60 : (l.length : Int) > 60
  · refine ⟨0, ?_⟩
    unfold squintlaw02_HuffDecodes.f
    rw [if_pos h60, awake2]; rfl
  · obtain ⟨k, hk⟩ : ∃ k, 1000 < k := ⟨1001, by omega⟩
    refine ⟨k + 1, ?_⟩
    have hn : l.length ≤ 100000 := by omega
    have hbl := bitsOf_len l
    obtain ⟨⟨r, e⟩, hre⟩ : ∃ s, s = rdec ((bitsOf l).length + 1) (bitsOf l) [] := ⟨_, rfl⟩
    have hd := decode_ok hl hn
    have hr := refdec_ok (bits_bitsOf l) (show (bitsOf l).length ≤ 100000 by omega)
    have hdec : Gs.dec l = some (r, e) := by rw [dec_eq, hre]
    rw [← hre] at hd hr
    have hb := bits_ok hl hn (show 10 * l.length < k + 1 by omega)
    have hrb : Byt r := rdec_byt (Nat.lt_succ_self _) hre.symm
    have herr := rdec_err ((bitsOf l).length + 1) (bitsOf l) []
    rw [← hre] at herr
    dsimp only at herr hr
    have hne : ((strOfNums r).toList != (strOfNums r).toList) = false := bne_self_eq_false _
    unfold squintlaw02_HuffDecodes.f
    rw [if_neg h60, hd, Option.bind_some, hb, Option.bind_some, hr, Option.bind_some]
    dsimp only
    rw [if_pos rfl, hne, squintlaw02_HuffDecodes.j0, if_neg (by decide)]
    by_cases he : e = 0
    · subst he
      obtain ⟨h1, h2⟩ := enc_dec hl hdec
      have hrl : r.length ≤ 100000 := by
        have := enc_len hrb
        have h3 := congrArg List.length h1
        have h4 : 5 * r.length ≤ (codesOf r).length := by
          clear hre hd hr hdec herr hne h1 h2 this h3
          induction r with
          | nil => simp [codesOf]
          | cons x r ih =>
            have hx := hrb x (List.mem_cons_self ..)
            have := Ny.L_rng x.toNat (by omega)
            have := ih (fun y hy => hrb y (List.mem_cons_of_mem _ hy))
            rw [codesOf, List.length_append, code_len, List.length_cons]
            omega
        omega
      rw [if_pos rfl, encode_ok hrb hrl, Option.bind_some, h1, if_pos rfl, awake2]; rfl
    · rw [if_neg he]
      rcases herr with h | ⟨h, _⟩
      · exact absurd h he
      · rw [h, if_pos (by rfl), awake2]; rfl
end Go.Proofs.Ythfildmldppihaa.Pure
