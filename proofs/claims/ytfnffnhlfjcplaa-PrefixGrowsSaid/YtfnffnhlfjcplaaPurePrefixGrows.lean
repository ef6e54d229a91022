/- PrefixGrows answers true at every two numbers and every number of bits; no condition. -/
import Derived.Test.YtfnffnhlfjcplaaPx
import Derived.Test.YtfnffnhlfjcplaaQ8
namespace Go.Proofs.Ytfnffnhlfjcplaa.Pure
open Go.RowKit Go.Proofs.Ytfnffnhlfjcplaa.Q Go.Proofs.Ytfnffnhlfjcplaa.Px Go.Proofs.YtfnffnhlfjcplaaW.PrintWords Go.Proofs.YtfnffnhlfjcplaaW.PrintLast Go.Proofs.YtfnffnhlfjcplaaW.PrintMore

theorem PrefixGrows : squintlaw03_PrefixGrows.Pure := by
  intro n m b _ _ _
  refine ⟨60, ?_⟩
  have hbad : squintlaw03_PrefixGrows.j0 60 n m b true = some true := by
    rw [squintlaw03_PrefixGrows.j0, if_pos rfl, awake (by decide)]; rfl
  unfold squintlaw03_PrefixGrows.f
  by_cases h : Right n b 0
  · rw [refRight_yes h (by decide)]; simp only [Option.bind_some, if_true]
    by_cases h' : Right m b 0
    · rw [refRight_yes h' (by decide)]; simp only [Option.bind_some]
      obtain ⟨h0, h1, h2, h3, h4, h5⟩ := id h
      obtain ⟨_, _, g2, g3, _, _⟩ := id h'
      have hmn : Right (mn n m) b 0 := by unfold mn; split <;> assumption
      have hmx : Right (mx n m) b 0 := by unfold mx; split <;> assumption
      have hlm : mn n m ≤ mx n m := by unfold mn mx; split <;> split <;> omega
      have l1 := len_enc hmn
      have l2 := len_enc hmx
      have d1 := dl_bd (mn n m - (P2 b - 1))
      have d2 := dl_bd (mx n m - (P2 b - 1))
      have d3 := dl_mono (r := mn n m - (P2 b - 1)) (s := mx n m - (P2 b - 1)) (by omega)
      rw [squintlaw03_PrefixGrows.j0, if_neg (by decide), len_yes hmn (by decide)]; simp only [Option.bind_some]
      rw [len_yes hmx (by decide)]; simp only [Option.bind_some]
      rw [if_pos (by split at l1 <;> omega), if_pos (by split at l1 <;> split at l2 <;> omega), if_pos (by split at l2 <;> omega)]
      by_cases h8 : b = 8
      · rw [if_pos h8, awake (by decide)]; rfl
      · have hp := P2_succ h0 (by omega)
        have hpb := P2_bd (b := b) (by omega) h1
        have hpb' := P2_bd (b := 8 - (b + 1)) (by omega) (by omega)
        have hn1 : Right n (b + 1) 0 := ⟨by omega, by omega, h2, h3, h4, by omega⟩
        have l3 := len_enc hn1
        have l4 := len_enc h
        have d4 := dl_bd (n - (P2 b - 1))
        have d5 := dl_mono (r := n - (P2 (b + 1) - 1)) (s := n - (P2 b - 1)) (by omega)
        rw [if_neg h8, w64 (by omega) (by omega), len_yes hn1 (by decide)]; simp only [Option.bind_some]
        rw [len_yes h (by decide)]; simp only [Option.bind_some]
        rw [if_pos (by split at l3 <;> split at l4 <;> omega), awake (by decide)]; rfl
    · rw [refRight_no h' (by decide)]; exact hbad
  · rw [refRight_no h (by decide)]; exact hbad

end Go.Proofs.Ytfnffnhlfjcplaa.Pure
