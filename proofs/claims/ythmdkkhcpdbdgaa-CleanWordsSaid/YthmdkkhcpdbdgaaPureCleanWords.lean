/- CleanWords answers true at every field whose texts have at most 140737488351232 bytes. -/
import Derived.Test.YthmdkkhcpdbdgaaCf
import Derived.Test.YthmdkkhcpdbdgaaQ5
namespace Go.Proofs.Ythmdkkhcpdbdgaa.Pure
open Go.RowKit Go.Proofs.Ythmdkkhcpdbdgaa.Gv Go.Proofs.Ythmdkkhcpdbdgaa.Q Go.Proofs.Ythmdkkhcpdbdgaa.Cl Go.Proofs.YthmdkkhcpdbdgaaW.PrintWords Go.Proofs.YthmdkkhcpdbdgaaW.PrintLast Go.Proofs.YthmdkkhcpdbdgaaW.PrintMore

theorem CleanWords (a b : ByteArray) : ∃ k, squintlaw21_CleanWords.f k a b = some true := by
  refine ⟨20001, ?_⟩
  unfold squintlaw21_CleanWords.f
  have yes : squintlaw21_CleanWords.j0 20001 true a b = some true := by
    rw [squintlaw21_CleanWords.j0, if_pos rfl, awake (by decide)]; rfl
  by_cases ha : (a.size : Int) > 5000
  · rw [if_pos ha]; exact yes
  · rw [if_neg ha]
    by_cases hb : (b.size : Int) > 5000
    · rw [decide_eq_true hb]; exact yes
    · rw [decide_eq_false hb, squintlaw21_CleanWords.j0, if_neg (by decide), name_ok (by omega) (by omega)]; simp only [Option.bind_some]
      rw [refName_ok (by omega)]; simp only [Option.bind_some]
      rw [if_pos (beq_self_eq_true _), value_ok _ (by decide)]; simp only [Option.bind_some]
      rw [refValue_ok _ (by omega)]; simp only [Option.bind_some]
      rw [if_pos (beq_self_eq_true _), hop_ok _ _ (by decide)]; simp only [Option.bind_some]
      rw [refHop_ok]; simp only [Option.bind_some]
      rw [if_pos (beq_self_eq_true _), sens_ok]; simp only [Option.bind_some]
      rw [refSens_ok]; simp only [Option.bind_some]
      rw [if_pos (beq_self_eq_true _), awake (by decide)]; rfl

end Go.Proofs.Ythmdkkhcpdbdgaa.Pure
