/- CleanParts answers true at every two rows of fields whose texts have at most 140737488351232 bytes. -/
import Derived.Test.YthmdkkhcpdbdgaaCf
import Derived.Test.YthmdkkhcpdbdgaaQ7
namespace Go.Proofs.Ythmdkkhcpdbdgaa.Pure
open Go.RowKit Go.Proofs.Ythmdkkhcpdbdgaa.Gv Go.Proofs.Ythmdkkhcpdbdgaa.Q Go.Proofs.Ythmdkkhcpdbdgaa.Cl Go.Proofs.YthmdkkhcpdbdgaaW.PrintWords Go.Proofs.YthmdkkhcpdbdgaaW.PrintLast Go.Proofs.YthmdkkhcpdbdgaaW.PrintMore

theorem same_self (x : S36) : ((!(x.f0.f0.toList == x.f0.f0.toList) || !(x.f0.f1.toList == x.f0.f1.toList)) || !(x.f1 == x.f1)) = false := by simp
theorem rd_left {a b : List S36} {i : Nat} (h : i < a.length) : rd_T36 (a ++ b) i = rd_T36 a i := by
  unfold rd_T36; rw [show ((i : Int)).toNat = i by omega, List.getD_eq_getElem?_getD, List.getD_eq_getElem?_getD, List.getElem?_append_left h]
theorem rd_right {a b : List S36} {i : Nat} (h : a.length ≤ i) : rd_T36 (a ++ b) i = rd_T36 b ((i : Int) - (a.length : Int)) := by
  unfold rd_T36; rw [show ((i : Int)).toNat = i by omega, show ((i : Int) - (a.length : Int)).toNat = i - a.length by omega, List.getD_eq_getElem?_getD, List.getD_eq_getElem?_getD, List.getElem?_append_right h]
theorem parts_loop {x y : List S36} (hx : x.length ≤ 400) (hy : y.length ≤ 400) (d : Nat) : ∀ (i k : Nat), i + d = (x ++ y).length → 100 + d < k →
    squintlaw21_CleanParts.l0 k x y (x ++ y) ((x ++ y).length : Int) i = some true := by
  have hz : (x ++ y).length = x.length + y.length := List.length_append
  induction d with
  | zero =>
    intro i k hi hk
    obtain ⟨k, rfl⟩ : ∃ m, k = m + 1 := ⟨k - 1, by omega⟩
    rw [squintlaw21_CleanParts.l0, if_neg (by omega), awake (by omega)]; rfl
  | succ d ih =>
    intro i k hi hk
    obtain ⟨k, rfl⟩ : ∃ m, k = m + 1 := ⟨k - 1, by omega⟩
    have go : squintlaw21_CleanParts.l0 k x y (x ++ y) ((x ++ y).length : Int) (wrap64 ((i : Int) + 1)) = some true := by
      rw [w64 (by omega) (by omega)]; exact ih (i + 1) k (by omega) (by omega)
    rw [squintlaw21_CleanParts.l0, if_pos (by omega)]
    by_cases h : i < x.length
    · rw [if_pos (by omega), if_pos (by omega), if_pos (by omega), rd_left h, same_self, if_neg Bool.false_ne_true, if_neg (by omega)]; exact go
    · rw [if_neg (by omega), if_pos (by omega), if_pos (by omega), if_pos (by omega), w64 (x := (i : Int) - (x.length : Int)) (by omega) (by omega), if_pos (by omega), if_pos (by omega), rd_right (by omega), same_self, if_neg Bool.false_ne_true]; exact go
theorem CleanParts (a b : List S23) (ha : Short 140737488351232 a) (hb : Short 140737488351232 b) (hna : a.length ≤ 4398046511104) (hnb : b.length ≤ 4398046511104) : ∃ k, squintlaw21_CleanParts.f k a b = some true := by
  obtain ⟨K, hK⟩ : ∃ K, a.length + b.length + 20001 ≤ K := ⟨_, Nat.le_refl _⟩
  refine ⟨K + 1, ?_⟩
  have bad : squintlaw21_CleanParts.j0 (K + 1) a b true = some true := by
    rw [squintlaw21_CleanParts.j0, if_pos rfl, awake (by omega)]; rfl
  unfold squintlaw21_CleanParts.f
  rw [small_ok ha hna (by omega)]; simp only [Option.bind_some]
  by_cases h : tot a ≤ 2000
  · rw [decide_eq_true h, if_pos rfl, small_ok hb hnb (by omega)]; simp only [Option.bind_some]
    by_cases h' : tot b ≤ 2000
    · obtain ⟨sa, la⟩ := short_of h
      obtain ⟨sb, lb⟩ := short_of h'
      have sab : Short 2000 ([] ++ a ++ b) := fun f hf => by
        rcases List.mem_append.1 hf with hf | hf
        · exact sa f (by simpa using hf)
        · exact sb f hf
      have hl : ([] ++ a ++ b).length = a.length + b.length := by simp
      rw [decide_eq_true h', squintlaw21_CleanParts.j0, if_neg (by decide), fields_ok sa (by decide) (by omega) (by omega)]; simp only [Option.bind_some]
      rw [fields_ok sb (by decide) (by omega) (by omega)]; simp only [Option.bind_some]
      rw [if_pos (by simp; omega), if_pos (by simp; omega), fields_ok sab (by decide) (by omega) (by omega)]; simp only [Option.bind_some]
      rw [List.nil_append]
      have he := errL_append a b
      have hs := sent_append a b
      have xa := sent_length a
      have xb := sent_length b
      by_cases ea : errL a = 0
      · have ca : cleaned a = (sent a, 0) := by unfold cleaned; rw [if_pos ea]
        rw [if_pos ea] at he
        rw [ca, if_pos rfl]
        by_cases eb : errL b = 0
        · have cb : cleaned b = (sent b, 0) := by unfold cleaned; rw [if_pos eb]
          have cab : cleaned (a ++ b) = (sent a ++ sent b, 0) := by unfold cleaned; rw [he, if_pos eb, hs]
          rw [cb, cab, if_pos rfl, if_pos rfl]
          have hz : (sent a ++ sent b).length = (sent a).length + (sent b).length := List.length_append
          have hw : ((((sent a ++ sent b).length : Nat) : Int) != wrap64 (((sent a).length : Int) + ((sent b).length : Int))) = false := by
            rw [w64 (by omega) (by omega), hz]; simp
          obtain ⟨K, rfl⟩ : ∃ m, K = m + 1 := ⟨K - 1, by omega⟩
          show squintlaw21_CleanParts.j1 (K + 1) (sent a) (sent b) (sent a ++ sent b) ((((sent a ++ sent b).length : Nat) : Int) != wrap64 (((sent a).length : Int) + ((sent b).length : Int))) = some true
          rw [hw, squintlaw21_CleanParts.j1, if_neg (by decide)]
          exact parts_loop (by omega) (by omega) (sent a ++ sent b).length 0 K (by omega) (by omega)
        · have cb : cleaned b = ([], errL b) := by unfold cleaned; rw [if_neg eb]
          have cab : cleaned (a ++ b) = ([], errL b) := by unfold cleaned; rw [he, if_neg eb]
          rw [cb, cab, if_neg (show ¬ (([], errL b) : List S36 × Int).2 = 0 from eb), if_pos rfl, if_pos (show (((([], errL b) : List S36 × Int).1.length : Nat) : Int) = 0 from rfl), awake (by omega)]; rfl
      · have ca : cleaned a = ([], errL a) := by unfold cleaned; rw [if_neg ea]
        rw [if_neg ea] at he
        have cab : cleaned (a ++ b) = ([], errL a) := by unfold cleaned; rw [he, if_neg ea]
        rw [ca, cab, if_neg (show ¬ (([], errL a) : List S36 × Int).2 = 0 from ea), if_pos rfl, if_pos (show (((([], errL a) : List S36 × Int).1.length : Nat) : Int) = 0 from rfl), awake (by omega)]; rfl
    · rw [decide_eq_false h']; exact bad
  · rw [decide_eq_false h, if_neg Bool.false_ne_true]; exact bad

end Go.Proofs.Ythmdkkhcpdbdgaa.Pure
