/- CleanChecks answers true at every row of lines whose texts have at most 140737488351232 bytes. -/
import Derived.Test.YthmdkkhcpdbdgaaCf
import Derived.Test.YthmdkkhcpdbdgaaQ11
namespace Go.Proofs.Ythmdkkhcpdbdgaa.Pure
open Go.RowKit Go.Proofs.Ythmdkkhcpdbdgaa.Gv Go.Proofs.Ythmdkkhcpdbdgaa.Q Go.Proofs.Ythmdkkhcpdbdgaa.Cl Go.Proofs.YthmdkkhcpdbdgaaW.PrintWords Go.Proofs.YthmdkkhcpdbdgaaW.PrintLast Go.Proofs.YthmdkkhcpdbdgaaW.PrintMore

theorem same_self' (x : S36) : ((!(x.f0.f0.toList == x.f0.f0.toList) || !(x.f0.f1.toList == x.f0.f1.toList)) || !(x.f1 == x.f1)) = false := by simp
theorem checks_same {x : List S36} (hx : x.length ≤ 400) (d : Nat) : ∀ (i k : Nat), i + d = x.length → 100 + d < k → squintlaw21_CleanChecks.l1 k x x (x.length : Int) i = some true := by
  induction d with
  | zero =>
    intro i k hi hk
    obtain ⟨k, rfl⟩ : ∃ m, k = m + 1 := ⟨k - 1, by omega⟩
    rw [squintlaw21_CleanChecks.l1, if_neg (by omega), awake (by omega)]; rfl
  | succ d ih =>
    intro i k hi hk
    obtain ⟨k, rfl⟩ : ∃ m, k = m + 1 := ⟨k - 1, by omega⟩
    rw [squintlaw21_CleanChecks.l1, if_pos (by omega), if_pos (by omega), if_pos (by omega), if_pos (by omega), same_self', if_neg Bool.false_ne_true, w64 (by omega) (by omega)]
    exact ih (i + 1) k (by omega) (by omega)
theorem checks_end {l : List S36} (hs : Short 2000 (l.map S36.f0)) (hn : l.length ≤ 400) {k : Nat} (hk : 5000 < k) : squintlaw21_CleanChecks.j2 k l (l.map S36.f0) (chk l) = some true := by
  obtain ⟨k, rfl⟩ : ∃ m, k = m + 2 := ⟨k - 2, by omega⟩
  have hm : (l.map S36.f0).length = l.length := List.length_map _
  rw [squintlaw21_CleanChecks.j2, check_ok hs (by decide) (by omega) (by omega)]; simp only [Option.bind_some]
  rw [if_pos trivial, fields_ok hs (by decide) (by omega) (by omega)]; simp only [Option.bind_some]
  by_cases he : errL (l.map S36.f0) = 0
  · have hc : cleaned (l.map S36.f0) = (sent (l.map S36.f0), 0) := by unfold cleaned; rw [if_pos he]
    have hz := sent_length (l.map S36.f0)
    obtain ⟨h1, h2⟩ := sent_sent (l.map S36.f0) he
    have hs2 : Short 2000 ((sent (l.map S36.f0)).map S36.f0) := fun f hf => by
      rw [sent_f0] at hf; exact hs f (List.mem_filter.1 hf).1
    have hm2 : ((sent (l.map S36.f0)).map S36.f0).length = (sent (l.map S36.f0)).length := List.length_map _
    have hc2 : cleaned ((sent (l.map S36.f0)).map S36.f0) = (sent (l.map S36.f0), 0) := by unfold cleaned; rw [if_pos h1, h2]
    rw [hc, if_pos rfl, decode_ok (show (sent (l.map S36.f0)).length ≤ 3518437208780 by omega) (by omega)]; simp only [Option.bind_some]
    rw [fields_ok hs2 (by decide) (by omega) (by omega)]; simp only [Option.bind_some]
    rw [hc2, if_pos rfl]
    show squintlaw21_CleanChecks.j3 (k + 1) (sent (l.map S36.f0)) (sent (l.map S36.f0)) ((((sent (l.map S36.f0)).length : Nat) : Int) != (((sent (l.map S36.f0)).length : Nat) : Int)) = some true
    rw [bne_self_eq_false, squintlaw21_CleanChecks.j3, if_neg (by decide)]
    exact checks_same (by omega) (sent (l.map S36.f0)).length 0 k (by omega) (by omega)
  · have hc : cleaned (l.map S36.f0) = ([], errL (l.map S36.f0)) := by unfold cleaned; rw [if_neg he]
    rw [hc, if_neg (show ¬ (([], errL (l.map S36.f0)) : List S36 × Int).2 = 0 from he), awake (by omega)]; rfl
theorem chk_take {l : List S36} {i : Nat} (h : i < l.length) : chk (l.take (i + 1)) = if chk (l.take i) = 0 then errC (rd_T36 l i).f0 else chk (l.take i) := by
  have ap : ∀ a b : List S36, chk (a ++ b) = if chk a = 0 then chk b else chk a := fun a b => by
    induction a with
    | nil => rfl
    | cons x a ih =>
      rw [List.cons_append, chk, chk, ih]
      by_cases q : errC x.f0 = 0
      · rw [if_pos q, if_pos q]
      · rw [if_neg q, if_neg q, if_neg q]
  have ht : l.take (i + 1) = l.take i ++ [rd_T36 l i] := by
    rw [List.take_succ_eq_append_getElem h]; congr 2
    unfold rd_T36; rw [show ((i : Int)).toNat = i by omega, List.getD_eq_getElem?_getD, List.getElem?_eq_getElem h]; rfl
  rw [ht, ap]
  have one : ∀ x : S36, chk [x] = errC x.f0 := fun x => by
    rw [chk]; split
    · rename_i q; rw [q]; rfl
    · rfl
  rw [one]
theorem chk_stop {l : List S36} {i : Nat} (h : chk (l.take i) ≠ 0) : chk l = chk (l.take i) := by
  have ap : ∀ a b : List S36, chk a ≠ 0 → chk (a ++ b) = chk a := fun a b => by
    induction a with
    | nil => intro q; exact absurd rfl q
    | cons x a ih =>
      intro q
      rw [List.cons_append, chk, chk] at *
      by_cases z : errC x.f0 = 0
      · rw [if_pos z] at q ⊢; rw [if_pos z]; exact ih q
      · rw [if_neg z, if_neg z]
  conv => lhs; rw [← List.take_append_drop i l]
  exact ap _ _ h
theorem rd_map {l : List S36} {i : Nat} (h : i < l.length) : rd_T23 (l.map S36.f0) i = (rd_T36 l i).f0 := by
  unfold rd_T23 rd_T36; rw [show ((i : Int)).toNat = i by omega, List.getD_eq_getElem?_getD, List.getD_eq_getElem?_getD, List.getElem?_map, List.getElem?_eq_getElem h]; rfl
theorem checks_loop {l : List S36} (hs : Short 2000 (l.map S36.f0)) (hn : l.length ≤ 400) (d : Nat) : ∀ (i k : Nat), i + d = l.length → 10000 + 2 * d < k →
    squintlaw21_CleanChecks.l0 k l (l.map S36.f0) (chk (l.take i)) (l.map S36.f0) ((l.map S36.f0).length : Int) i = some true := by
  have hm : (l.map S36.f0).length = l.length := List.length_map _
  induction d with
  | zero =>
    intro i k hi hk
    obtain ⟨k, rfl⟩ : ∃ m, k = m + 1 := ⟨k - 1, by omega⟩
    rw [squintlaw21_CleanChecks.l0, if_neg (by omega), List.take_of_length_le (by omega)]
    exact checks_end hs hn (by omega)
  | succ d ih =>
    intro i k hi hk
    obtain ⟨k, rfl⟩ : ∃ m, k = m + 2 := ⟨k - 2, by omega⟩
    have hil : i < l.length := by omega
    have hf := hs _ (List.mem_map_of_mem (rd36_mem hil))
    rw [squintlaw21_CleanChecks.l0, if_pos (by omega), if_pos (by omega), if_pos (by omega)]
    by_cases hq : chk (l.take i) = 0
    · have ht := chk_take hil
      rw [if_pos hq] at ht
      have next := ih (i + 1) k (by omega) (by omega)
      rw [ht, show (((i + 1 : Nat)) : Int) = (i : Int) + 1 by omega] at next
      have hE : errC (rd_T36 l i).f0 = if (nameB (rd_T36 l i).f0.f0 && !hopB (rd_T36 l i).f0.f0 (rd_T36 l i).f0.f1) = true then errF (rd_T36 l i).f0 else 30 := rfl
      have hF : errF (rd_T36 l i).f0 = if nameB (rd_T36 l i).f0.f0 = true then (if valueB (rd_T36 l i).f0.f1 = true then 0 else 31) else 30 := rfl
      have wr : wrap64 ((i : Int) + 1) = (i : Int) + 1 := w64 (by omega) (by omega)
      rw [hq, if_pos rfl, rd_map hil, refName_ok (by omega)]; simp only [Option.bind_some]
      cases hnm : nameB (rd_T36 l i).f0.f0
      · rw [hnm] at hE
        rw [hE] at next
        rw [if_neg Bool.false_ne_true, squintlaw21_CleanChecks.j1, if_pos rfl, wr]; exact next
      · rw [if_pos rfl, refHop_ok]; simp only [Option.bind_some]
        cases hh : hopB (rd_T36 l i).f0.f0 (rd_T36 l i).f0.f1
        · rw [hnm, hh, if_pos (by decide), hF, hnm, if_pos rfl] at hE
          rw [squintlaw21_CleanChecks.j1, if_neg (by decide), refValue_ok _ (by omega)]; simp only [Option.bind_some]
          cases hv : valueB (rd_T36 l i).f0.f1
          · rw [hv, if_neg Bool.false_ne_true] at hE
            rw [hE] at next
            rw [if_neg Bool.false_ne_true, wr]; exact next
          · rw [hv, if_pos rfl] at hE
            rw [hE] at next
            rw [if_pos rfl, wr]; exact next
        · rw [hnm, hh] at hE
          rw [hE] at next
          rw [squintlaw21_CleanChecks.j1, if_pos rfl, wr]; exact next
    · rw [if_neg hq, ← chk_stop hq]
      exact checks_end hs hn (by omega)
theorem CleanChecks (l : List S36) (hl : Short 140737488351232 (l.map S36.f0)) (hn : l.length ≤ 3518437208780) : ∃ k, squintlaw21_CleanChecks.f k l = some true := by
  obtain ⟨K, hK⟩ : ∃ K, l.length + 20001 ≤ K := ⟨_, Nat.le_refl _⟩
  refine ⟨K, ?_⟩
  have hm : (l.map S36.f0).length = l.length := List.length_map _
  unfold squintlaw21_CleanChecks.f
  rw [decode_ok hn (by omega)]; simp only [Option.bind_some]
  rw [if_pos (by omega), small_ok hl (by omega) (by omega)]; simp only [Option.bind_some]
  by_cases h : tot (l.map S36.f0) ≤ 2000
  · obtain ⟨hs, h4⟩ := short_of h
    rw [decide_eq_true h, if_pos rfl]
    exact checks_loop hs (by omega) l.length 0 K (by omega) (by omega)
  · rw [decide_eq_false h, if_neg Bool.false_ne_true, awake (by omega)]; rfl

end Go.Proofs.Ythmdkkhcpdbdgaa.Pure
