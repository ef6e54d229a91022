/- CleanFields answers true at every row of fields whose texts have at most 140737488351232 bytes. -/
import Derived.Test.YthmdkkhcpdbdgaaCf
import Derived.Test.YthmdkkhcpdbdgaaQ9
namespace Go.Proofs.Ythmdkkhcpdbdgaa.Pure
open Go.RowKit Go.Proofs.Ythmdkkhcpdbdgaa.Gv Go.Proofs.Ythmdkkhcpdbdgaa.Q Go.Proofs.Ythmdkkhcpdbdgaa.Cl Go.Proofs.YthmdkkhcpdbdgaaW.PrintWords Go.Proofs.YthmdkkhcpdbdgaaW.PrintLast Go.Proofs.YthmdkkhcpdbdgaaW.PrintMore

theorem fields_loop {l : List S23} (hs : Short 2000 l) (hn : l.length ≤ 400) (d : Nat) : ∀ (i k : Nat), i + d = l.length → 10000 + 2 * d < k → errL (l.take i) = 0 →
    squintlaw21_CleanFields.l0 k (cleaned l).1 (cleaned l).2 ((sent (l.take i)).length : Int) l (l.length : Int) i = some true := by
  induction d with
  | zero =>
    intro i k hi hk he
    obtain ⟨k, rfl⟩ : ∃ m, k = m + 1 := ⟨k - 1, by omega⟩
    rw [List.take_of_length_le (by omega)] at he ⊢
    have hc : cleaned l = (sent l, 0) := by unfold cleaned; rw [if_pos he]
    have hsl := sent_length l
    have hsh : Short 2000 ((sent l).map S36.f0) := fun f hf => by
      rw [sent_f0] at hf; exact hs f (List.mem_filter.1 hf).1
    rw [squintlaw21_CleanFields.l0, if_neg (by omega), hc, if_pos rfl, if_pos rfl, check_ok hsh (by decide) (by omega) (by omega)]; simp only [Option.bind_some]
    rw [if_pos (chk_sent l he), awake (by omega)]; rfl
  | succ d ih =>
    intro i k hi hk he
    obtain ⟨k, rfl⟩ : ∃ m, k = m + 2 := ⟨k - 2, by omega⟩
    have hil : i < l.length := by omega
    have hf := hs _ (rd23_mem hil)
    have ht : l.take (i + 1) = l.take i ++ [rd_T23 l i] := by
      rw [List.take_succ_eq_append_getElem hil]; congr 2
      unfold rd_T23; rw [show ((i : Int)).toNat = i by omega, List.getD_eq_getElem?_getD, List.getElem?_eq_getElem hil]; rfl
    have hsp : l = l.take i ++ (rd_T23 l i :: l.drop (i + 1)) := by rw [← rd23_drop hil, List.take_append_drop]
    have herr : errL l = errL (rd_T23 l i :: l.drop (i + 1)) := by
      conv => lhs; rw [hsp, errL_append, if_pos he]
    rw [errL] at herr
    have hsent : sent l = sent (l.take i) ++ sent (rd_T23 l i :: l.drop (i + 1)) := by
      conv => lhs; rw [hsp, sent_append]
    have hcons : sent (rd_T23 l i :: l.drop (i + 1)) = if hopB (rd_T23 l i).f0 (rd_T23 l i).f1 = true then sent (l.drop (i + 1)) else lineOf (rd_T23 l i) :: sent (l.drop (i + 1)) := by
      unfold sent; rw [List.filter_cons]
      cases hopB (rd_T23 l i).f0 (rd_T23 l i).f1 <;> simp
    have hone : sent [rd_T23 l i] = if hopB (rd_T23 l i).f0 (rd_T23 l i).f1 = true then [] else [lineOf (rd_T23 l i)] := by
      unfold sent; rw [List.filter_cons]
      cases hopB (rd_T23 l i).f0 (rd_T23 l i).f1 <;> simp
    have wrong : ∀ e : Int, errF (rd_T23 l i) = e → e ≠ 0 → squintlaw21_CleanFields.j1 (k + 1) (cleaned l).1 (cleaned l).2 ((sent (l.take i)).length : Int) e l (l.length : Int) i (rd_T23 l i).f0 (rd_T23 l i).f1 = some true := fun e hq h0 => by
      rw [hq, if_neg h0] at herr
      have hc : cleaned l = ([], e) := by unfold cleaned; rw [if_neg (by rw [herr]; exact h0), herr]
      rw [squintlaw21_CleanFields.j1, if_neg h0, hc, if_pos rfl, if_pos (show (((([], e) : List S36 × Int).1.length : Nat) : Int) = 0 from rfl), awake (by omega)]; rfl
    rw [squintlaw21_CleanFields.l0, if_pos (by omega), if_pos (by omega), if_pos (by omega), refName_ok (by omega)]; simp only [Option.bind_some]
    have hE : errF (rd_T23 l i) = if nameB (rd_T23 l i).f0 = true then (if valueB (rd_T23 l i).f1 = true then 0 else 31) else 30 := rfl
    cases hnm : nameB (rd_T23 l i).f0
    · rw [hnm, if_neg Bool.false_ne_true] at hE
      rw [if_neg Bool.false_ne_true]; exact wrong 30 hE (by decide)
    rw [hnm, if_pos rfl] at hE
    rw [if_pos rfl, refValue_ok _ (by omega)]; simp only [Option.bind_some]
    cases hvl : valueB (rd_T23 l i).f1
    · rw [hvl, if_neg Bool.false_ne_true] at hE
      rw [if_neg Bool.false_ne_true]; exact wrong 31 hE (by decide)
    rw [hvl, if_pos rfl] at hE
    rw [hE, if_pos rfl] at herr
    have he' : errL (l.take (i + 1)) = 0 := by rw [ht, errL_append, if_pos he, errL, hE]; rfl
    rw [if_pos rfl, squintlaw21_CleanFields.j1, if_pos rfl, refHop_ok, w64 (x := (i : Int) + 1) (by omega) (by omega)]; simp only [Option.bind_some]
    have next := ih (i + 1) k (by omega) (by omega) he'
    rw [ht, sent_append, hone, show (((i + 1 : Nat)) : Int) = (i : Int) + 1 by omega] at next
    cases hh : hopB (rd_T23 l i).f0 (rd_T23 l i).f1
    · rw [hh, if_neg Bool.false_ne_true] at next hcons
      rw [if_neg Bool.false_ne_true]
      rw [List.length_append, List.length_singleton] at next
      have hsl := sent_length (l.take i)
      rw [List.length_take] at hsl
      rw [show (((sent (l.take i)).length + 1 : Nat) : Int) = ((sent (l.take i)).length : Int) + 1 by omega] at next
      by_cases hz : errL l = 0
      · have hc : cleaned l = (sent l, 0) := by unfold cleaned; rw [if_pos hz]
        rw [hcons] at hsent
        have hlen : (sent l).length = (sent (l.take i)).length + ((sent (l.drop (i + 1))).length + 1) := by rw [hsent]; simp
        have hrd : rd_T36 (sent l) ((sent (l.take i)).length : Int) = lineOf (rd_T23 l i) := by
          unfold rd_T36
          rw [show (((sent (l.take i)).length : Int)).toNat = (sent (l.take i)).length by omega, hsent, List.getD_eq_getElem?_getD, List.getElem?_append_right (Nat.le_refl _), Nat.sub_self]; rfl
        rw [hc] at next ⊢
        rw [if_pos rfl, if_neg (by show ¬ _ ≥ ((sent l).length : Int); omega), if_pos (by omega), if_pos (by show _ < ((sent l).length : Int); omega), refSens_ok]; simp only [Option.bind_some]
        rw [hrd, if_neg (by show ¬ ((!((rd_T23 l i).f0.toList == (rd_T23 l i).f0.toList) || !((rd_T23 l i).f1.toList == (rd_T23 l i).f1.toList)) || !(sensB (rd_T23 l i).f0 == sensB (rd_T23 l i).f0)) = true
                            simp), w64 (by omega) (by omega)]
        exact next
      · have hc : cleaned l = ([], errL l) := by unfold cleaned; rw [if_neg hz]
        rw [hc] at next ⊢
        rw [if_neg (show ¬ (([], errL l) : List S36 × Int).2 = 0 from hz), w64 (by omega) (by omega)]
        exact next
    · rw [hh, if_pos rfl, List.append_nil] at next
      rw [if_pos rfl]; exact next
theorem CleanFields (l : List S23) (hl : Short 140737488351232 l) (hn : l.length ≤ 4398046511104) : ∃ k, squintlaw21_CleanFields.f k l = some true := by
  obtain ⟨K, hK⟩ : ∃ K, l.length + 20001 ≤ K := ⟨_, Nat.le_refl _⟩
  refine ⟨K, ?_⟩
  unfold squintlaw21_CleanFields.f
  rw [small_ok hl hn (by omega)]; simp only [Option.bind_some]
  by_cases h : tot l ≤ 2000
  · obtain ⟨hs, h4⟩ := short_of h
    rw [decide_eq_true h, if_pos rfl, fields_ok hs (by decide) (by omega) (by omega)]; simp only [Option.bind_some]
    exact fields_loop hs h4 l.length 0 _ (by omega) (by omega) rfl
  · rw [decide_eq_false h, if_neg Bool.false_ne_true, awake (by omega)]; rfl

end Go.Proofs.Ythmdkkhcpdbdgaa.Pure
