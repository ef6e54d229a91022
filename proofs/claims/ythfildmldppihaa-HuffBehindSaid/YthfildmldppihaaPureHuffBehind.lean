/- HuffBehind's plain law: sizes are sums of lengths; no condition. -/
import Derived.Test.YthfildmldppihaaQA1
namespace Go.Proofs.Ythfildmldppihaa.Pure
open Go.RowKit Go.Proofs.Ythfildmldppihaa.QA Go.Proofs.Ythfildmldppihaa.Gv Go.Proofs.YthfildmldppihaaW.PrintWords Go.Proofs.YthfildmldppihaaW.PrintLast

def LSum : List Int → Int
  | [] => 0
  | x :: l => ((Ga.L x.toNat : Nat) : Int) + LSum l
theorem lsum_app : ∀ a b : List Int, LSum (a ++ b) = LSum a + LSum b
  | [], b => by simp [LSum]
  | x :: a, b => by simp only [List.cons_append, LSum, lsum_app a b]; omega
theorem lsum_bd : ∀ l : List Int, (∀ x ∈ l, 0 ≤ x ∧ x ≤ 255) → 0 ≤ LSum l ∧ LSum l ≤ 30 * l.length
  | [], _ => by simp [LSum]
  | x :: l, h => by
    have h1 := lsum_bd l (fun y hy => h y (List.mem_cons_of_mem _ hy))
    have h2 := h x (List.mem_cons_self ..)
    have h3 := Ga.L_bd x.toNat (by omega)
    simp only [LSum, List.length_cons]
    omega
theorem size_go {l : List Int} (hl : ∀ x ∈ l, 0 ≤ x ∧ x ≤ 255) (hn : l.length ≤ 1000000) : ∀ (j i : Nat) (x : Int) (k : Nat), i + j = l.length → j < k → 0 ≤ x → x ≤ 30 * (i : Int) →
    huff_Size.l0 k x l (l.length : Int) i = some ((x + LSum (l.drop i) + 7) / 8) := by
  intro j
  induction j with
  | zero =>
    intro i x k hi hk hx hx'
    obtain ⟨k, rfl⟩ : ∃ m, k = m + 1 := ⟨k - 1, by omega⟩
    rw [huff_Size.l0, if_neg (by omega), List.drop_eq_nil_of_le (by omega)]
    have h1 : wrap64 (x + 7) = x + 7 := by unfold wrap64; omega
    rw [h1, Int.tdiv_eq_ediv_of_nonneg (by omega)]
    have h2 : wrap64 ((x + 7) / 8) = (x + 7) / 8 := by unfold wrap64; omega
    rw [h2]; simp [LSum]
  | succ j IH =>
    intro i x k hi hk hx hx'
    obtain ⟨k, rfl⟩ : ∃ m, k = m + 1 := ⟨k - 1, by omega⟩
    have hil : i < l.length := by omega
    have c1 : (i : Int) < (l.length : Int) := by omega
    have c2 : (0 : Int) ≤ (i : Int) := by omega
    have c3 : i + 1 + j = l.length := by omega
    have c4 : j < k := by omega
    have hr : rd l i = l[i] := by simp [rd, hil]
    have hb : 0 ≤ rd l i ∧ rd l i ≤ 255 := by rw [hr]; exact hl _ (List.getElem_mem hil)
    have hw : wrap64 (rd l i) = rd l i := by unfold wrap64; omega
    have hL := Ga.L_bd (rd l i).toNat (by omega)
    have hlg : huff_long.f (rd l i) = some ((Ga.L (rd l i).toNat : Nat) : Int) := if_pos (by omega)
    have hd : LSum (l.drop i) = ((Ga.L (rd l i).toNat : Nat) : Int) + LSum (l.drop (i + 1)) := by rw [List.drop_eq_getElem_cons hil, ← hr]; rfl
    obtain ⟨lv, hlv⟩ : ∃ lv, lv = Ga.L (rd l i).toNat := ⟨_, rfl⟩
    rw [← hlv] at hL hlg hd
    clear hlv
    have hx2 : 0 ≤ x + (lv : Int) ∧ x + (lv : Int) ≤ 30 * ((i + 1 : Nat) : Int) := by omega
    have h1 : wrap64 (x + (lv : Int)) = x + (lv : Int) := by unfold wrap64; omega
    have h2 : wrap64 ((i : Int) + 1) = ((i + 1 : Nat) : Int) := by unfold wrap64; omega
    have ih := IH (i + 1) (x + (lv : Int)) k c3 c4 hx2.1 hx2.2
    rw [huff_Size.l0, if_pos c1, if_pos c2, if_pos c1, hw, hlg, Option.bind_some, h1, h2, ih, hd, Int.add_assoc x]
theorem size_ok {l : List Int} (hl : ∀ x ∈ l, 0 ≤ x ∧ x ≤ 255) (hn : l.length ≤ 700) : huff_Size.f 1000 l = some ((LSum l + 7) / 8) := by
  have h := size_go hl (by omega) l.length 0 0 1000 (by omega) (by omega) (by omega) (by omega)
  rw [List.drop_zero, Int.zero_add, Int.natCast_zero] at h
  unfold huff_Size.f
  exact h
theorem awake_at : squintlaw02_awake.f = some true := by kernel_rfl
theorem wf_u8 {l : List Int} (h : ∀ x ∈ l, (Lit.int .u8 x).wf = true) : ∀ x ∈ l, 0 ≤ x ∧ x ≤ 255 := fun x hx => by
  have := h x hx
  unfold Lit.wf at this
  simp only [Bool.and_eq_true, decide_eq_true_eq] at this
  exact ⟨this.1, this.2⟩
theorem HuffBehind : squintlaw02_HuffBehind.Pure := by
  intro a b _ _ ha _ _ hb
  have ha := wf_u8 ha
  have hb := wf_u8 hb
  refine ⟨1001, ?_⟩
  unfold squintlaw02_HuffBehind.f
  by_cases h1 : (a.length : Int) > 300
  · rw [if_pos h1, squintlaw02_HuffBehind.j0, if_pos rfl, awake_at]; rfl
  · rw [if_neg h1]
    by_cases h2 : (b.length : Int) > 300
    · rw [decide_eq_true h2, squintlaw02_HuffBehind.j0, if_pos rfl, awake_at]; rfl
    · have hab : ∀ x ∈ a ++ b, 0 ≤ x ∧ x ≤ 255 := fun x hx => by
        rcases List.mem_append.1 hx with h | h
        · exact ha x h
        · exact hb x h
      have b1 := lsum_bd a ha
      have b2 := lsum_bd b hb
      rw [decide_eq_false h2, squintlaw02_HuffBehind.j0, if_neg (by decide), size_ok ha (by omega), size_ok hb (by omega)]
      show (if ([] : List Int).length + a.length < 140737488355328 then (if (([] : List Int) ++ a).length + b.length < 140737488355328 then ((huff_Size.f 1000 ((([] : List Int) ++ a) ++ b)).bind fun t132 => _) else none) else none) = _
      rw [List.nil_append, if_pos (by simp; omega), if_pos (by omega), size_ok hab (by simp; omega), lsum_app]
      obtain ⟨p, hp⟩ : ∃ p, p = LSum a := ⟨_, rfl⟩
      obtain ⟨q, hq⟩ : ∃ q, q = LSum b := ⟨_, rfl⟩
      rw [← hp] at b1 ⊢
      rw [← hq] at b2 ⊢
      have w1 : wrap64 ((p + 7) / 8 + (q + 7) / 8) = (p + 7) / 8 + (q + 7) / 8 := by unfold wrap64; omega
      have w2 : wrap64 ((p + 7) / 8 + (q + 7) / 8 - 1) = (p + 7) / 8 + (q + 7) / 8 - 1 := by unfold wrap64; omega
      show (if (p + q + 7) / 8 ≤ wrap64 ((p + 7) / 8 + (q + 7) / 8) then (if (p + q + 7) / 8 ≥ wrap64 (wrap64 ((p + 7) / 8 + (q + 7) / 8) - 1) then ((squintlaw02_awake.f).bind fun t133 => some t133) else some false) else some false) = _
      rw [w1, w2, if_pos (by omega), if_pos (by omega), awake_at]; rfl
end Go.Proofs.Ythfildmldppihaa.Pure
