/- CleanLower answers true at every text; no condition. -/
import Derived.Test.YthmdkkhcpdbdgaaCf
import Derived.Test.YthmdkkhcpdbdgaaQ6
namespace Go.Proofs.Ythmdkkhcpdbdgaa.Pure
open Go.RowKit Go.Proofs.Ythmdkkhcpdbdgaa.Gv Go.Proofs.Ythmdkkhcpdbdgaa.Q Go.Proofs.Ythmdkkhcpdbdgaa.Cl Go.Proofs.YthmdkkhcpdbdgaaW.PrintWords Go.Proofs.YthmdkkhcpdbdgaaW.PrintLast Go.Proofs.YthmdkkhcpdbdgaaW.PrintMore

theorem lowI_bd {x : Int} (h : 0 ≤ x ∧ x ≤ 255) : 0 ≤ lowI x ∧ lowI x ≤ 255 := by unfold lowI; split <;> omega
theorem low_bt {s : ByteArray} {i : Nat} (h : i < s.size) : bt (strOfNums (lowOf s)) i = lowI (bt s i) := by
  have hl : i < (lowOf s).length := by rw [lowOf_length]; exact h
  have hs : i < (strOfNums (lowOf s)).size := by rw [strOfNums_size]; exact hl
  have hd : i < s.data.toList.length := by rw [← Lib.size_eq]; exact h
  have hb := bt_bd s i
  have hq := lowI_bd hb
  rw [bt_in hs]
  have e : (strOfNums (lowOf s))[i]'hs = UInt8.ofNat ((lowOf s)[i]).toNat := by
    simp [strOfNums, ByteArray.getElem_eq_getElem_data]
  have e2 : (lowOf s)[i] = lowI (bt s i) := by
    have := lowOf_at s i h
    rw [List.getD_eq_getElem?_getD, List.getElem?_eq_getElem hl] at this
    refine Eq.trans this ?_
    unfold lowAt byteAt
    rw [if_pos h, bt_in h, List.getD_eq_getElem?_getD, List.getElem?_eq_getElem hd]; rfl
  rw [e, e2, UInt8.toNat_ofNat']
  omega
theorem lowI_twice (x : Int) : lowI (lowI x) = lowI x := by
  unfold lowI
  repeat' split
  all_goals omega
theorem bytes_ext {a b : ByteArray} (hs : a.size = b.size) (h : ∀ i, i < a.size → bt a i = bt b i) : a = b := by
  apply ByteArray.ext
  apply Array.ext
  · exact hs
  · intro i h1 h2
    have := h i h1
    rw [bt_in h1, bt_in (s := b) h2] at this
    exact UInt8.toNat_inj.1 (by simpa [ByteArray.getElem_eq_getElem_data] using (show (a[i]'h1).toNat = (b[i]'h2).toNat by omega))
theorem low_size (s : ByteArray) : (strOfNums (lowOf s)).size = s.size := by rw [strOfNums_size, lowOf_length]
theorem low_twice (s : ByteArray) : strOfNums (lowOf (strOfNums (lowOf s))) = strOfNums (lowOf s) := by
  refine bytes_ext (low_size _) fun i hi => ?_
  rw [low_size, low_size] at hi
  rw [low_bt (by rw [low_size]; exact hi), low_bt hi, lowI_twice]
theorem lower_loop {s : ByteArray} (hs : s.size ≤ 3000) (d : Nat) : ∀ (i k : Nat), i + d = s.size → 4000 + 2 * d < k → squintlaw21_CleanLower.l0 k s (strOfNums (lowOf s)) (s.size : Int) i = some true := by
  have hz := low_size s
  induction d with
  | zero =>
    intro i k hi hk
    obtain ⟨k, rfl⟩ : ∃ m, k = m + 1 := ⟨k - 1, by omega⟩
    rw [squintlaw21_CleanLower.l0, if_neg (by omega), name_ok (by omega) (by omega)]; simp only [Option.bind_some]
    rw [refName_ok (by omega)]; simp only [Option.bind_some]
    rw [if_pos (beq_self_eq_true _), awake (by omega)]; rfl
  | succ d ih =>
    intro i k hi hk
    obtain ⟨k, rfl⟩ : ∃ m, k = m + 2 := ⟨k - 2, by omega⟩
    have hb := bt_bd s i
    have hl := low_bt (s := s) (i := i) (by omega)
    have go : squintlaw21_CleanLower.l0 k s (strOfNums (lowOf s)) (s.size : Int) (wrap64 ((i : Int) + 1)) = some true := by
      rw [w64 (by omega) (by omega)]; exact ih (i + 1) k (by omega) (by omega)
    have no : ¬ (65 ≤ bt s i ∧ bt s i ≤ 90) → squintlaw21_CleanLower.j2 (k + 1) s (strOfNums (lowOf s)) i (bt s i) (s.size : Int) i false = some true := fun q => by
      rw [squintlaw21_CleanLower.j2, if_neg (by decide), if_pos (by omega), if_pos (by omega), hl]
      unfold lowI; rw [if_neg q, if_pos rfl]; exact go
    rw [squintlaw21_CleanLower.l0, if_pos (by omega), if_pos (by omega), if_pos (by omega)]
    by_cases h1 : bt s i ≥ 65
    · rw [if_pos h1]
      by_cases h2 : bt s i ≤ 90
      · have hlow : lowI (bt s i) = bt s i + 32 := by unfold lowI; rw [if_pos ⟨h1, h2⟩]
        rw [decide_eq_true h2, squintlaw21_CleanLower.j2, if_pos rfl, if_pos (by omega), if_pos (by omega), hl, hlow, if_pos (by omega)]; exact go
      · rw [decide_eq_false h2]; exact no (by omega)
    · rw [if_neg h1]; exact no (by omega)
theorem CleanLower : squintlaw21_CleanLower.Pure := by
  intro s _
  refine ⟨20001, ?_⟩
  unfold squintlaw21_CleanLower.f
  by_cases h : (s.size : Int) > 3000
  · rw [if_pos h, awake (by decide)]; rfl
  · have hz := low_size s
    have h1 : clean_Lower.f s = some (strOfNums (lowOf s)) := by unfold clean_Lower.f; rw [if_pos (by omega)]
    have h2 : clean_Lower.f (strOfNums (lowOf s)) = some (strOfNums (lowOf s)) := by unfold clean_Lower.f; rw [if_pos (by omega), low_twice]
    rw [if_neg h, h1]; simp only [Option.bind_some]
    rw [if_pos (by omega), h2]; simp only [Option.bind_some]
    rw [bne_self_eq_false, squintlaw21_CleanLower.j0, if_neg (by decide)]
    exact lower_loop (by omega) s.size 0 20000 (by omega) (by omega)

end Go.Proofs.Ythmdkkhcpdbdgaa.Pure
