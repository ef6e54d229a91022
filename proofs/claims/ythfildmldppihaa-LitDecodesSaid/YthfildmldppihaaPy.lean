/- squintref03.Decode in plain numbers; no condition beyond those in each statement. -/
import Derived.Test.YthfildmldppihaaPx
import Derived.Test.YthfildmldppihaaQ9
namespace Go.Proofs.Ythfildmldppihaa.Px
open Go.RowKit Go.Proofs.Ythfildmldppihaa.Q Go.Proofs.YthfildmldppihaaW.PrintWords Go.Proofs.YthfildmldppihaaW.PrintLast Go.Proofs.YthfildmldppihaaW.PrintMore
theorem refDec_go {l : List Int} (hl : Okb l) (_hn : l.length ≤ 140737488351232) (j : Nat) : ∀ (i : Nat) (x : Int) (k : Nat), i + j = 5 → 0 ≤ x → x ≤ 2147483647 → j < k → squintref03_Decode.l0 k (strOfNums l) x (128 ^ i) (i + 1) = some (dec (l.drop (i + 1)) x (128 ^ i) i) := by
  have hz : ((strOfNums l).size : Int) = l.length := by rw [strOfNums_size]
  induction j with
  | zero =>
    intro i x k hi hx hx' hk
    obtain ⟨k, rfl⟩ : ∃ m, k = m + 1 := ⟨k - 1, by omega⟩
    rw [squintref03_Decode.l0, hz, if_pos (by omega)]
    by_cases h : i + 1 < l.length
    · rw [if_neg (by omega), if_pos (by omega), rd_drop h, dec, if_pos (by omega)]
    · rw [if_pos (by omega), List.drop_of_length_le (by omega)]; rfl
  | succ j ih =>
    intro i x k hi hx hx' hk
    obtain ⟨k, rfl⟩ : ∃ m, k = m + 1 := ⟨k - 1, by omega⟩
    rw [squintref03_Decode.l0, hz, if_pos (by omega)]
    by_cases h : i + 1 < l.length
    · have hc := rd_okb hl h
      have hb := pw_bd (i := i) (by omega)
      have ht := term_bd hc.1 hb.1 hb.2
      have hdec : dec (l.drop (i + 1)) x (128 ^ i) i = if x + rd l (i + 1 : Nat) % 128 * 128 ^ i > 2147483647 then (0, 0, 22) else if rd l (i + 1 : Nat) < 128 then (x + rd l (i + 1 : Nat) % 128 * 128 ^ i, (i : Int) + 2, 0) else dec (l.drop (i + 1 + 1)) (x + rd l (i + 1 : Nat) % 128 * 128 ^ i) (128 ^ i * 128) (i + 1) := by
        rw [rd_drop h, dec, if_neg (by omega)]
      rw [hdec, if_neg (by omega), if_neg (by omega), if_pos (by omega), if_pos (by omega)]
      rw [show ((i : Int) + 1) = ((i + 1 : Nat) : Int) by omega, bt_str hl h, w64 (x := rd l _) (by omega) (by omega), tmod_ok hc.1, w64 (x := rd l _ % 128 * _) (by omega) (by omega), w64 (x := x + _) (by omega) (by omega), w64 (x := 128 ^ i * 128) (by omega) (by omega), w64 (x := ((i + 1 : Nat) : Int) + 1) (by omega) (by omega)]
      split
      · rfl
      · split
        · congr 3
        · rw [← Int.pow_succ, ih (i + 1) _ k (by omega) (by omega) (by omega) (by omega)]
    · rw [if_pos (by omega), List.drop_of_length_le (by omega)]; rfl
theorem refDecode {l : List Int} {b : Int} (hl : Okb l) (hn : l.length ≤ 140737488351232) (h0 : 1 ≤ b) (h1 : b ≤ 8) {k : Nat} (hk : 10 ≤ k) : squintref03_Decode.f k (strOfNums l) b = some (decode l b) := by
  have hb := P2_bd (b := b) (by omega) h1
  have hz : ((strOfNums l).size : Int) = l.length := by rw [strOfNums_size]
  unfold squintref03_Decode.f
  rw [hz]
  by_cases h : l.length = 0
  · rw [if_pos (by omega), List.length_eq_zero_iff.1 h]; rfl
  · have hc : 0 ≤ rd l 0 ∧ rd l 0 ≤ 255 := rd_okb hl (i := 0) (by omega)
    have hd := rd_drop (l := l) (i := 0) (by omega)
    rw [List.drop_zero] at hd
    have hm : 0 ≤ rd l 0 % P2 b ∧ rd l 0 % P2 b < P2 b := ⟨Int.emod_nonneg _ (by omega), Int.emod_lt_of_pos _ (by omega)⟩
    have hq : decode l b = if rd l 0 % P2 b < P2 b - 1 then (rd l 0 % P2 b, 1, 0) else dec (l.drop 1) (rd l 0 % P2 b) 1 0 := by
      conv => lhs; rw [hd]
      rfl
    have hbt : bt (strOfNums l) 0 = rd l 0 := bt_str hl (i := 0) (by omega)
    rw [if_neg (by omega), pow_ok (by omega) h1 hk]; simp only [Option.bind_some]
    rw [if_pos (by omega), if_neg (by omega), hbt, w64 (x := rd l 0) (by omega) (by omega), tmod_ok hc.1, w64 (x := P2 b - 1) (by omega) (by omega), hq]
    split
    · rfl
    · exact refDec_go hl hn 5 0 _ k (by omega) hm.1 (by omega) (by omega)

end Go.Proofs.Ythfildmldppihaa.Px
