/- LitDecodes' plain law; no condition. -/
import Derived.Test.YthfildmldppihaaQ9
import Derived.Test.YthfildmldppihaaPl
import Derived.Test.YthfildmldppihaaPy
namespace Go.Proofs.Ythfildmldppihaa.Pure
open Go.RowKit Go.Proofs.Ythfildmldppihaa.Q Go.Proofs.Ythfildmldppihaa.Gv Go.Proofs.Ythfildmldppihaa.Pt Go.Proofs.YthfildmldppihaaW.PrintWords Go.Proofs.YthfildmldppihaaW.PrintLast
theorem extract_str (b : List Int) (x y : Nat) : (strOfNums b).extract x y = strOfNums ((b.take y).drop x) := by
  apply ByteArray.ext
  apply Array.toList_inj.1
  rw [ByteArray.data_extract]
  show ((strOfNums b).data.extract x y).toList = (strOfNums ((b.take y).drop x)).data.toList
  rw [Array.toList_extract, List.extract_eq_take_drop, strOfNums_data, strOfNums_data, List.map_drop, List.map_take, List.drop_take]
theorem refdecode_lit {b : List Int} (hb : Byt b) (hn : b.length ≤ 10000) (lim : Int) {k : Nat} (hk : 10 * b.length + 10 < k) :
    squintref04_Decode.f k (strOfNums b) lim = some (strOfNums (ldec b lim).1, (ldec b lim).2.1, (ldec b lim).2.2) := by
  have hd := Px.refDecode (b := 7) hb (by omega) (by omega) (by omega) (show 10 ≤ k by omega)
  have hf := decode_facts hb
  have hz : ((strOfNums b).size : Int) = (b.length : Int) := by rw [strOfNums_size]
  unfold squintref04_Decode.f ldec
  rw [hd, Option.bind_some, hz]
  obtain ⟨⟨n, at', e⟩, hD⟩ : ∃ D, D = Px.decode b 7 := ⟨_, rfl⟩
  rw [← hD] at hf ⊢
  dsimp only at hf ⊢
  by_cases he : e = 0
  · obtain ⟨f0, f1, f2, f3, f4⟩ := hf he
    have w2 : wrap64 (at' + n) = at' + n := by unfold wrap64; omega
    rw [if_pos he, if_pos he, w2]
    by_cases hs : n > (b.length : Int) - at'
    · have hs' : at' + n > (b.length : Int) := by omega
      rw [if_pos hs, if_pos hs']; rfl
    · have hs' : ¬ at' + n > (b.length : Int) := by omega
      have c1 : (0 : Int) ≤ at' := by omega
      have c2 : at' ≤ at' + n := by omega
      have c3 : at' + n ≤ (b.length : Int) := by omega
      have c4 : (0 : Int) < (b.length : Int) := by omega
      have hsl := stretch_len c1 c2 c3
      have hsb := byt_stretch hb at'.toNat (at' + n).toNat
      rw [if_neg hs, if_neg hs', if_pos c1, if_pos c2, if_pos c3, if_pos c4, extract_str]
      have hbt : bt (strOfNums b) 0 = rd b 0 := bt_byt hb (i := 0) (by omega)
      have hr0 := rd_byt hb (i := 0) (by omega)
      obtain ⟨c, hc⟩ : ∃ c, c = rd b 0 := ⟨_, rfl⟩
      rw [Int.natCast_zero, ← hc] at hr0
      rw [hbt, ← hc]
      obtain ⟨s, hsd⟩ : ∃ s, s = (b.take (at' + n).toNat).drop at'.toNat := ⟨_, rfl⟩
      rw [← hsd] at hsl hsb ⊢
      unfold lbody
      by_cases h128 : c ≥ 128
      · have hc1 : c / 128 = 1 := by omega
        have hbl := bitsOf_len s
        rw [if_pos h128, if_pos hc1, bits_ok hsb (by omega) (by omega), Option.bind_some, refdec_ok (bits_bitsOf s) (by omega), Option.bind_some]
        dsimp only
        by_cases h0 : (rdec ((bitsOf s).length + 1) (bitsOf s) []).2 = 0
        · rw [if_pos h0, if_pos h0, strOfNums_size]
          split <;> rfl
        · rw [if_neg h0, if_neg h0]; rfl
      · have hc1 : ¬ c / 128 = 1 := by omega
        rw [if_neg h128, if_neg hc1, strOfNums_size]
        split <;> rfl
  · rw [if_neg he, if_neg he]; rfl
theorem LitDecodes : squintlaw04_LitDecodes.Pure := by
  intro b lim _ _ hw _
  have hb := byt_wf hw
  obtain ⟨k, hk⟩ : ∃ k, 10000 < k := ⟨10001, by omega⟩
  refine ⟨k, ?_⟩
  unfold squintlaw04_LitDecodes.f
  by_cases h80 : (b.length : Int) > 80
  · rw [if_pos h80, awake4 (by omega)]; rfl
  · rw [if_neg h80, decode_lit hb (by omega) lim (by omega), Option.bind_some, refdecode_lit hb (by omega) lim (by omega), Option.bind_some]
    dsimp only
    rw [if_pos rfl, if_pos rfl, if_pos rfl, awake4 (by omega)]; rfl
end Go.Proofs.Ythfildmldppihaa.Pure
