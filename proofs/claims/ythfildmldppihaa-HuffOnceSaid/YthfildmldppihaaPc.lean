/- What the huff functions come to, in plain lists. -/
import Derived.Test.YthfildmldppihaaQ5
import Derived.Test.YthfildmldppihaaQ7
namespace Go.Proofs.Ythfildmldppihaa.Pure
open Go.RowKit Go.Proofs.Ythfildmldppihaa.Q Go.Proofs.Ythfildmldppihaa.Gv Go.Proofs.Ythfildmldppihaa.Ny Go.Proofs.Ythfildmldppihaa.Pt Go.Proofs.YthfildmldppihaaW.PrintWords Go.Proofs.YthfildmldppihaaW.PrintLast
theorem awake2 : squintlaw02_awake.f = some true := by kernel_rfl
theorem byt_wf {l : List Int} (h : ∀ x ∈ l, (Lit.int .u8 x).wf = true) : Byt l := fun x hx => by
  have := h x hx
  unfold Lit.wf at this
  simp only [Bool.and_eq_true, decide_eq_true_eq] at this
  exact ⟨this.1, this.2⟩
theorem rd_byt {l : List Int} (hl : Byt l) {i : Nat} (h : i < l.length) : 0 ≤ rd l i ∧ rd l i ≤ 255 := by
  have hr : rd l i = l[i] := by simp [rd, h]
  rw [hr]; exact hl _ (List.getElem_mem h)
theorem rd_drop {l : List Int} {i : Nat} (h : i < l.length) : l.drop i = rd l i :: l.drop (i + 1) := by
  rw [List.drop_eq_getElem_cons h]; simp [rd, h]
theorem bt_byt {l : List Int} (hl : Byt l) {i : Nat} (h : i < l.length) : bt (strOfNums l) i = rd l i := Ny.bt_str hl h
theorem bits_byt {q : List Int} (h : Bits q) : Byt q := fun x hx => by have := h x hx; omega
theorem str_inj {a b : List Int} (ha : Byt a) (hb : Byt b) (h : (strOfNums a).toList = (strOfNums b).toList) : a = b := by
  rw [Lib.strOfNums_toList, Lib.strOfNums_toList] at h
  unfold Lib.bytesOf at h
  have h2 := congrArg (List.map (fun u : UInt8 => (u.toNat : Int))) h
  rw [List.map_map, List.map_map] at h2
  have key : ∀ l : List Int, Byt l → List.map ((fun u : UInt8 => (u.toNat : Int)) ∘ fun n : Int => UInt8.ofNat n.toNat) l = l := fun l hl => by
    conv => rhs; rw [← List.map_id l]
    apply List.map_congr_left
    intro x hx
    have := hl x hx
    show (((UInt8.ofNat x.toNat).toNat : Nat) : Int) = x
    rw [UInt8.toNat_ofNat']
    omega
  rw [key a ha, key b hb] at h2
  exact h2
/-! ### Bits -/
def pw : Nat → Int
  | 0 => 0
  | e + 1 => 2 ^ e
theorem pw_half (e : Nat) (he : e ≤ 8) : wrap64 (Int.tdiv (pw (e + 1)) 2) = pw e := by
  have hc : e = 0 ∨ e = 1 ∨ e = 2 ∨ e = 3 ∨ e = 4 ∨ e = 5 ∨ e = 6 ∨ e = 7 ∨ e = 8 := by omega
  rcases hc with rfl | rfl | rfl | rfl | rfl | rfl | rfl | rfl | rfl <;> decide +kernel
theorem bit_of (c e : Nat) (hc : c ≤ 255) (_he : e ≤ 8) : (wrap64 (48 + (Int.tmod (wrap64 (Int.tdiv (c : Int) (pw (e + 1)))) 2))) % 256 = ((48 + c / 2 ^ e % 2 : Nat) : Int) := by
  have h1 : Int.tdiv (c : Int) (pw (e + 1)) = ((c / 2 ^ e : Nat) : Int) := by
    show Int.tdiv (c : Int) (2 ^ e) = _
    rw [Int.tdiv_eq_ediv_of_nonneg (by omega), Int.natCast_ediv, Int.natCast_pow]; rfl
  have h2 : c / 2 ^ e ≤ 255 := Nat.le_trans (Nat.div_le_self _ _) hc
  rw [h1]
  obtain ⟨d, hd⟩ : ∃ d, d = c / 2 ^ e := ⟨_, rfl⟩
  rw [← hd] at h2 ⊢
  have h3 : wrap64 (d : Int) = (d : Int) := by unfold wrap64; omega
  rw [h3, Int.tmod_eq_emod_of_nonneg (by omega)]
  have h4 : wrap64 (48 + (d : Int) % 2) = 48 + (d : Int) % 2 := by unfold wrap64; omega
  rw [h4]; omega
theorem pw_pos (e : Nat) : pw (e + 1) > 0 := Int.pow_pos (by decide)
theorem l1_ok (x0 : ByteArray) (x4 : Int) (c : Nat) (hc : c ≤ 255) : ∀ e, e ≤ 8 → ∀ (k : Nat) (x3 : List Int), x3.length + e < 140737488355328 →
    squintref02_Bits.l1 (k + e + 1) x0 x3 x4 (c : Int) (pw e) = squintref02_Bits.l0 k x0 (x3 ++ dig e c) (wrap64 (x4 + 1)) := by
  intro e
  induction e with
  | zero =>
    intro _ k x3 _
    rw [squintref02_Bits.l1, if_neg (by decide), dig, List.append_nil]
  | succ e ih =>
    intro he k x3 hx
    have hp := pw_pos e
    have hlt : x3.length < 140737488355328 := by omega
    have hne : ¬ pw (e + 1) = 0 := by omega
    have hih := ih (by omega) k (x3 ++ [((48 + c / 2 ^ e % 2 : Nat) : Int)]) (by rw [List.length_append, List.length_singleton]; omega)
    rw [squintref02_Bits.l1, if_pos hp, if_neg hne, if_pos hlt, bit_of c e hc (by omega), pw_half e (by omega), show k + (e + 1) = k + e + 1 by omega, hih, dig_cons, List.append_assoc]
    rfl
theorem l0_ok {l : List Int} (hl : Byt l) (hn : l.length ≤ 100000) : ∀ (j i k : Nat) (x3 : List Int), i + j = l.length → 10 * j < k → x3.length ≤ 8 * i →
    squintref02_Bits.l0 k (strOfNums l) x3 i = some (strOfNums (x3 ++ bitsOf (l.drop i))) := by
  intro j
  induction j with
  | zero =>
    intro i k x3 hi hk hx
    obtain ⟨k, rfl⟩ : ∃ m, k = m + 1 := ⟨k - 1, by omega⟩
    have hz : ¬ (i : Int) < ((strOfNums l).size : Int) := by rw [strOfNums_size]; omega
    rw [squintref02_Bits.l0, if_neg hz, List.drop_eq_nil_of_le (by omega), bitsOf, List.append_nil]
  | succ j ih =>
    intro i k x3 hi hk hx
    obtain ⟨m, rfl⟩ : ∃ m, k = (m + 8 + 1) + 1 := ⟨k - 10, by omega⟩
    have hil : i < l.length := by omega
    have hz : (i : Int) < ((strOfNums l).size : Int) := by rw [strOfNums_size]; omega
    have h0 : (0 : Int) ≤ (i : Int) := by omega
    obtain ⟨c1, c2⟩ := rd_byt hl hil
    obtain ⟨c, hc⟩ : ∃ c : Nat, rd l (i : Int) = (c : Int) := ⟨(rd l (i : Int)).toNat, by omega⟩
    have hw : wrap64 (c : Int) = (c : Int) := by unfold wrap64; omega
    have hw2 : wrap64 ((i : Int) + 1) = ((i + 1 : Nat) : Int) := by unfold wrap64; omega
    have h1 := l1_ok (strOfNums l) (i : Int) c (by omega) 8 (Nat.le_refl _) m x3 (by omega)
    have h2 := ih (i + 1) m (x3 ++ dig 8 c) (by omega) (by omega) (by rw [List.length_append, dig_length]; omega)
    rw [squintref02_Bits.l0, if_pos hz, if_pos h0, bt_byt hl hil, hc, hw]
    refine h1.trans ?_
    rw [hw2, h2, rd_drop hil, hc, bitsOf, Int.toNat_natCast, List.append_assoc]
theorem bits_ok {l : List Int} (hl : Byt l) (hn : l.length ≤ 100000) {k : Nat} (hk : 10 * l.length < k) : squintref02_Bits.f k (strOfNums l) = some (strOfNums (bitsOf l)) := by
  have h := l0_ok hl hn l.length 0 k [] (by omega) hk (by simp)
  rw [List.drop_zero, List.nil_append, Int.natCast_zero] at h
  exact h
/-! ### The coder -/
theorem cond_byt {l : List Int} (hl : Byt l) (hn : l.length ≤ 100000) : l.length ≤ 100000 ∧ ∀ i : Nat, i < l.length → 0 ≤ rd l i ∧ rd l i < 256 :=
  ⟨hn, fun i hi => by have := rd_byt hl hi; omega⟩
theorem encode_ok {l : List Int} (hl : Byt l) (hn : l.length ≤ 100000) : huff_Encode.f l = some (enc l) := if_pos (cond_byt hl hn)
theorem decode_ok {l : List Int} (hl : Byt l) (hn : l.length ≤ 100000) : huff_Decode.f l = some (rdec ((bitsOf l).length + 1) (bitsOf l) []) := (if_pos (cond_byt hl hn)).trans (dec_eq l)
theorem text_ok {l : List Int} (hl : Byt l) (hn : l.length ≤ 100000) : squintref02_Text.f (strOfNums l) = some (strOfNums (pad (codesOf l))) := by
  unfold squintref02_Text.f
  rw [if_pos (by rw [strOfNums_size]; exact hn), bs_str hl]
theorem refdec_ok {q : List Int} (hq : Bits q) (hn : q.length ≤ 100000) : squintref02_Decode.f (strOfNums q) = some (strOfNums (rdec (q.length + 1) q []).1, (rdec (q.length + 1) q []).2) := by
  unfold squintref02_Decode.f
  rw [if_pos (by rw [strOfNums_size]; exact hn), bs_str (bits_byt hq), strOfNums_size]
theorem size_go {l : List Int} (hl : Byt l) (hn : l.length ≤ 100000) : ∀ (j i : Nat) (x : Int) (k : Nat), i + j = l.length → j < k → 0 ≤ x → x ≤ 30 * (i : Int) →
    huff_Size.l0 k x l (l.length : Int) i = some ((x + ((codesOf (l.drop i)).length : Int) + 7) / 8) := by
  intro j
  induction j with
  | zero =>
    intro i x k hi hk hx hx'
    obtain ⟨k, rfl⟩ : ∃ m, k = m + 1 := ⟨k - 1, by omega⟩
    have c0 : ¬ (i : Int) < (l.length : Int) := by omega
    have h1 : wrap64 (x + 7) = x + 7 := by unfold wrap64; omega
    have h2 : wrap64 ((x + 7) / 8) = (x + 7) / 8 := by unfold wrap64; omega
    have h3 : (0 : Int) ≤ x + 7 := by omega
    rw [huff_Size.l0, if_neg c0, List.drop_eq_nil_of_le (by omega), h1, Int.tdiv_eq_ediv_of_nonneg h3, h2]
    simp [codesOf]
  | succ j IH =>
    intro i x k hi hk hx hx'
    obtain ⟨k, rfl⟩ : ∃ m, k = m + 1 := ⟨k - 1, by omega⟩
    have hil : i < l.length := by omega
    have c1 : (i : Int) < (l.length : Int) := by omega
    have c2 : (0 : Int) ≤ (i : Int) := by omega
    have c3 : i + 1 + j = l.length := by omega
    have c4 : j < k := by omega
    have hb := rd_byt hl hil
    have hw : wrap64 (rd l i) = rd l i := by unfold wrap64; omega
    have hL := Ga.L_bd (rd l i).toNat (by omega)
    have hlg : huff_long.f (rd l i) = some ((Ga.L (rd l i).toNat : Nat) : Int) := if_pos (by omega)
    have hd : ((codesOf (l.drop i)).length : Int) = ((Ga.L (rd l i).toNat : Nat) : Int) + ((codesOf (l.drop (i + 1))).length : Int) := by
      rw [rd_drop hil, codesOf, List.length_append, code_len]; omega
    obtain ⟨lv, hlv⟩ : ∃ lv, lv = Ga.L (rd l i).toNat := ⟨_, rfl⟩
    rw [← hlv] at hL hlg hd
    clear hlv
    have hx2 : 0 ≤ x + (lv : Int) ∧ x + (lv : Int) ≤ 30 * ((i + 1 : Nat) : Int) := by omega
    have h1 : wrap64 (x + (lv : Int)) = x + (lv : Int) := by unfold wrap64; omega
    have h2 : wrap64 ((i : Int) + 1) = ((i + 1 : Nat) : Int) := by unfold wrap64; omega
    have ih := IH (i + 1) (x + (lv : Int)) k c3 c4 hx2.1 hx2.2
    rw [huff_Size.l0, if_pos c1, if_pos c2, if_pos c1, hw, hlg, Option.bind_some, h1, h2, ih, hd, Int.add_assoc x]
theorem size_ok {l : List Int} (hl : Byt l) (hn : l.length ≤ 100000) {k : Nat} (hk : l.length < k) : huff_Size.f k l = some ((enc l).length : Int) := by
  have h := size_go hl hn l.length 0 0 k (by omega) hk (by omega) (by omega)
  rw [List.drop_zero, Int.zero_add, Int.natCast_zero] at h
  unfold huff_Size.f
  rw [h, enc_len hl]
  exact congrArg some (by omega)
theorem enc_size {l : List Int} (hl : Byt l) : (enc l).length ≤ 4 * l.length + 1 := by
  have h1 := codesOf_bd l hl
  rw [enc_len hl]; omega
end Go.Proofs.Ythfildmldppihaa.Pure
