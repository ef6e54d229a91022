/- The document's coding of a text, in plain lists. -/
import Derived.Test.YthfildmldppihaaPl
namespace Go.Proofs.Ythfildmldppihaa.Pure
open Go.RowKit Go.Proofs.Ythfildmldppihaa.Q Go.Proofs.Ythfildmldppihaa.Gv Go.Proofs.Ythfildmldppihaa.Ny Go.Proofs.Ythfildmldppihaa.Pt Go.Proofs.YthfildmldppihaaW.PrintWords Go.Proofs.YthfildmldppihaaW.PrintLast
theorem drop_bits : ∀ (m : List Int) (i : Nat), (bitsOf m).drop (8 * i) = bitsOf (m.drop i)
  | m, 0 => rfl
  | [], i + 1 => by simp [bitsOf]
  | x :: m, i + 1 => by
    rw [bitsOf, show 8 * (i + 1) = 8 + 8 * i by omega, ← List.drop_drop, List.drop_left' (dig_length _ _), drop_bits m i, List.drop_succ_cons]
theorem rd_bits {m : List Int} (_hm : Byt m) {i e : Nat} (hi : i < m.length) (he : e < 8) : rd (bitsOf m) ((8 * i + e : Nat) : Int) = ((48 + (rd m i).toNat / 2 ^ (7 - e) % 2 : Nat) : Int) := by
  have h1 : (bitsOf m)[8 * i + e]? = (bitsOf (m.drop i))[e]? := by rw [← drop_bits, List.getElem?_drop]
  have h2 : (bitsOf (m.drop i))[e]? = (dig 8 (rd m i).toNat)[e]? := by
    rw [rd_drop hi, bitsOf, List.getElem?_append_left (by rw [dig_length]; exact he)]
  have h3 := dig_at 8 (rd m i).toNat e he
  unfold rd at h3
  rw [Int.toNat_natCast, List.getD_eq_getElem?_getD] at h3
  unfold rd
  rw [Int.toNat_natCast, List.getD_eq_getElem?_getD, h1, h2]
  exact h3
theorem byte_step (c e : Nat) (hc : c ≤ 255) (he : e < 8) : c / 2 ^ (8 - e) * 2 + c / 2 ^ (7 - e) % 2 = c / 2 ^ (8 - (e + 1)) := by
  have hh : e = 0 ∨ e = 1 ∨ e = 2 ∨ e = 3 ∨ e = 4 ∨ e = 5 ∨ e = 6 ∨ e = 7 := by omega
  rcases hh with rfl | rfl | rfl | rfl | rfl | rfl | rfl | rfl <;> simp only [Nat.reduceSub, Nat.reducePow, Nat.reduceAdd] <;> omega
theorem b1_ok {m : List Int} (hm : Byt m) (hn : m.length ≤ 100000) {i : Nat} (hi : i < m.length) (x3 : List Int) (hx : x3.length < 140737488355328) : ∀ (j e k : Nat), e + j = 8 →
    squintref04_bytes.l1 (k + j + 1) (strOfNums (bitsOf m)) x3 ((8 * i : Nat) : Int) (((rd m i).toNat / 2 ^ (8 - e) : Nat) : Int) (e : Int) = squintref04_bytes.l0 k (strOfNums (bitsOf m)) (x3 ++ [rd m i]) ((8 * (i + 1) : Nat) : Int) := by
  have hr := rd_byt hm hi
  obtain ⟨c, hc⟩ : ∃ c : Nat, rd m (i : Int) = (c : Int) := ⟨(rd m (i : Int)).toNat, by omega⟩
  intro j
  induction j with
  | zero =>
    intro e k he
    obtain rfl : e = 8 := by omega
    have c0 : ¬ ((8 : Nat) : Int) < 8 := by omega
    have w1 : wrap64 (((8 * i : Nat) : Int) + 8) = ((8 * (i + 1) : Nat) : Int) := by unfold wrap64; omega
    rw [squintref04_bytes.l1, if_neg c0, if_pos hx, w1, hc, Int.toNat_natCast]
    have e1 : ((c / 2 ^ (8 - 8) : Nat) : Int) % 256 = (c : Int) := by rw [Nat.sub_self, Nat.pow_zero, Nat.div_one]; omega
    rw [e1]
  | succ j ih =>
    intro e k he
    have c0 : (e : Int) < 8 := by omega
    have w1 : wrap64 (((8 * i : Nat) : Int) + (e : Int)) = ((8 * i + e : Nat) : Int) := by unfold wrap64; omega
    have c1 : (0 : Int) ≤ ((8 * i + e : Nat) : Int) := by omega
    have hbl := bitsOf_len m
    have c2 : ((8 * i + e : Nat) : Int) < ((strOfNums (bitsOf m)).size : Int) := by rw [strOfNums_size]; omega
    have hb : bt (strOfNums (bitsOf m)) ((8 * i + e : Nat) : Int) = ((48 + c / 2 ^ (7 - e) % 2 : Nat) : Int) := by
      rw [bt_byt (bits_byt (bits_bitsOf m)) (by omega), rd_bits hm hi (by omega), hc, Int.toNat_natCast]
    have hih := ih (e + 1) k (by omega)
    rw [hc, Int.toNat_natCast] at hih ⊢
    have hcb : c ≤ 255 := by omega
    have hst := byte_step c e hcb (by omega)
    have hq : c / 2 ^ (8 - e) ≤ 255 := Nat.le_trans (Nat.div_le_self _ _) hcb
    obtain ⟨q, hqd⟩ : ∃ q, q = c / 2 ^ (8 - e) := ⟨_, rfl⟩
    obtain ⟨d, hdd⟩ : ∃ d, d = c / 2 ^ (7 - e) % 2 := ⟨_, rfl⟩
    have hd2 : d < 2 := by omega
    rw [← hqd, ← hdd] at hst
    rw [← hqd] at hq ⊢
    rw [← hdd] at hb
    have w2 : wrap64 ((q : Int) * 2) = (q : Int) * 2 := by unfold wrap64; omega
    have w3 : wrap64 ((q : Int) * 2 + (((48 + d : Nat) : Int) - 48) % 256) = ((q * 2 + d : Nat) : Int) := by unfold wrap64; omega
    have w4 : wrap64 ((e : Int) + 1) = ((e + 1 : Nat) : Int) := by unfold wrap64; omega
    rw [squintref04_bytes.l1, if_pos c0, w1, if_pos c1, if_pos c2, hb, w2, w3, w4, hst]
    exact hih
theorem b0_ok {m : List Int} (hm : Byt m) (hn : m.length ≤ 100000) : ∀ (j i k : Nat) (x3 : List Int), i + j = m.length → 10 * j < k → x3 = m.take i →
    squintref04_bytes.l0 k (strOfNums (bitsOf m)) x3 ((8 * i : Nat) : Int) = some (strOfNums m) := by
  have hbl := bitsOf_len m
  intro j
  induction j with
  | zero =>
    intro i k x3 hi hk hx
    obtain ⟨k, rfl⟩ : ∃ m, k = m + 1 := ⟨k - 1, by omega⟩
    have w1 : wrap64 (((8 * i : Nat) : Int) + 8) = ((8 * i + 8 : Nat) : Int) := by unfold wrap64; omega
    have c0 : ¬ ((8 * i + 8 : Nat) : Int) ≤ ((strOfNums (bitsOf m)).size : Int) := by rw [strOfNums_size]; omega
    rw [squintref04_bytes.l0, w1, if_neg c0, hx, List.take_of_length_le (by omega)]
  | succ j ih =>
    intro i k x3 hi hk hx
    obtain ⟨p, rfl⟩ : ∃ p, k = (p + 8 + 1) + 1 := ⟨k - 10, by omega⟩
    have hil : i < m.length := by omega
    have hr := rd_byt hm hil
    have w1 : wrap64 (((8 * i : Nat) : Int) + 8) = ((8 * i + 8 : Nat) : Int) := by unfold wrap64; omega
    have c0 : ((8 * i + 8 : Nat) : Int) ≤ ((strOfNums (bitsOf m)).size : Int) := by rw [strOfNums_size]; omega
    have h1 := b1_ok hm hn hil x3 (by rw [hx, List.length_take]; omega) 8 0 p (by omega)
    have e0 : (rd m (i : Int)).toNat / 2 ^ (8 - 0) = 0 := Nat.div_eq_of_lt (by omega)
    rw [e0] at h1
    have h2 := ih (i + 1) p (x3 ++ [rd m (i : Int)]) (by omega) (by omega) (by
      rw [hx, List.take_add_one, List.getElem?_eq_getElem hil]
      congr 1
      simp [rd, hil])
    rw [squintref04_bytes.l0, w1, if_pos c0]
    exact h1.trans h2
theorem refbytes_ok {m : List Int} (hm : Byt m) (hn : m.length ≤ 100000) {k : Nat} (hk : 10 * m.length < k) : squintref04_bytes.f k (strOfNums (bitsOf m)) = some (strOfNums m) := by
  have h := b0_ok hm hn m.length 0 k [] (by omega) hk rfl
  exact h
theorem refencode_lit {l : List Int} (hl : Byt l) (hn : l.length ≤ 4096) (c : Bool) {k : Nat} (hk : 200000 < k) : squintref04_Encode.f k (strOfNums l) (if c = true then 1 else 0) = some (strOfNums (lenc l c)) := by
  have hes := enc_size hl
  unfold squintref04_Encode.f lenc
  cases c with
  | true =>
    have h1 := penc_len (n := ((enc l).length : Int)) (m := 1) (by omega) (by omega) (by omega) (by omega)
    have hz : ((strOfNums (enc l)).size : Int) = ((enc l).length : Int) := by rw [strOfNums_size]
    have hb := refbytes_ok (enc_byt l) (by omega) (show 10 * (enc l).length < k by omega)
    rw [enc_bits hl] at hb
    have h2 : (strOfNums (Px.enc ((enc l).length : Int) 7 1)).size + (strOfNums (enc l)).size ≤ 9223372036854775807 := by rw [strOfNums_size, strOfNums_size]; omega
    rw [if_pos rfl, if_pos rfl, text_ok hl (by omega), Option.bind_some, hb, Option.bind_some, hz, Px.refEncode (right7 (by omega) (by omega) (by omega) (by omega)) (by omega), Option.bind_some, if_pos h2, str_app]
    rfl
  | false =>
    have h1 := penc_len (n := (l.length : Int)) (m := 0) (by omega) (by omega) (by omega) (by omega)
    have hz : ((strOfNums l).size : Int) = (l.length : Int) := by rw [strOfNums_size]
    have h2 : (strOfNums (Px.enc (l.length : Int) 7 0)).size + (strOfNums l).size ≤ 9223372036854775807 := by rw [strOfNums_size, strOfNums_size]; omega
    rw [if_neg (by decide), if_neg (by decide), hz, Px.refEncode (right7 (by omega) (by omega) (by omega) (by omega)) (by omega), Option.bind_some, if_pos h2, str_app]
    rfl
end Go.Proofs.Ythfildmldppihaa.Pure
