/- The prefix functions in plain numbers: what each comes to; conditions as each statement says. -/
import Derived.Test.YthfildmldppihaaQ2
import Derived.Test.YthfildmldppihaaQ3
namespace Go.Proofs.Ythfildmldppihaa.Px
open Go.RowKit Go.Proofs.Ythfildmldppihaa.Q Go.Proofs.YthfildmldppihaaW.PrintWords Go.Proofs.YthfildmldppihaaW.PrintLast Go.Proofs.YthfildmldppihaaW.PrintMore

theorem w64 {x : Int} (h0 : -9223372036854775808 ≤ x) (h1 : x < 9223372036854775808) : wrap64 x = x := by unfold wrap64; omega
theorem tmod_ok {a b : Int} (h : 0 ≤ a) : Int.tmod a b = a % b := Int.tmod_eq_emod_of_nonneg h
theorem tdiv_ok {a b : Int} (h : 0 ≤ a) : Int.tdiv a b = a / b := Int.tdiv_eq_ediv_of_nonneg h

/-- Two, so many times. -/
def P2 (b : Int) : Int := 2 ^ b.toNat
theorem bit8 {b : Int} (h0 : 1 ≤ b) (h1 : b ≤ 8) : b = 1 ∨ b = 2 ∨ b = 3 ∨ b = 4 ∨ b = 5 ∨ b = 6 ∨ b = 7 ∨ b = 8 := by omega
theorem P2_bd {b : Int} (h0 : 0 ≤ b) (h1 : b ≤ 8) : 1 ≤ P2 b ∧ P2 b ≤ 256 := by
  have : b = 0 ∨ b = 1 ∨ b = 2 ∨ b = 3 ∨ b = 4 ∨ b = 5 ∨ b = 6 ∨ b = 7 ∨ b = 8 := by omega
  rcases this with rfl | rfl | rfl | rfl | rfl | rfl | rfl | rfl | rfl <;> decide
theorem P2_mul {b : Int} (h0 : 0 ≤ b) (h1 : b ≤ 8) : P2 (8 - b) * P2 b = 256 := by
  have : b = 0 ∨ b = 1 ∨ b = 2 ∨ b = 3 ∨ b = 4 ∨ b = 5 ∨ b = 6 ∨ b = 7 ∨ b = 8 := by omega
  rcases this with rfl | rfl | rfl | rfl | rfl | rfl | rfl | rfl | rfl <;> decide
theorem P2_succ {b : Int} (h0 : 1 ≤ b) (h1 : b ≤ 7) : P2 (b + 1) = 2 * P2 b := by
  have : b = 1 ∨ b = 2 ∨ b = 3 ∨ b = 4 ∨ b = 5 ∨ b = 6 ∨ b = 7 := by omega
  rcases this with rfl | rfl | rfl | rfl | rfl | rfl | rfl <;> decide
theorem full_ok {b : Int} (h0 : 0 ≤ b) (h1 : b ≤ 8) : prefix_full.f b = some (P2 b - 1) := by
  have : b = 0 ∨ b = 1 ∨ b = 2 ∨ b = 3 ∨ b = 4 ∨ b = 5 ∨ b = 6 ∨ b = 7 ∨ b = 8 := by omega
  rcases this with rfl | rfl | rfl | rfl | rfl | rfl | rfl | rfl | rfl <;> decide +kernel
theorem right_yes {b : Int} (h0 : 1 ≤ b) (h1 : b ≤ 8) : prefix_right.f b = some true := by
  unfold prefix_right.f; rw [if_pos h0, decide_eq_true h1]
theorem right_no {b : Int} (h : ¬ (1 ≤ b ∧ b ≤ 8)) : prefix_right.f b = some false := by
  unfold prefix_right.f
  split
  · rw [decide_eq_false (by omega)]
  · rfl
theorem pow_go (j : Nat) : ∀ (n i x : Int) (k : Nat), 0 ≤ i → i + j = n → n ≤ 62 → x = 2 ^ i.toNat → j < k → squintref03_pow.l0 k n x i = some (P2 n) := by
  induction j with
  | zero =>
    intro n i x k hi hj hn hx hk
    obtain ⟨k, rfl⟩ : ∃ m, k = m + 1 := ⟨k - 1, by omega⟩
    rw [squintref03_pow.l0, if_neg (by omega), hx]; unfold P2; congr 2; omega
  | succ j ih =>
    intro n i x k hi hj hn hx hk
    obtain ⟨k, rfl⟩ : ∃ m, k = m + 1 := ⟨k - 1, by omega⟩
    have hb : (2 : Int) ^ i.toNat ≤ 2 ^ 61 := by
      have h2 : (2 : Nat) ^ i.toNat ≤ 2 ^ 61 := Nat.pow_le_pow_right (by decide) (by omega)
      exact_mod_cast h2
    have hp : (0 : Int) < 2 ^ i.toNat := Int.pow_pos (by decide)
    rw [squintref03_pow.l0, if_pos (by omega), w64 (x := x * 2) (by omega) (by rw [hx]; omega), w64 (x := i + 1) (by omega) (by omega)]
    refine ih n (i + 1) (x * 2) k (by omega) (by omega) hn ?_ (by omega)
    rw [hx, show (i + 1).toNat = i.toNat + 1 by omega, Int.pow_succ]
theorem pow_ok {n : Int} (h0 : 0 ≤ n) (h1 : n ≤ 8) {k : Nat} (hk : 10 ≤ k) : squintref03_pow.f k n = some (P2 n) := by
  unfold squintref03_pow.f
  exact pow_go n.toNat n 0 1 k (Int.le_refl _) (by omega) (by omega) rfl (by omega)

/-- May a number, its prefix and its mark be? -/
def Right (n b m : Int) : Prop := 1 ≤ b ∧ b ≤ 8 ∧ 0 ≤ n ∧ n ≤ 2147483647 ∧ 0 ≤ m ∧ m < P2 (8 - b)
/-- The bytes of what is left. -/
def dg : Nat → Int → List Int
  | 0, _ => []
  | f + 1, r => if 128 ≤ r then (128 + r % 128) :: dg f (r / 128) else [r]
/-- A number's bytes. -/
def enc (n b m : Int) : List Int := if n < P2 b - 1 then [m * P2 b + n] else (m * P2 b + (P2 b - 1)) :: dg 5 (n - (P2 b - 1))

theorem or_head : ∀ b : Fin 9, ∀ v : Fin 256, (Go.bits .or .i64 (shl .i64 ((v.val / 2 ^ b.val : Nat) : Int) (b.val : Int)) ((v.val % 2 ^ b.val : Nat) : Int)) % 256 = (v.val : Int) := by decide +kernel
theorem or_tail : ∀ c : Fin 128, (Go.bits .or .i64 (c.val : Int) 128) % 256 = 128 + (c.val : Int) := by decide +kernel
theorem and_head : ∀ b : Fin 9, ∀ c : Fin 256, Go.bits .and .i64 (c.val : Int) (2 ^ b.val - 1) = (c.val : Int) % 2 ^ b.val := by decide +kernel
theorem head_ok {b m n : Int} (h0 : 0 ≤ b) (h1 : b ≤ 8) (hm : 0 ≤ m) (hm' : m < P2 (8 - b)) (hn : 0 ≤ n) (hn' : n < P2 b) : (Go.bits .or .i64 (shl .i64 m b) n) % 256 = m * P2 b + n ∧ 0 ≤ m * P2 b ∧ m * P2 b + n ≤ 255 := by
  obtain ⟨b, rfl⟩ : ∃ x : Nat, b = x := ⟨b.toNat, by omega⟩
  have hb := P2_bd h0 h1
  have hmul := P2_mul h0 h1
  have h3 : (m + 1) * P2 b ≤ P2 (8 - b) * P2 b := Int.mul_le_mul_of_nonneg_right (by omega) (by omega)
  rw [Int.add_mul, Int.one_mul] at h3
  have h4 : 0 ≤ m * P2 b := Int.mul_nonneg hm (by omega)
  have h5 : m * P2 b + n ≤ 255 := by omega
  refine ⟨?_, h4, h5⟩
  have hh := or_head ⟨b, by omega⟩ ⟨(m * P2 b + n).toNat, by omega⟩
  have e : P2 b = ((2 ^ b : Nat) : Int) := by unfold P2; rw [show ((b : Int)).toNat = b by omega]; exact_mod_cast rfl
  have hd : (m * P2 b + n) / P2 b = m := by rw [Int.add_comm, Int.add_mul_ediv_right _ _ (by omega), Int.ediv_eq_zero_of_lt hn hn']; omega
  have hr : (m * P2 b + n) % P2 b = n := by rw [Int.add_comm, Int.add_mul_emod_self_right, Int.emod_eq_of_lt hn hn']
  simp only at hh
  have e1 : (((m * P2 b + n).toNat / 2 ^ b : Nat) : Int) = m := by rw [Int.natCast_ediv, Int.toNat_of_nonneg (by omega), ← e]; exact hd
  have e2 : (((m * P2 b + n).toNat % 2 ^ b : Nat) : Int) = n := by rw [Int.natCast_emod, Int.toNat_of_nonneg (by omega), ← e]; exact hr
  rw [e1, e2, Int.toNat_of_nonneg (by omega)] at hh
  exact hh
theorem and_ok {b c : Int} (h0 : 0 ≤ b) (h1 : b ≤ 8) (hc : 0 ≤ c) (hc' : c ≤ 255) : Go.bits .and .i64 c (P2 b - 1) = c % P2 b := by
  obtain ⟨b, rfl⟩ : ∃ x : Nat, b = x := ⟨b.toNat, by omega⟩
  obtain ⟨c, rfl⟩ : ∃ x : Nat, c = x := ⟨c.toNat, by omega⟩
  have := and_head ⟨b, by omega⟩ ⟨c, by omega⟩
  simp only at this
  unfold P2
  rw [show ((b : Int)).toNat = b by omega]
  exact this
theorem tail_ok {r : Int} (h : 0 ≤ r) : (Go.bits .or .i64 (Int.tmod r 128) 128) % 256 = 128 + r % 128 := by
  rw [tmod_ok h]
  have := or_tail ⟨(r % 128).toNat, by omega⟩
  simp only at this
  rw [Int.toNat_of_nonneg (by omega)] at this
  exact this

theorem enc_go (f : Nat) : ∀ (r : Int) (l : List Int) (k : Nat), 0 ≤ r → r < 128 ^ (f + 1) → l.length + f < 1000 → f < k → prefix_Encode.l0 k l r = some (l ++ dg (f + 1) r, 0) := by
  induction f with
  | zero =>
    intro r l k h0 h1 hl hk
    obtain ⟨k, rfl⟩ : ∃ m, k = m + 1 := ⟨k - 1, by omega⟩
    have h2 : r < 128 := h1
    rw [prefix_Encode.l0, if_neg (by omega), if_pos (by omega), dg, if_neg (by omega), Int.emod_eq_of_lt h0 (by omega)]
  | succ f ih =>
    intro r l k h0 h1 hl hk
    obtain ⟨k, rfl⟩ : ∃ m, k = m + 1 := ⟨k - 1, by omega⟩
    rw [prefix_Encode.l0, dg]
    by_cases hr : 128 ≤ r
    · rw [if_pos hr, if_pos hr, if_pos (by omega), tail_ok h0, ih (r / 128) _ k (by omega) ?_ (by simp; omega) (by omega)]
      · simp
      · rw [Int.pow_succ] at h1; omega
    · rw [if_neg hr, if_neg hr, if_pos (by omega), Int.emod_eq_of_lt h0 (by omega)]
theorem refEnc_go (f : Nat) : ∀ (r : Int) (l : List Int) (k : Nat), 0 ≤ r → r < 128 ^ (f + 1) → r < 4294967296 → l.length + f < 1000 → f < k → squintref03_Encode.l0 k l r = some (strOfNums (l ++ dg (f + 1) r)) := by
  induction f with
  | zero =>
    intro r l k h0 h1 hr' hl hk
    obtain ⟨k, rfl⟩ : ∃ m, k = m + 1 := ⟨k - 1, by omega⟩
    have h2 : r < 128 := h1
    rw [squintref03_Encode.l0, if_neg (by omega), if_pos (by omega), dg, if_neg (by omega), Int.emod_eq_of_lt h0 (by omega)]
  | succ f ih =>
    intro r l k h0 h1 hr' hl hk
    obtain ⟨k, rfl⟩ : ∃ m, k = m + 1 := ⟨k - 1, by omega⟩
    rw [squintref03_Encode.l0, dg]
    by_cases hr : 128 ≤ r
    · rw [if_pos hr, if_pos hr, if_pos (by omega), tmod_ok h0, tdiv_ok h0, w64 (x := 128 + r % 128) (by omega) (by omega), w64 (x := r / 128) (by omega) (by omega), Int.emod_eq_of_lt (a := 128 + r % 128) (by omega) (by omega), ih (r / 128) _ k (by omega) ?_ (by omega) (by simp; omega) (by omega)]
      · simp
      · rw [Int.pow_succ] at h1; omega
    · rw [if_neg hr, if_neg hr, if_pos (by omega), Int.emod_eq_of_lt h0 (by omega)]

theorem encode_yes {n b m : Int} (h : Right n b m) {k : Nat} (hk : 10 ≤ k) : prefix_Encode.f k n b m = some (enc n b m, 0) := by
  obtain ⟨h0, h1, h2, h3, h4, h5⟩ := h
  have hb := P2_bd (b := b) (by omega) h1
  obtain ⟨k, rfl⟩ : ∃ m, k = m + 1 := ⟨k - 1, by omega⟩
  unfold prefix_Encode.f
  rw [right_yes h0 h1]; simp only [Option.bind_some, if_true]
  rw [if_neg (by omega), if_neg (by omega), if_neg (by omega), w64 (x := 8 - b) (by omega) (by omega), full_ok (by omega) (by omega)]; simp only [Option.bind_some]
  rw [decide_eq_false (by omega), prefix_Encode.j0, if_neg (by decide), if_pos (by omega), full_ok (by omega) h1]; simp only [Option.bind_some]
  unfold enc
  split
  · rw [(head_ok (by omega) h1 h4 h5 h2 (by omega)).1]
  · have hh := head_ok (b := b) (m := m) (n := P2 b - 1) (by omega) h1 h4 h5 (by omega) (by omega)
    rw [hh.1, w64 (by omega) (by omega), enc_go 4 _ _ k (by omega) (by omega) (by simp) (by omega)]; rfl
theorem encode_no {n b m : Int} (h : ¬ Right n b m) {k : Nat} (hk : 10 ≤ k) : prefix_Encode.f k n b m = some ([], 11) := by
  obtain ⟨k, rfl⟩ : ∃ m, k = m + 1 := ⟨k - 1, by omega⟩
  have hbad : prefix_Encode.j0 (k + 1) n b m true = some ([], 11) := by rw [prefix_Encode.j0, if_pos rfl]
  unfold prefix_Encode.f
  by_cases hb : 1 ≤ b ∧ b ≤ 8
  · rw [right_yes hb.1 hb.2]; simp only [Option.bind_some, if_true]
    split; · exact hbad
    split; · exact hbad
    split; · exact hbad
    rw [w64 (x := 8 - b) (by omega) (by omega), full_ok (by omega) (by omega)]; simp only [Option.bind_some]
    rw [decide_eq_true (by have : ¬ m < P2 (8 - b) := fun q => h ⟨hb.1, hb.2, by omega, by omega, by omega, q⟩
                           omega)]; exact hbad
  · rw [right_no hb]; exact hbad
theorem refEncode {n b m : Int} (h : Right n b m) {k : Nat} (hk : 10 ≤ k) : squintref03_Encode.f k n b m = some (strOfNums (enc n b m)) := by
  obtain ⟨h0, h1, h2, h3, h4, h5⟩ := h
  have hb := P2_bd (b := b) (by omega) h1
  unfold squintref03_Encode.f
  rw [pow_ok (by omega) h1 hk]; simp only [Option.bind_some]
  rw [w64 (x := P2 b - 1) (by omega) (by omega)]
  unfold enc
  split
  · have hh := head_ok (b := b) (m := m) (n := n) (by omega) h1 h4 h5 h2 (by omega)
    rw [w64 (x := m * P2 b) (by omega) (by omega), w64 (by omega) (by omega), Int.emod_eq_of_lt (by omega) (by omega)]
  · have hh := head_ok (b := b) (m := m) (n := P2 b - 1) (by omega) h1 h4 h5 (by omega) (by omega)
    rw [w64 (x := m * P2 b) (by omega) (by omega), w64 (x := m * P2 b + _) (by omega) (by omega), Int.emod_eq_of_lt (by omega) (by omega), w64 (by omega) (by omega), refEnc_go 4 _ _ k (by omega) (by omega) (by omega) (by simp) (by omega)]; rfl
/-- A row of bytes. -/
def Okb (l : List Int) : Prop := ∀ x ∈ l, 0 ≤ x ∧ x ≤ 255
theorem dg_okb (f : Nat) : ∀ r : Int, 0 ≤ r → Okb (dg f r) := by
  induction f with
  | zero => intro r _ x hx; simp [dg] at hx
  | succ f ih =>
    intro r h0 x hx
    rw [dg] at hx
    split at hx
    · rcases List.mem_cons.1 hx with rfl | hx
      · omega
      · exact ih _ (by omega) x hx
    · rw [List.mem_singleton] at hx; subst hx; omega
theorem enc_okb {n b m : Int} (h : Right n b m) : Okb (enc n b m) := by
  obtain ⟨h0, h1, h2, h3, h4, h5⟩ := h
  have hb := P2_bd (b := b) (by omega) h1
  unfold enc
  split
  · have hh := head_ok (b := b) (m := m) (n := n) (by omega) h1 h4 h5 h2 (by omega)
    intro x hx; rw [List.mem_singleton] at hx; omega
  · have hh := head_ok (b := b) (m := m) (n := P2 b - 1) (by omega) h1 h4 h5 (by omega) (by omega)
    intro x hx
    rcases List.mem_cons.1 hx with rfl | hx
    · omega
    · exact dg_okb 5 _ (by omega) x hx

/-- What the bytes behind the first tell: the rest, what was told, a byte's weight, how many came. -/
def dec : List Int → Int → Int → Nat → Int × Int × Int
  | [], _, _, _ => (0, 0, 16)
  | c :: l, x, w, i => if 5 ≤ i then (0, 0, 22) else if x + c % 128 * w > 2147483647 then (0, 0, 22) else if c < 128 then (x + c % 128 * w, i + 2, 0) else dec l (x + c % 128 * w) (w * 128) (i + 1)
def decode (l : List Int) (b : Int) : Int × Int × Int := match l with
  | [] => (0, 0, 16)
  | c :: l => if c % P2 b < P2 b - 1 then (c % P2 b, 1, 0) else dec l (c % P2 b) 1 0

theorem rd_drop {l : List Int} {i : Nat} (h : i < l.length) : l.drop i = rd l i :: l.drop (i + 1) := by
  rw [List.drop_eq_getElem_cons h]; congr 1
  unfold rd; rw [show ((i : Int)).toNat = i by omega, List.getD_eq_getElem?_getD, List.getElem?_eq_getElem h]; rfl
theorem rd_okb {l : List Int} (hl : Okb l) {i : Nat} (h : i < l.length) : 0 ≤ rd l i ∧ rd l i ≤ 255 := by
  unfold rd; rw [show ((i : Int)).toNat = i by omega, List.getD_eq_getElem?_getD, List.getElem?_eq_getElem h]
  exact hl _ (List.getElem_mem h)
theorem pw_bd {i : Nat} (h : i ≤ 5) : (1 : Int) ≤ 128 ^ i ∧ (128 : Int) ^ i ≤ 34359738368 := by
  have : i = 0 ∨ i = 1 ∨ i = 2 ∨ i = 3 ∨ i = 4 ∨ i = 5 := by omega
  rcases this with rfl | rfl | rfl | rfl | rfl | rfl <;> decide
theorem term_bd {c w : Int} (_hc : 0 ≤ c) (hw : 1 ≤ w) (hw' : w ≤ 34359738368) : 0 ≤ c % 128 * w ∧ c % 128 * w ≤ 4398046511104 := by
  have h1 : c % 128 * w ≤ 128 * 34359738368 := Int.mul_le_mul (by omega) hw' (by omega) (by omega)
  exact ⟨Int.mul_nonneg (by omega) (by omega), by omega⟩
theorem shl_ok {c : Int} (hc : 0 ≤ c) {i : Nat} (h : i ≤ 5) : shl .i64 (c % 128) (wrap64 (7 * (i : Int))) = c % 128 * 128 ^ i := by
  have hb := pw_bd h
  have ht := term_bd hc hb.1 hb.2
  rw [w64 (by omega) (by omega)]
  unfold shl
  have e : (2 : Int) ^ min (7 * (i : Int)).toNat IntKind.i64.bits = 128 ^ i := by
    have : i = 0 ∨ i = 1 ∨ i = 2 ∨ i = 3 ∨ i = 4 ∨ i = 5 := by omega
    rcases this with rfl | rfl | rfl | rfl | rfl | rfl <;> decide
  rw [e, IntKind.wrap_i64]; omega

theorem dec_go {l : List Int} (hl : Okb l) (_hn : l.length ≤ 140737488351232) (j : Nat) : ∀ (i : Nat) (x : Int) (k : Nat), i + j = 5 → 0 ≤ x → x ≤ 2147483647 → j < k → prefix_Decode.l0 k l x i = some (dec (l.drop (i + 1)) x (128 ^ i) i) := by
  induction j with
  | zero =>
    intro i x k hi hx hx' hk
    obtain ⟨k, rfl⟩ : ∃ m, k = m + 1 := ⟨k - 1, by omega⟩
    rw [prefix_Decode.l0, w64 (x := (i : Int) + 1) (by omega) (by omega)]
    by_cases h : i + 1 < l.length
    · rw [if_neg (by omega), if_pos (by omega), rd_drop h, dec, if_pos (by omega)]
    · rw [if_pos (by omega), List.drop_of_length_le (by omega)]; rfl
  | succ j ih =>
    intro i x k hi hx hx' hk
    obtain ⟨k, rfl⟩ : ∃ m, k = m + 1 := ⟨k - 1, by omega⟩
    rw [prefix_Decode.l0, w64 (x := (i : Int) + 1) (by omega) (by omega)]
    by_cases h : i + 1 < l.length
    · have hc := rd_okb hl h
      have hb := pw_bd (i := i) (by omega)
      have ht := term_bd hc.1 hb.1 hb.2
      have hdec : dec (l.drop (i + 1)) x (128 ^ i) i = if x + rd l (i + 1 : Nat) % 128 * 128 ^ i > 2147483647 then (0, 0, 22) else if rd l (i + 1 : Nat) < 128 then (x + rd l (i + 1 : Nat) % 128 * 128 ^ i, (i : Int) + 2, 0) else dec (l.drop (i + 1 + 1)) (x + rd l (i + 1 : Nat) % 128 * 128 ^ i) (128 ^ i * 128) (i + 1) := by
        rw [rd_drop h, dec, if_neg (by omega)]
      rw [hdec, if_neg (by omega), if_neg (by omega), if_pos (by omega), if_pos (by omega)]
      rw [show ((i : Int) + 1) = ((i + 1 : Nat) : Int) by omega, w64 (x := rd l _) (by omega) (by omega), tmod_ok hc.1, shl_ok hc.1 (by omega), w64 (x := x + _) (by omega) (by omega), w64 (x := 7 * (i : Int)) (by omega) (by omega), w64 (x := (i : Int) + 2) (by omega) (by omega), if_pos (by omega)]
      split
      · rfl
      · split
        · rfl
        · rw [ih (i + 1) _ k (by omega) (by omega) (by omega) (by omega), Int.pow_succ]
    · rw [if_pos (by omega), List.drop_of_length_le (by omega)]; rfl
theorem decode_yes {l : List Int} {b : Int} (hl : Okb l) (hn : l.length ≤ 140737488351232) (h0 : 1 ≤ b) (h1 : b ≤ 8) {k : Nat} (hk : 10 ≤ k) : prefix_Decode.f k l b = some (decode l b) := by
  have hb := P2_bd (b := b) (by omega) h1
  unfold prefix_Decode.f
  rw [right_yes h0 h1]; simp only [Option.bind_some, if_true]
  by_cases h : l.length = 0
  · rw [if_pos (by omega), List.length_eq_zero_iff.1 h]; rfl
  · have hc : 0 ≤ rd l 0 ∧ rd l 0 ≤ 255 := rd_okb hl (i := 0) (by omega)
    have hd := rd_drop (l := l) (i := 0) (by omega)
    rw [List.drop_zero] at hd
    have hm : 0 ≤ rd l 0 % P2 b ∧ rd l 0 % P2 b < P2 b := ⟨Int.emod_nonneg _ (by omega), Int.emod_lt_of_pos _ (by omega)⟩
    have hq : decode l b = if rd l 0 % P2 b < P2 b - 1 then (rd l 0 % P2 b, 1, 0) else dec (l.drop 1) (rd l 0 % P2 b) 1 0 := by
      conv => lhs; rw [hd]
      rfl
    rw [if_neg (by omega), if_pos (by omega), full_ok (by omega) h1]; simp only [Option.bind_some]
    rw [w64 (x := rd l 0) (by omega) (by omega), and_ok (by omega) h1 hc.1 hc.2, hq]
    split
    · rfl
    · exact dec_go hl hn 5 0 _ k (by omega) hm.1 (by omega) (by omega)
theorem decode_no {l : List Int} {b : Int} (h : ¬ (1 ≤ b ∧ b ≤ 8)) {k : Nat} : prefix_Decode.f k l b = some (0, 0, 11) := by
  unfold prefix_Decode.f; rw [right_no h]; rfl

theorem bt_str {l : List Int} (hl : Okb l) {i : Nat} (h : i < l.length) : bt (strOfNums l) i = rd l i := by
  have hs : i < (strOfNums l).size := by rw [strOfNums_size]; exact h
  have hk := hl _ (List.getElem_mem h)
  unfold bt rd
  rw [show ((i : Int)).toNat = i by omega, dif_pos hs, List.getD_eq_getElem?_getD, List.getElem?_eq_getElem h]
  show ((((strOfNums l)[i]'hs).toNat : Nat) : Int) = l[i]
  have e : (strOfNums l)[i]'hs = UInt8.ofNat (l[i]).toNat := by
    simp [strOfNums, ByteArray.getElem_eq_getElem_data]
  rw [e, UInt8.toNat_ofNat']
  omega
theorem split_mul {r w : Int} : r / 128 * (w * 128) + r % 128 * w = r * w := by
  have h := Int.mul_ediv_add_emod r 128
  rw [Int.mul_comm w 128, ← Int.mul_assoc, ← Int.add_mul]
  congr 1; omega
/-- What was told is read again, whatever stands behind. -/
theorem dec_dg (j : Nat) : ∀ (i : Nat) (r x w : Int) (more : List Int), i + j = 4 → 0 ≤ r → r < 128 ^ (j + 1) → 0 ≤ x → 1 ≤ w → x + r * w ≤ 2147483647 → dec (dg (j + 1) r ++ more) x w i = (x + r * w, (i : Int) + 1 + (dg (j + 1) r).length, 0) := by
  have last : ∀ (i : Nat) (r x w : Int) (more : List Int), i ≤ 4 → 0 ≤ r → r < 128 → x + r * w ≤ 2147483647 → dec ([r] ++ more) x w i = (x + r * w, (i : Int) + 1 + ([r] : List Int).length, 0) := fun i r x w more hi h0 h1 hle => by
    rw [List.singleton_append, dec, if_neg (by omega), Int.emod_eq_of_lt h0 (by omega), if_neg (by omega), if_pos (by omega)]
    refine Prod.ext rfl (Prod.ext ?_ rfl)
    show (i : Int) + 2 = (i : Int) + 1 + ((1 : Nat) : Int)
    omega
  induction j with
  | zero =>
    intro i r x w more hi h0 h1 hx hw hle
    have h2 : r < 128 := h1
    rw [dg, if_neg (by omega)]
    exact last i r x w more (by omega) h0 h2 hle
  | succ j ih =>
    intro i r x w more hi h0 h1 hx hw hle
    have hs := split_mul (r := r) (w := w)
    have hq : 0 ≤ r / 128 * (w * 128) := Int.mul_nonneg (by omega) (by omega)
    have hm : 0 ≤ r % 128 * w := Int.mul_nonneg (by omega) (by omega)
    have hp : r / 128 < 128 ^ (j + 1) := by rw [Int.pow_succ] at h1; omega
    rw [dg]
    by_cases hr : 128 ≤ r
    · rw [if_pos hr, List.cons_append, dec, if_neg (by omega), show (128 + r % 128) % 128 = r % 128 by omega, if_neg (by omega), if_neg (by omega), ih (i + 1) (r / 128) _ _ more (by omega) (by omega) hp (by omega) (by omega) (by omega)]
      rw [List.length_cons]
      refine Prod.ext ?_ (Prod.ext ?_ rfl)
      · show x + r % 128 * w + r / 128 * (w * 128) = x + r * w; omega
      · show (((i + 1 : Nat) : Int) + 1 + ((dg (j + 1) (r / 128)).length : Int)) = (i : Int) + 1 + (((dg (j + 1) (r / 128)).length + 1 : Nat) : Int); omega
    · rw [if_neg hr]
      exact last i r x w more (by omega) h0 (by omega) hle
/-- A beginning is short. -/
theorem dec_short (j : Nat) : ∀ (i p : Nat) (r x w : Int), i + j = 4 → 0 ≤ r → r < 128 ^ (j + 1) → 0 ≤ x → 1 ≤ w → x + r * w ≤ 2147483647 → p < (dg (j + 1) r).length → dec ((dg (j + 1) r).take p) x w i = (0, 0, 16) := by
  induction j with
  | zero =>
    intro i p r x w hi h0 h1 hx hw hle hp
    have h2 : r < 128 := h1
    rw [dg, if_neg (by omega)] at hp ⊢
    rw [List.length_singleton] at hp
    obtain rfl : p = 0 := by omega
    rfl
  | succ j ih =>
    intro i p r x w hi h0 h1 hx hw hle hp
    have hs := split_mul (r := r) (w := w)
    have hq : 0 ≤ r / 128 * (w * 128) := Int.mul_nonneg (by omega) (by omega)
    have hm : 0 ≤ r % 128 * w := Int.mul_nonneg (by omega) (by omega)
    have hpw : r / 128 < 128 ^ (j + 1) := by rw [Int.pow_succ] at h1; omega
    rw [dg] at hp ⊢
    by_cases hr : 128 ≤ r
    · rw [if_pos hr] at hp ⊢
      cases p with
      | zero => rfl
      | succ p =>
        rw [List.length_cons] at hp
        rw [List.take_succ_cons, dec, if_neg (by omega), show (128 + r % 128) % 128 = r % 128 by omega, if_neg (by omega), if_neg (by omega)]
        exact ih (i + 1) p (r / 128) _ _ (by omega) (by omega) hpw (by omega) (by omega) (by omega) (by omega)
    · rw [if_neg hr] at hp ⊢
      rw [List.length_singleton] at hp
      obtain rfl : p = 0 := by omega
      rfl
theorem head_mod {b m n : Int} (_h0 : 1 ≤ b) (_h1 : b ≤ 8) (hn : 0 ≤ n) (hn' : n < P2 b) : (m * P2 b + n) % P2 b = n := by
  rw [Int.add_comm, Int.add_mul_emod_self_right, Int.emod_eq_of_lt hn hn']
theorem decode_enc {n b m : Int} (h : Right n b m) (more : List Int) : decode (enc n b m ++ more) b = (n, ((enc n b m).length : Int), 0) := by
  obtain ⟨h0, h1, h2, h3, h4, h5⟩ := h
  have hb := P2_bd (b := b) (by omega) h1
  unfold enc
  split
  · show (if (m * P2 b + n) % P2 b < P2 b - 1 then _ else _) = _
    rw [head_mod h0 h1 h2 (by omega), if_pos (by assumption)]; rfl
  · show (if (m * P2 b + (P2 b - 1)) % P2 b < P2 b - 1 then _ else dec (dg 5 (n - (P2 b - 1)) ++ more) _ _ _) = _
    rw [head_mod h0 h1 (by omega) (by omega), if_neg (by omega), dec_dg 4 0 _ _ _ _ (by omega) (by omega) (by omega) (by omega) (by omega) (by omega)]
    rw [List.length_cons]
    refine Prod.ext ?_ (Prod.ext ?_ rfl)
    · show P2 b - 1 + (n - (P2 b - 1)) * 1 = n; omega
    · show ((0 : Nat) : Int) + 1 + ((dg 5 (n - (P2 b - 1))).length : Int) = (((dg 5 (n - (P2 b - 1))).length + 1 : Nat) : Int); omega
theorem decode_short {n b m : Int} (h : Right n b m) {p : Nat} (hp : p < (enc n b m).length) : decode ((enc n b m).take p) b = (0, 0, 16) := by
  obtain ⟨h0, h1, h2, h3, h4, h5⟩ := h
  have hb := P2_bd (b := b) (by omega) h1
  cases p with
  | zero => rfl
  | succ p =>
    unfold enc at hp ⊢
    split at hp
    · rw [List.length_singleton] at hp; omega
    · rw [if_neg (by assumption)]
      rw [List.length_cons] at hp
      show (if (m * P2 b + (P2 b - 1)) % P2 b < P2 b - 1 then _ else dec ((dg 5 (n - (P2 b - 1))).take p) _ _ _) = _
      rw [head_mod h0 h1 (by omega) (by omega), if_neg (by omega)]
      exact dec_short 4 0 p _ _ _ (by omega) (by omega) (by omega) (by omega) (by omega) (by omega) (show p < (dg 5 (n - (P2 b - 1))).length by omega)

/-- How many bytes what is left has. -/
def dl (r : Int) : Int := if r < 128 then 1 else if r < 16384 then 2 else if r < 2097152 then 3 else if r < 268435456 then 4 else 5
theorem len_dg {r : Int} (h0 : 0 ≤ r) (h1 : r < 4294967296) : ((dg 5 r).length : Int) = dl r := by
  unfold dl
  rw [dg]; split
  · rw [List.length_cons, dg]; split
    · rw [List.length_cons, dg]; split
      · rw [List.length_cons, dg]; split
        · rw [List.length_cons, dg]; split
          · rw [List.length_cons, dg]; simp; split <;> (try split) <;> (try split) <;> (try split) <;> omega
          · simp; split <;> (try split) <;> (try split) <;> (try split) <;> omega
        · simp; split <;> (try split) <;> (try split) <;> (try split) <;> omega
      · simp; split <;> (try split) <;> (try split) <;> (try split) <;> omega
    · simp; split <;> (try split) <;> (try split) <;> (try split) <;> omega
  · simp; split <;> (try split) <;> (try split) <;> (try split) <;> omega
theorem dl_bd (r : Int) : 1 ≤ dl r ∧ dl r ≤ 5 := by unfold dl; split <;> (try split) <;> (try split) <;> (try split) <;> omega
theorem dl_mono {r s : Int} (h : r ≤ s) : dl r ≤ dl s := by
  unfold dl
  repeat' split
  all_goals omega
theorem len_enc {n b m : Int} (h : Right n b m) : ((enc n b m).length : Int) = if n < P2 b - 1 then 1 else 1 + dl (n - (P2 b - 1)) := by
  obtain ⟨h0, h1, h2, h3, h4, h5⟩ := h
  have hb := P2_bd (b := b) (by omega) h1
  unfold enc
  split
  · rfl
  · rw [List.length_cons, ← len_dg (by omega) (by omega)]; omega

theorem mark_ok {l : List Int} {b : Int} (hl : Okb l) (h : l ≠ []) (h0 : 1 ≤ b) (h1 : b ≤ 8) : prefix_Mark.f l b = some (rd l 0 / P2 b, true) := by
  have hp : 0 < l.length := by cases l with
    | nil => exact absurd rfl h
    | cons _ _ => simp
  have hc : 0 ≤ rd l 0 ∧ rd l 0 ≤ 255 := rd_okb hl (i := 0) hp
  unfold prefix_Mark.f
  rw [right_yes h0 h1]; simp only [Option.bind_some, if_true]
  rw [if_neg (by omega), if_pos (by omega), if_pos (by omega), w64 (x := rd l 0) (by omega) (by omega)]
  unfold shr P2
  rw [show min b.toNat IntKind.i64.bits = b.toNat by have : IntKind.i64.bits = 64 := rfl
                                                     omega]
theorem mark_empty {b : Int} : prefix_Mark.f [] b = some (0, false) := by
  unfold prefix_Mark.f
  by_cases h : 1 ≤ b ∧ b ≤ 8
  · rw [right_yes h.1 h.2]; rfl
  · rw [right_no h]; rfl
theorem mark_no {l : List Int} {b : Int} (h : ¬ (1 ≤ b ∧ b ≤ 8)) : prefix_Mark.f l b = some (0, false) := by
  unfold prefix_Mark.f; rw [right_no h]; rfl

end Go.Proofs.Ythfildmldppihaa.Px
