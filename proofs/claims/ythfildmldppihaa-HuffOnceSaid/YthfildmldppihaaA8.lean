/- The canonical codes as plain lists of noughts and ones: no code begins another, every thirty bits begin with one; coding and decoding. Coding as plain lists of noughts and ones: what is coded is read again, what is read is coded again. -/
import Derived.Test.YthfildmldppihaaA6
import Derived.Test.YthfildmldppihaaA4
/- The canonical codes as plain lists of noughts and ones: no code begins another, every thirty bits begin with one; coding and decoding. -/
namespace Go.Proofs.Ythfildmldppihaa.Pt
open Go.RowKit Go.Proofs.Ythfildmldppihaa.Ga Go.Proofs.Ythfildmldppihaa.Gi Go.Proofs.Ythfildmldppihaa.Gm Go.Proofs.Ythfildmldppihaa.Gp Go.Proofs.Ythfildmldppihaa.Gs Go.Proofs.Ythfildmldppihaa.Ny
/-! ### Digits -/
theorem dig_add (a : Nat) : ∀ (b h : Nat), dig (a + b) h = dig a (h / 2 ^ b) ++ dig b h
  | 0, h => by simp [dig]
  | b + 1, h => by
    rw [← Nat.add_assoc, dig, dig_add a b (h / 2), dig, Nat.div_div_eq_div_mul, Nat.pow_succ, Nat.mul_comm 2, List.append_assoc]
theorem dig_mod : ∀ (n m h : Nat), n ≤ m → dig n (h % 2 ^ m) = dig n h
  | 0, _, _, _ => rfl
  | n + 1, 0, _, hm => by omega
  | n + 1, m + 1, h, hm => by
    have h1 : h % 2 ^ (m + 1) / 2 = h / 2 % 2 ^ m := by
      rw [Nat.pow_succ, Nat.mul_comm, Nat.mod_mul_right_div_self]
    have h2 : h % 2 ^ (m + 1) % 2 = h % 2 := by
      rw [Nat.pow_succ, Nat.mul_comm, Nat.mod_mul_right_mod]
    rw [dig, dig, h1, h2, dig_mod n m (h / 2) (by omega)]
theorem dig_inj : ∀ (n a b : Nat), dig n a = dig n b → a % 2 ^ n = b % 2 ^ n
  | 0, a, b, _ => by simp [Nat.mod_one]
  | n + 1, a, b, h => by
    rw [dig, dig] at h
    have hl := List.append_inj' h rfl
    have ih := dig_inj n _ _ hl.1
    have h2 := hl.2
    simp only [List.cons.injEq, and_true] at h2
    rw [Nat.pow_succ, Nat.mul_comm, Nat.mod_mul, Nat.mod_mul, ih]
    omega
def Bits (l : List Int) : Prop := ∀ x ∈ l, x = 48 ∨ x = 49
theorem bits_dig (n c : Nat) : Bits (dig n c) := dig_mem n c
theorem bits_app {a b : List Int} : Bits (a ++ b) ↔ Bits a ∧ Bits b :=
  ⟨fun h => ⟨fun x hx => h x (List.mem_append_left _ hx), fun x hx => h x (List.mem_append_right _ hx)⟩, fun h x hx => (List.mem_append.1 hx).elim (h.1 x) (h.2 x)⟩
theorem ex_dig (n : Nat) : ∀ l : List Int, l.length = n → Bits l → ∃ c, c < 2 ^ n ∧ l = dig n c := by
  induction n with
  | zero => intro l h _; exact ⟨0, by decide, by rw [List.eq_nil_of_length_eq_zero h]; rfl⟩
  | succ n ih =>
    intro l h hb
    have hne : l ≠ [] := by intro e; subst e; cases h
    have hs := List.dropLast_concat_getLast hne
    obtain ⟨x, hx⟩ : ∃ x, x = l.getLast hne := ⟨_, rfl⟩
    obtain ⟨l', hl'⟩ : ∃ l', l' = l.dropLast := ⟨_, rfl⟩
    rw [← hx, ← hl'] at hs
    subst hs
    have hb' := bits_app.1 hb
    obtain ⟨c, hc, he⟩ := ih l' (by simpa using h) hb'.1
    have hxb := hb'.2 x (by simp)
    refine ⟨c * 2 + (x - 48).toNat, by rw [Nat.pow_succ]; omega, ?_⟩
    rw [dig, show (c * 2 + (x - 48).toNat) / 2 = c by omega, he, show ((48 + (c * 2 + (x - 48).toNat) % 2 : Nat) : Int) = x by omega]
/-! ### The tiles of thirty bits -/
def code (x : Nat) : List Int := dig (L x) (C x)
def Lo (i : Nat) : Nat := C (o i) * 2 ^ (30 - L (o i))
def Hi (i : Nat) : Nat := (C (o i) + 1) * 2 ^ (30 - L (o i))
theorem tile_lt (i : Nat) : Lo i < Hi i := by
  unfold Lo Hi; rw [Nat.succ_mul]; have := Nat.two_pow_pos (30 - L (o i)); omega
theorem tile_step (i : Nat) (hi : i < 256) : Hi i = Lo (i + 1) := by
  have hs := Gi.step i hi
  have hl := (L_rng (o (i + 1)) (o_bd (i + 1) (by omega))).2
  unfold Hi Lo
  rw [hs.2, Nat.mul_assoc, ← Nat.pow_add, show L (o (i + 1)) - L (o i) + (30 - L (o (i + 1))) = 30 - L (o i) by omega]
theorem tile_zero : Lo 0 = 0 := by decide +kernel
theorem tile_end : Hi 256 = 2 ^ 30 := by decide +kernel
theorem tile_mono {i j : Nat} (h : i < j) (hj : j < 257) : Hi i ≤ Lo j := by
  induction j with
  | zero => omega
  | succ j ih =>
    rw [← tile_step j (by omega)]
    by_cases hij : i = j
    · subst hij; exact Nat.le_refl _
    · exact Nat.le_trans (ih (by omega) (by omega)) (Nat.le_of_lt (tile_lt j))
theorem tile_uniq {i j v : Nat} (hi : i < 257) (hj : j < 257) (h1 : Lo i ≤ v ∧ v < Hi i) (h2 : Lo j ≤ v ∧ v < Hi j) : i = j := by
  rcases Nat.lt_trichotomy i j with h | h | h
  · have := tile_mono h hj; omega
  · exact h
  · have := tile_mono h hi; omega
theorem tile_cover (v n : Nat) (hn : n < 257) : v < Hi n → ∃ i, i ≤ n ∧ Lo i ≤ v ∧ v < Hi i := by
  induction n with
  | zero => intro h; exact ⟨0, Nat.le_refl _, by rw [tile_zero]; omega, h⟩
  | succ n ih =>
    intro h
    by_cases hv : v < Hi n
    · obtain ⟨i, h1, h2⟩ := ih (by omega) hv
      exact ⟨i, by omega, h2⟩
    · exact ⟨n + 1, Nat.le_refl _, by rw [← tile_step n (by omega)]; omega, h⟩
theorem pre_tile {i v : Nat} (hi : i < 257) (hv : v < 2 ^ 30) : code (o i) <+: dig 30 v ↔ (Lo i ≤ v ∧ v < Hi i) := by
  have hl := L_rng (o i) (o_bd i hi)
  have hC := C_lt (o i) (o_bd i hi)
  have hsplit : dig 30 v = dig (L (o i)) (v / 2 ^ (30 - L (o i))) ++ dig (30 - L (o i)) v := by rw [← dig_add, show L (o i) + (30 - L (o i)) = 30 by omega]
  have hq : v / 2 ^ (30 - L (o i)) < 2 ^ L (o i) := by
    rw [Nat.div_lt_iff_lt_mul (Nat.two_pow_pos _), ← Nat.pow_add, show L (o i) + (30 - L (o i)) = 30 by omega]; exact hv
  have hp := Nat.two_pow_pos (30 - L (o i))
  have hkey : code (o i) <+: dig 30 v ↔ C (o i) = v / 2 ^ (30 - L (o i)) := by
    constructor
    · rintro ⟨r, hr⟩
      rw [hsplit] at hr
      have := (List.append_inj hr (by unfold code; rw [dig_length, dig_length])).1
      have := dig_inj _ _ _ this
      rw [Nat.mod_eq_of_lt hC, Nat.mod_eq_of_lt hq] at this
      exact this
    · intro h
      rw [hsplit, ← h]
      exact List.prefix_append _ _
  rw [hkey]
  unfold Lo Hi
  constructor
  · intro h
    rw [h]
    have h1 := Nat.div_mul_le_self v (2 ^ (30 - L (o i)))
    have h2 := Nat.lt_mul_div_succ v hp
    rw [Nat.mul_comm] at h2
    exact ⟨h1, h2⟩
  · rintro ⟨h1, h2⟩
    exact (Nat.div_eq_of_lt_le h1 h2).symm

/-- The first thirty bits, noughts behind them where there are fewer. -/
theorem ex_head {l : List Int} (hl : Bits l) : ∃ v, v < 2 ^ 30 ∧ (l ++ List.replicate 30 48).take 30 = dig 30 v := by
  have hb : Bits ((l ++ List.replicate 30 48).take 30) := fun x hx => by
    rcases List.mem_append.1 (List.mem_of_mem_take hx) with h | h
    · exact hl x h
    · exact Or.inl (List.eq_of_mem_replicate h)
  exact ex_dig 30 _ (by simp) hb
theorem code_len (x : Nat) : (code x).length = L x := dig_length _ _
theorem pre_head {l : List Int} {x : Nat} (hx : x < 257) (h : code x <+: l) : code x <+: (l ++ List.replicate 30 48).take 30 := by
  rw [List.prefix_take_iff]
  exact ⟨h.trans (List.prefix_append _ _), by rw [code_len]; exact (L_rng x hx).2⟩
theorem only {l : List Int} (hl : Bits l) {x y : Nat} (hx : x < 257) (hy : y < 257) (h1 : code x <+: l) (h2 : code y <+: l) : x = y := by
  obtain ⟨v, hv, he⟩ := ex_head hl
  have a := pre_head hx h1
  have b := pre_head hy h2
  rw [he] at a b
  obtain ⟨i, hi, rfl⟩ := rank_of x hx
  obtain ⟨j, hj, rfl⟩ := rank_of y hy
  rw [tile_uniq hi hj ((pre_tile hi hv).1 a) ((pre_tile hj hv).1 b)]
theorem full {l : List Int} (hl : Bits l) (h30 : 30 ≤ l.length) : ∃ x : Nat, x < 257 ∧ code x <+: l := by
  obtain ⟨v, hv, he⟩ := ex_head hl
  obtain ⟨i, hi, ht⟩ := tile_cover v 256 (by omega) (by rw [tile_end]; exact hv)
  have hp := (pre_tile (by omega) hv).2 ht
  rw [← he, List.take_append_of_le_length h30] at hp
  exact ⟨o i, o_bd i (by omega), hp.trans (List.take_prefix _ _)⟩
/-! ### The symbol of a code -/
theorem F_at : ∀ i, i < 257 → C (o i) = F (L (o i)) + (i - S (L (o i))) := by decide +kernel
theorem sy_hit (x : Nat) (hx : x < 257) : sy (C x) (L x) = (x : Int) := by
  obtain ⟨i, hi, rfl⟩ := rank_of x hx
  have hs := seg i hi
  have hf := F_at i hi
  unfold sy
  rw [if_pos (by omega)]
  rw [show S (L (o i)) + (C (o i) - F (L (o i))) = i by omega]
theorem sy_only (c n : Nat) (hn : n < 31) (h : 0 ≤ sy c n) : ∃ x : Nat, x < 257 ∧ sy c n = (x : Int) ∧ L x = n ∧ C x = c := by
  unfold sy at h ⊢
  split at h
  · rename_i hc
    rw [if_pos hc]
    have hS := S_bd n hn
    have hi : S n + (c - F n) < 257 := by omega
    have hL : L (o (S n + (c - F n))) = n := by
      refine Decidable.byContradiction fun hne => ?_
      have := inj (S n + (c - F n)) hi n hn (fun e => hne e.symm)
      omega
    have hf := F_at _ hi
    rw [hL] at hf
    exact ⟨_, o_bd _ hi, rfl, hL, by omega⟩
  · omega
/-! ### The machine, bit by bit -/
def mB : List Int → St → Option (Option St)
  | [], s => some (some s)
  | b :: l, s => match bitD (b - 48).toNat s with
    | some (some s') => mB l s'
    | some none => some none
    | none => none
theorem mB_app : ∀ (a b : List Int) (s : St), mB (a ++ b) s = match mB a s with
    | some (some s') => mB b s'
    | some none => some none
    | none => none
  | [], b, s => rfl
  | x :: a, b, s => by
    rw [List.cons_append, mB, mB]
    cases h : bitD (x - 48).toNat s with
    | none => rfl
    | some r => cases r with
      | none => rfl
      | some s' => exact mB_app a b s'
theorem dig_cons (i c : Nat) : dig (i + 1) c = ((48 + c / 2 ^ i % 2 : Nat) : Int) :: dig i c := by
  rw [Nat.add_comm, dig_add 1 i c]; rfl
theorem byteD_mB (c : Nat) : ∀ (i : Nat) (s : St), byteD c i s = mB (dig i c) s
  | 0, s => rfl
  | i + 1, s => by
    rw [dig_cons, byteD, mB, show (((48 + c / 2 ^ i % 2 : Nat) : Int) - 48).toNat = c / 2 ^ i % 2 by omega]
    cases h : bitD (c / 2 ^ i % 2) s with
    | none => rfl
    | some r => cases r with
      | none => rfl
      | some s' => exact byteD_mB c i s'
def bitsOf : List Int → List Int
  | [] => []
  | c :: l => dig 8 c.toNat ++ bitsOf l
theorem bits_bitsOf : ∀ l, Bits (bitsOf l)
  | [] => fun x h => by cases h
  | c :: l => bits_app.2 ⟨bits_dig _ _, bits_bitsOf l⟩
theorem bitsOf_len : ∀ l, (bitsOf l).length = 8 * l.length
  | [] => rfl
  | c :: l => by rw [bitsOf, List.length_append, dig_length, bitsOf_len l, List.length_cons]; omega
theorem bitsOf_app : ∀ a b, bitsOf (a ++ b) = bitsOf a ++ bitsOf b
  | [], b => rfl
  | c :: a, b => by rw [List.cons_append, bitsOf, bitsOf, bitsOf_app a b, List.append_assoc]
theorem decD_mB : ∀ (l : List Int) (s : St), decD l s = mB (bitsOf l) s
  | [], s => rfl
  | c :: l, s => by
    rw [bitsOf, mB_app, decD, byteD_mB]
    cases h : mB (dig 8 c.toNat) s with
    | none => rfl
    | some r => cases r with
      | none => rfl
      | some s' => exact decD_mB l s'
/-! ### The document's decoding -/
def fndTo (q : List Int) : Nat → Int
  | 0 => -1
  | k + 1 => if (code k).isPrefixOf q = true then (k : Int) else fndTo q k
def fnd (q : List Int) : Int := fndTo q 257
theorem fndTo_none {q : List Int} (h : ∀ x, x < 257 → ¬ code x <+: q) : ∀ k, k ≤ 257 → fndTo q k = -1
  | 0, _ => rfl
  | k + 1, hk => by
    rw [fndTo, if_neg (fun e => h k (by omega) (List.isPrefixOf_iff_prefix.1 e)), fndTo_none h k (by omega)]
theorem fndTo_hit {q : List Int} (hq : Bits q) {x : Nat} (hx : x < 257) (h : code x <+: q) : ∀ k, k ≤ 257 → x < k → fndTo q k = (x : Int)
  | 0, _, h0 => by omega
  | k + 1, hk, hxk => by
    rw [fndTo]
    by_cases hp : code k <+: q
    · rw [if_pos (List.isPrefixOf_iff_prefix.2 hp), only hq (show k < 257 by omega) hx hp h]
    · rw [if_neg (fun e => hp (List.isPrefixOf_iff_prefix.1 e))]
      have hne : x ≠ k := fun e => hp (e ▸ h)
      exact fndTo_hit hq hx h k (by omega) (by omega)
theorem fnd_none {q : List Int} (h : ∀ x, x < 257 → ¬ code x <+: q) : fnd q = -1 := fndTo_none h 257 (Nat.le_refl _)
theorem fnd_hit {q : List Int} (hq : Bits q) {x : Nat} (hx : x < 257) (h : code x <+: q) : fnd q = (x : Int) := fndTo_hit hq hx h 257 (Nat.le_refl _) hx
theorem fndTo_is (q : List Int) : ∀ k, k ≤ 257 → fndTo q k = -1 ∨ ∃ x : Nat, x < 257 ∧ fndTo q k = (x : Int) ∧ code x <+: q
  | 0, _ => Or.inl rfl
  | k + 1, hk => by
    rw [fndTo]
    split
    · rename_i h; exact Or.inr ⟨k, by omega, rfl, List.isPrefixOf_iff_prefix.1 h⟩
    · exact fndTo_is q k (by omega)
theorem fnd_is (q : List Int) : fnd q = -1 ∨ ∃ x : Nat, x < 257 ∧ fnd q = (x : Int) ∧ code x <+: q := fndTo_is q 257 (Nat.le_refl _)
def allOnes (q : List Int) : Bool := q.all (fun x => x == 49)
def rdec : Nat → List Int → List Int → List Int × Int
  | 0, _, out => (out, 0)
  | k + 1, q, out => if q = [] then (out, 0) else if fnd q = 256 then ([], 21) else if fnd q < 0 then (if 7 < q.length ∨ allOnes q = false then ([], 20) else (out, 0))
      else rdec k (q.drop (L (fnd q).toNat)) (out ++ [fnd q])
def fin : Option (Option St) → Option (List Int × Int)
  | some (some s) => if 7 < s.n ∨ s.ones = false then some ([], 20) else some (s.out, 0)
  | some none => some ([], 21)
  | none => none
theorem dec_fin (l : List Int) : dec l = fin (decD l ⟨0, 0, true, []⟩) := by
  unfold dec fin
  cases decD l ⟨0, 0, true, []⟩ with
  | none => rfl
  | some r => cases r <;> rfl
theorem no_code_nil : ∀ x : Nat, x < 257 → ¬ code x <+: ([] : List Int) := fun x hx h => by
  have := List.prefix_nil.1 h
  have h2 := code_len x
  rw [this] at h2
  have := L_rng x hx
  simp at h2
  omega
theorem allOnes_app (p : List Int) (b : Int) : allOnes (p ++ [b]) = (allOnes p && (b == 49)) := by simp [allOnes]
theorem mach : ∀ (l p : List Int) (c n : Nat) (out : List Int) (fuel : Nat), Bits l → p = dig n c → c < 2 ^ n → (∀ x : Nat, x < 257 → ¬ code x <+: p) → (p ++ l).length < fuel →
    fin (mB l ⟨c, n, allOnes p, out⟩) = some (rdec fuel (p ++ l) out)
  | [], p, c, n, out, fuel, _, hp, _, hno, hf => by
    obtain ⟨k, rfl⟩ : ∃ k, fuel = k + 1 := ⟨fuel - 1, by omega⟩
    have hlen : p.length = n := by rw [hp, dig_length]
    rw [List.append_nil, mB, fin, rdec]
    by_cases hnil : p = []
    · subst hnil
      rw [if_pos rfl, if_neg (by simp at hlen; subst hlen; simp [allOnes])]
    · rw [if_neg hnil, fnd_none hno, if_neg (show ¬ (-1 : Int) = 256 by decide), if_pos (show (-1 : Int) < 0 by decide), hlen]
      by_cases h : 7 < n ∨ allOnes p = false
      · rw [if_pos h, if_pos h]
      · rw [if_neg h, if_neg h]
  | b :: l, p, c, n, out, fuel, hl, hp, hc, hno, hf => by
    obtain ⟨k, rfl⟩ : ∃ k, fuel = k + 1 := ⟨fuel - 1, by omega⟩
    have hlen : p.length = n := by rw [hp, dig_length]
    have hpb : Bits p := by rw [hp]; exact bits_dig n c
    have hb : b = 48 ∨ b = 49 := hl b (List.mem_cons_self ..)
    have hl' : Bits l := fun x hx => hl x (List.mem_cons_of_mem _ hx)
    obtain ⟨bit, hbit⟩ : ∃ bit, bit = (b - 48).toNat := ⟨_, rfl⟩
    have hn30 : n < 30 := by
      refine Decidable.byContradiction fun h => ?_
      obtain ⟨x, hx, hpx⟩ := full hpb (by omega)
      exact hno x hx hpx
    have hc30 : c < 1073741824 := Nat.lt_of_lt_of_le hc (Nat.le_trans (Nat.pow_le_pow_right (by decide) (Nat.le_of_lt hn30)) (by decide))
    have hp' : p ++ [b] = dig (n + 1) (c * 2 + bit) := by
      rw [dig, show (c * 2 + bit) / 2 = c by omega, hp, show ((48 + (c * 2 + bit) % 2 : Nat) : Int) = b by omega]
    have hc' : c * 2 + bit < 2 ^ (n + 1) := by rw [Nat.pow_succ]; omega
    have happ : p ++ b :: l = (p ++ [b]) ++ l := by simp
    rw [mB, ← hbit, bitD, if_pos ⟨hn30, hc30⟩]
    dsimp only
    by_cases hs : sy (c * 2 + bit) (n + 1) < 0
    · rw [if_pos hs, happ]
      have hone : (allOnes p && bit == 1) = allOnes (p ++ [b]) := by
        rw [allOnes_app]
        rcases hb with rfl | rfl
        · rw [hbit]; rfl
        · rw [hbit]; rfl
      rw [hone]
      refine mach l (p ++ [b]) (c * 2 + bit) (n + 1) out (k + 1) hl' hp' hc' (fun x hx hpx => ?_) (by rw [← happ]; exact hf)
      have hle := hpx.length_le
      rw [code_len, List.length_append, hlen, List.length_singleton] at hle
      by_cases hL : L x ≤ n
      · exact hno x hx (List.prefix_of_prefix_length_le hpx (List.prefix_append p [b]) (by rw [code_len, hlen]; exact hL))
      · have hLn : L x = n + 1 := by omega
        have he := hpx.eq_of_length (by rw [code_len, List.length_append, hlen, List.length_singleton]; exact hLn)
        rw [hp'] at he
        unfold code at he
        rw [hLn] at he
        have hi := dig_inj _ _ _ he
        have hCx := C_lt x hx
        rw [hLn] at hCx
        rw [Nat.mod_eq_of_lt hCx, Nat.mod_eq_of_lt hc'] at hi
        have := sy_hit x hx
        rw [hi, hLn] at this
        omega
    · rw [if_neg hs]
      obtain ⟨x, hx, he, hL, hCx⟩ := sy_only (c * 2 + bit) (n + 1) (by omega) (by omega)
      have hcode : code x = p ++ [b] := by unfold code; rw [hL, hCx, hp']
      have hq : Bits (p ++ b :: l) := bits_app.2 ⟨hpb, hl⟩
      have hpre : code x <+: p ++ b :: l := by rw [happ, hcode]; exact List.prefix_append _ _
      have hf' := fnd_hit hq hx hpre
      have hnil : p ++ b :: l ≠ [] := by simp
      rw [he, rdec, if_neg hnil, hf']
      by_cases h256 : (x : Int) = 256
      · rw [if_pos h256, if_pos h256]; rfl
      · rw [if_neg h256, if_neg h256, if_neg (by omega), Int.toNat_natCast]
        have hdrop : (p ++ b :: l).drop (L x) = l := by
          rw [happ, List.drop_left' (by rw [List.length_append, hlen, List.length_singleton]; exact hL.symm)]
        rw [hdrop]
        have hf2 : (p ++ b :: l).length = n + (l.length + 1) := by rw [List.length_append, hlen, List.length_cons]
        exact mach l [] 0 0 (out ++ [(x : Int)]) k hl' rfl (by decide) no_code_nil (by rw [List.nil_append]; omega)
theorem dec_eq (l : List Int) : dec l = some (rdec ((bitsOf l).length + 1) (bitsOf l) []) := by
  rw [dec_fin, decD_mB]
  exact mach (bitsOf l) [] 0 0 [] _ (bits_bitsOf l) rfl (by decide) no_code_nil (by rw [List.nil_append]; omega)
end Go.Proofs.Ythfildmldppihaa.Pt

/- Coding as plain lists of noughts and ones: what is coded is read again, what is read is coded again. -/
namespace Go.Proofs.Ythfildmldppihaa.Pt
open Go.RowKit Go.Proofs.Ythfildmldppihaa.Ga Go.Proofs.Ythfildmldppihaa.Gi Go.Proofs.Ythfildmldppihaa.Gp Go.Proofs.Ythfildmldppihaa.Ny
def codesOf : List Int → List Int
  | [] => []
  | x :: l => code x.toNat ++ codesOf l
theorem codesOf_app : ∀ a b, codesOf (a ++ b) = codesOf a ++ codesOf b
  | [], b => rfl
  | x :: a, b => by rw [List.cons_append, codesOf, codesOf, codesOf_app a b, List.append_assoc]
theorem bits_codesOf : ∀ l, Bits (codesOf l)
  | [] => fun x h => by cases h
  | x :: l => bits_app.2 ⟨bits_dig _ _, bits_codesOf l⟩
def ones (k : Nat) : List Int := List.replicate k 49
theorem bits_ones (k : Nat) : Bits (ones k) := fun _ h => Or.inr (List.eq_of_mem_replicate h)
def pad (q : List Int) : List Int := q ++ ones ((8 - q.length % 8) % 8)
theorem bits_pad {q : List Int} (h : Bits q) : Bits (pad q) := bits_app.2 ⟨h, bits_ones _⟩
theorem pad_len (q : List Int) : (pad q).length = (q.length + 7) / 8 * 8 := by
  unfold pad ones; rw [List.length_append, List.length_replicate]; omega
def Byt (l : List Int) : Prop := ∀ x ∈ l, 0 ≤ x ∧ x ≤ 255
theorem byt_app {a b : List Int} : Byt (a ++ b) ↔ Byt a ∧ Byt b :=
  ⟨fun h => ⟨fun x hx => h x (List.mem_append_left _ hx), fun x hx => h x (List.mem_append_right _ hx)⟩, fun h x hx => (List.mem_append.1 hx).elim (h.1 x) (h.2 x)⟩
/-! ### Coding -/
theorem bitsOf_one (c : Int) : bitsOf [c] = dig 8 c.toNat := by rw [bitsOf, bitsOf, List.append_nil]
theorem inn_bits : ∀ (k h n : Nat) (out : List Int), n ≤ 8 * k + 7 → bitsOf (inn k h n out).1 ++ dig (inn k h n out).2 h = bitsOf out ++ dig n h ∧ (inn k h n out).2 < 8
  | 0, h, n, out, hn => ⟨rfl, by show n < 8; omega⟩
  | k + 1, h, n, out, hn => by
    rw [inn]
    by_cases h8 : 8 ≤ n
    · rw [if_pos h8]
      obtain ⟨h1, h2⟩ := inn_bits k h (n - 8) (out ++ [((h / 2 ^ (n - 8) % 256 : Nat) : Int)]) (by omega)
      refine ⟨?_, h2⟩
      rw [h1, bitsOf_app, bitsOf_one, Int.toNat_natCast, show (256 : Nat) = 2 ^ 8 from rfl, dig_mod 8 8 _ (Nat.le_refl _), List.append_assoc, ← dig_add, show 8 + (n - 8) = n by omega]
    · rw [if_neg h8]; exact ⟨rfl, by omega⟩
theorem inn_byt : ∀ (k h n : Nat) (out : List Int), Byt out → Byt (inn k h n out).1
  | 0, _, _, _, h => h
  | k + 1, h, n, out, ho => by
    rw [inn]
    split
    · exact inn_byt k h _ _ (byt_app.2 ⟨ho, fun x hx => by rw [List.mem_singleton] at hx; omega⟩)
    · exact ho
theorem next_dig (h c n : Nat) (hc : c < 257) (hn : n + L c ≤ 64) : dig (n + L c) (nextH h c) = dig n h ++ code c := by
  have hl := L_rng c hc
  have hC := C_lt c hc
  have e1 : h * 2 ^ L c % 18446744073709551616 = 2 ^ L c * (h % 2 ^ (64 - L c)) := by
    rw [show (18446744073709551616 : Nat) = 2 ^ (64 - L c) * 2 ^ L c by rw [← Nat.pow_add, show 64 - L c + L c = 64 by omega], Nat.mul_mod_mul_right, Nat.mul_comm]
  have e2 : nextH h c = 2 ^ L c * (h % 2 ^ (64 - L c)) + C c := by
    unfold nextH
    rw [e1, ← Nat.two_pow_add_eq_or_of_lt hC]
  rw [dig_add, e2]
  have e3 : (2 ^ L c * (h % 2 ^ (64 - L c)) + C c) / 2 ^ L c = h % 2 ^ (64 - L c) := by
    rw [Nat.mul_add_div (Nat.two_pow_pos _), Nat.div_eq_of_lt hC, Nat.add_zero]
  have e4 : dig (L c) (2 ^ L c * (h % 2 ^ (64 - L c)) + C c) = code c := by
    rw [← dig_mod (L c) (L c) _ (Nat.le_refl _), Nat.mul_add_mod, dig_mod _ _ _ (Nat.le_refl _)]; rfl
  rw [e3, e4, dig_mod n _ h (by omega)]
theorem dig_full : ∀ m, m ≤ 8 → dig m (2 ^ m - 1) = ones m := by decide +kernel
theorem last_dig (h n m : Nat) (hnm : m + n = 8) : dig 8 (h * 2 ^ m % 256 ||| (2 ^ m - 1)) = dig n h ++ ones m := by
  have hp := Nat.two_pow_pos m
  have e1 : h * 2 ^ m % 256 = 2 ^ m * (h % 2 ^ n) := by
    rw [show (256 : Nat) = 2 ^ n * 2 ^ m by rw [← Nat.pow_add, show n + m = 8 by omega], Nat.mul_mod_mul_right, Nat.mul_comm]
  rw [e1, ← Nat.two_pow_add_eq_or_of_lt (by omega : 2 ^ m - 1 < 2 ^ m), show dig 8 = dig (n + m) by rw [show n + m = 8 by omega], dig_add]
  have e3 : (2 ^ m * (h % 2 ^ n) + (2 ^ m - 1)) / 2 ^ m = h % 2 ^ n := by
    rw [Nat.mul_add_div hp, Nat.div_eq_of_lt (by omega), Nat.add_zero]
  have e4 : dig m (2 ^ m * (h % 2 ^ n) + (2 ^ m - 1)) = ones m := by
    rw [← dig_mod m m _ (Nat.le_refl _), Nat.mul_add_mod, dig_mod _ _ _ (Nat.le_refl _), dig_full m (by omega)]
  rw [e3, e4, dig_mod n n h (Nat.le_refl _)]
theorem encL_bits : ∀ (l : List Int) (h n : Nat) (out : List Int), Byt l → n < 8 → bitsOf (encL l h n out) = pad (bitsOf out ++ dig n h ++ codesOf l)
  | [], h, n, out, _, hn => by
    rw [encL, codesOf, List.append_nil]
    have hlen : (bitsOf out ++ dig n h).length = 8 * out.length + n := by rw [List.length_append, bitsOf_len, dig_length]
    by_cases h0 : 0 < n
    · rw [if_pos h0, bitsOf_app, bitsOf_one, Int.toNat_natCast, last_dig h n (8 - n) (by omega)]
      unfold pad
      rw [hlen, show (8 - (8 * out.length + n) % 8) % 8 = 8 - n by omega, List.append_assoc]
    · obtain rfl : n = 0 := by omega
      rw [if_neg h0]
      unfold pad
      rw [hlen, show (8 - (8 * out.length + 0) % 8) % 8 = 0 by omega]
      simp [dig, ones]
  | c :: l, h, n, out, hb, hn => by
    have hc := hb c (List.mem_cons_self ..)
    have hl : Byt l := fun x hx => hb x (List.mem_cons_of_mem _ hx)
    have hL := L_rng c.toNat (by omega)
    obtain ⟨h1, h2⟩ := inn_bits 5 (nextH h c.toNat) (n + L c.toNat) out (by omega)
    rw [encL, encL_bits l _ _ _ hl h2, h1, next_dig h c.toNat n (by omega) (by omega), codesOf]
    simp only [List.append_assoc]
theorem encL_byt : ∀ (l : List Int) (h n : Nat) (out : List Int), Byt out → n < 8 → Byt (encL l h n out)
  | [], h, n, out, ho, hn => by
    rw [encL]
    split
    · refine byt_app.2 ⟨ho, fun x hx => ?_⟩
      rw [List.mem_singleton] at hx
      have := Nat.or_lt_two_pow (n := 8) (show h * 2 ^ (8 - n) % 256 < 2 ^ 8 by omega) (show 2 ^ (8 - n) - 1 < 2 ^ 8 by
        have : 2 ^ (8 - n) ≤ 2 ^ 8 := Nat.pow_le_pow_right (by decide) (by omega)
        have := Nat.two_pow_pos (8 - n)
        omega)
      omega
    · exact ho
  | c :: l, h, n, out, ho, hn => by
    rw [encL]
    by_cases hh : n + L c.toNat ≤ 47
    · exact encL_byt l _ _ _ (inn_byt _ _ _ _ ho) (inn_bits 5 _ _ out (by omega)).2
    · exfalso
      have : L c.toNat ≤ 30 := by
        by_cases hc : c.toNat < 257
        · exact (L_rng _ hc).2
        · unfold L; rw [List.getD_eq_getElem?_getD, List.getElem?_eq_none (by rw [lens_length]; omega)]; decide
      omega
/-- A text's bytes. -/
def enc (l : List Int) : List Int := encL l 0 0 []
theorem enc_bits {l : List Int} (h : Byt l) : bitsOf (enc l) = pad (codesOf l) := by
  unfold enc; rw [encL_bits l 0 0 [] h (by decide)]; rfl
theorem enc_byt (l : List Int) : Byt (enc l) := encL_byt l 0 0 [] (fun x h => by cases h) (by decide)
theorem enc_len {l : List Int} (h : Byt l) : (enc l).length = ((codesOf l).length + 7) / 8 := by
  have e := congrArg List.length (enc_bits h)
  rw [bitsOf_len, pad_len] at e
  omega
theorem bitsOf_inj : ∀ (a b : List Int), Byt a → Byt b → bitsOf a = bitsOf b → a = b
  | [], [], _, _, _ => rfl
  | [], y :: b, _, _, h => by have := congrArg List.length h; rw [bitsOf_len, bitsOf_len] at this; simp at this
  | x :: a, [], _, _, h => by have := congrArg List.length h; rw [bitsOf_len, bitsOf_len] at this; simp at this
  | x :: a, y :: b, ha, hb, h => by
    rw [bitsOf, bitsOf] at h
    obtain ⟨h1, h2⟩ := List.append_inj h (by rw [dig_length, dig_length])
    have hx := ha x (List.mem_cons_self ..)
    have hy := hb y (List.mem_cons_self ..)
    have h3 := dig_inj 8 _ _ h1
    rw [Nat.mod_eq_of_lt (by omega), Nat.mod_eq_of_lt (by omega)] at h3
    rw [bitsOf_inj a b (fun z hz => ha z (List.mem_cons_of_mem _ hz)) (fun z hz => hb z (List.mem_cons_of_mem _ hz)) h2, show x = y by omega]
/-! ### Decoding -/
theorem seven_none : ∀ x : Nat, x < 257 → (code x).isPrefixOf (ones 7) = false := by decide +kernel
theorem ones_none {k : Nat} (hk : k ≤ 7) : ∀ x : Nat, x < 257 → ¬ code x <+: ones k := fun x hx h => by
  have h7 : ones 7 = ones k ++ ones (7 - k) := by unfold ones; rw [List.replicate_append_replicate, show k + (7 - k) = 7 by omega]
  have := List.isPrefixOf_iff_prefix.2 (h.trans (h7 ▸ List.prefix_append _ _))
  rw [seven_none x hx] at this
  cases this
theorem allOnes_ones (k : Nat) : allOnes (ones k) = true := by
  unfold allOnes ones; rw [List.all_eq_true]; intro x hx; rw [List.eq_of_mem_replicate hx]; rfl
theorem ones_of_all {q : List Int} (h : allOnes q = true) : q = ones q.length := by
  unfold allOnes at h; rw [List.all_eq_true] at h
  exact List.eq_replicate_iff.2 ⟨rfl, fun x hx => by have := h x hx; simpa using this⟩
theorem rdec_codes : ∀ (t : List Int) (fuel k : Nat) (out : List Int), Byt t → k ≤ 7 → (codesOf t ++ ones k).length < fuel → rdec fuel (codesOf t ++ ones k) out = (out ++ t, 0)
  | [], fuel, k, out, _, hk, hf => by
    obtain ⟨m, rfl⟩ : ∃ m, fuel = m + 1 := ⟨fuel - 1, by omega⟩
    rw [codesOf, List.nil_append, List.append_nil, rdec]
    by_cases h0 : ones k = []
    · rw [if_pos h0]
    · rw [if_neg h0, fnd_none (ones_none hk), if_neg (by decide), if_pos (by decide), if_neg (by rw [allOnes_ones]; unfold ones; rw [List.length_replicate]; simp; omega)]
  | x :: t, fuel, k, out, hb, hk, hf => by
    obtain ⟨m, rfl⟩ : ∃ m, fuel = m + 1 := ⟨fuel - 1, by omega⟩
    have hx := hb x (List.mem_cons_self ..)
    have ht : Byt t := fun z hz => hb z (List.mem_cons_of_mem _ hz)
    have hxl : x.toNat < 257 := by omega
    have hL := L_rng x.toNat hxl
    have hcl := code_len x.toNat
    rw [codesOf, List.append_assoc] at hf ⊢
    have hlen : (code x.toNat ++ (codesOf t ++ ones k)).length = L x.toNat + (codesOf t ++ ones k).length := by rw [List.length_append, hcl]
    have hbits : Bits (code x.toNat ++ (codesOf t ++ ones k)) := bits_app.2 ⟨bits_dig _ _, bits_app.2 ⟨bits_codesOf t, bits_ones k⟩⟩
    have hfnd := fnd_hit hbits hxl (List.prefix_append _ _)
    rw [rdec, if_neg (by intro e; have := congrArg List.length e; rw [hlen] at this; simp at this; omega), hfnd, if_neg (by omega), if_neg (by omega), Int.toNat_natCast, List.drop_left' hcl,
      rdec_codes t m k _ ht hk (by omega), show ((x.toNat : Nat) : Int) = x by omega]
    simp
theorem rdec_back : ∀ (fuel : Nat) (q out r : List Int), q.length < fuel → rdec fuel q out = (r, 0) → ∃ (t : List Int) (k : Nat), q = codesOf t ++ ones k ∧ k ≤ 7 ∧ r = out ++ t ∧ Byt t
  | 0, q, out, r, hf, _ => by omega
  | m + 1, q, out, r, hf, h => by
    rw [rdec] at h
    by_cases h0 : q = []
    · rw [if_pos h0] at h
      injection h with h1 _
      exact ⟨[], 0, by rw [h0]; rfl, by omega, by rw [h1, List.append_nil], fun x hx => by cases hx⟩
    · rw [if_neg h0] at h
      by_cases h1 : fnd q = 256
      · rw [if_pos h1] at h; injection h with _ h3; cases h3
      · rw [if_neg h1] at h
        by_cases h2 : fnd q < 0
        · rw [if_pos h2] at h
          by_cases h4 : 7 < q.length ∨ allOnes q = false
          · rw [if_pos h4] at h; injection h with _ h3; cases h3
          · rw [if_neg h4] at h
            injection h with h5 _
            have hall : allOnes q = true := by cases ha : allOnes q with
              | true => rfl
              | false => exact absurd (Or.inr ha) h4
            exact ⟨[], q.length, by rw [codesOf, List.nil_append]; exact ones_of_all hall, by omega, by rw [h5, List.append_nil], fun x hx => by cases hx⟩
        · rw [if_neg h2] at h
          rcases fnd_is q with he | ⟨x, hx, he, hp⟩
          · omega
          · rw [he, Int.toNat_natCast] at h
            have hL := L_rng x hx
            obtain ⟨q', hq'⟩ := hp
            have hd : q.drop (L x) = q' := by rw [← hq', List.drop_left' (code_len x)]
            rw [hd] at h
            have hlen : q.length = L x + q'.length := by rw [← hq', List.length_append, code_len]
            obtain ⟨t, k, e1, e2, e3, e4⟩ := rdec_back m q' _ r (by omega) h
            refine ⟨(x : Int) :: t, k, ?_, e2, by rw [e3]; simp, fun z hz => ?_⟩
            · rw [codesOf, Int.toNat_natCast, List.append_assoc, ← e1, hq']
            · rcases List.mem_cons.1 hz with rfl | hz
              · omega
              · exact e4 z hz
theorem rdec_err : ∀ (fuel : Nat) (q out : List Int), (rdec fuel q out).2 = 0 ∨ ((rdec fuel q out).1 = [] ∧ ((rdec fuel q out).2 = 20 ∨ (rdec fuel q out).2 = 21))
  | 0, q, out => Or.inl rfl
  | m + 1, q, out => by
    rw [rdec]
    split
    · exact Or.inl rfl
    · split
      · exact Or.inr ⟨rfl, Or.inr rfl⟩
      · split
        · split
          · exact Or.inr ⟨rfl, Or.inl rfl⟩
          · exact Or.inl rfl
        · exact rdec_err m _ _
theorem rdec_byt {fuel : Nat} {q r : List Int} {e : Int} (hf : q.length < fuel) (h : rdec fuel q [] = (r, e)) : Byt r := by
  by_cases he : e = 0
  · subst he
    obtain ⟨t, _, _, _, e3, e4⟩ := rdec_back fuel q [] r hf h
    rw [e3]; exact e4
  · have := rdec_err fuel q []
    rw [h] at this
    rcases this with h1 | ⟨h1, _⟩
    · exact absurd h1 he
    · dsimp only at h1; rw [h1]; exact fun x hx => by cases hx
/-- What is coded is read again. -/
theorem dec_enc {l : List Int} (h : Byt l) : Gs.dec (enc l) = some (l, 0) := by
  rw [dec_eq, enc_bits h]
  unfold pad
  rw [rdec_codes l _ _ [] h (by omega) (Nat.lt_succ_self _)]; rfl
/-- What is read is coded again. -/
theorem enc_dec {b r : List Int} (hb : Byt b) (h : Gs.dec b = some (r, 0)) : enc r = b ∧ Byt r := by
  rw [dec_eq] at h
  obtain ⟨t, k, e1, e2, e3, e4⟩ := rdec_back _ _ _ _ (Nat.lt_succ_self _) (Option.some.inj h)
  rw [List.nil_append] at e3
  subst e3
  refine ⟨bitsOf_inj _ _ (enc_byt _) hb ?_, e4⟩
  rw [enc_bits e4, e1]
  unfold pad
  have hl := congrArg List.length e1
  rw [bitsOf_len, List.length_append] at hl
  unfold ones at hl
  rw [List.length_replicate] at hl
  rw [show (8 - (codesOf r).length % 8) % 8 = k by omega]
end Go.Proofs.Ythfildmldppihaa.Pt
