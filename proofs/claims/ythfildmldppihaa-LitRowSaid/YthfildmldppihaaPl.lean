/- What the lit functions come to, in plain lists. -/
import Derived.Test.YthfildmldppihaaPc
import Derived.Test.YthfildmldppihaaPx
import Derived.Test.YthfildmldppihaaQ4
namespace Go.Proofs.Ythfildmldppihaa.Pure
open Go.RowKit Go.Proofs.Ythfildmldppihaa.Q Go.Proofs.Ythfildmldppihaa.Gv Go.Proofs.Ythfildmldppihaa.Ny Go.Proofs.Ythfildmldppihaa.Pt Go.Proofs.YthfildmldppihaaW.PrintWords Go.Proofs.YthfildmldppihaaW.PrintLast
theorem awake4_at : squintlaw04_awake.f 20 = some true := by kernel_rfl
theorem awake4 {k : Nat} (hk : 20 ≤ k) : squintlaw04_awake.f k = some true := at_rounds squintlaw04_awake.mono hk awake4_at
/-- A text's bytes, coded or plain. -/
def lenc (l : List Int) (c : Bool) : List Int := if c = true then Px.enc ((enc l).length : Int) 7 1 ++ enc l else Px.enc (l.length : Int) 7 0 ++ l
theorem right7 {n m : Int} (h0 : 0 ≤ n) (h1 : n ≤ 100000) (hm : 0 ≤ m) (hm1 : m ≤ 1) : Px.Right n 7 m := by
  refine ⟨by omega, by omega, h0, by omega, hm, ?_⟩
  have : Px.P2 (8 - 7) = 2 := rfl
  omega
theorem penc_len {n m : Int} (h0 : 0 ≤ n) (h1 : n ≤ 100000) (hm : 0 ≤ m) (hm1 : m ≤ 1) : 1 ≤ (Px.enc n 7 m).length ∧ (Px.enc n 7 m).length ≤ 6 := by
  have h := Px.len_enc (right7 h0 h1 hm hm1)
  have := Px.dl_bd (n - (Px.P2 7 - 1))
  split at h <;> omega
theorem encode_lit {l : List Int} (hl : Byt l) (hn : l.length ≤ 4096) (c : Bool) {k : Nat} (hk : 10 ≤ k) : lit_Encode.f k l c = some (lenc l c, 0) := by
  have hes := enc_size hl
  unfold lit_Encode.f lenc
  have hc : ¬ (l.length : Int) > 4096 := by omega
  rw [if_neg hc]
  cases c with
  | true =>
    have h1 := penc_len (n := ((enc l).length : Int)) (m := 1) (by omega) (by omega) (by omega) (by omega)
    have h2 : (Px.enc ((enc l).length : Int) 7 1).length + (enc l).length < 140737488355328 := by omega
    rw [if_pos rfl, if_pos rfl, encode_ok hl (by omega), Option.bind_some, Px.encode_yes (right7 (by omega) (by omega) (by omega) (by omega)) hk, Option.bind_some]
    dsimp only
    rw [if_pos h2]
  | false =>
    have h1 := penc_len (n := (l.length : Int)) (m := 0) (by omega) (by omega) (by omega) (by omega)
    have h2 : (Px.enc (l.length : Int) 7 0).length + l.length < 140737488355328 := by omega
    rw [if_neg (by decide), if_neg (by decide), Px.encode_yes (right7 (by omega) (by omega) (by omega) (by omega)) hk, Option.bind_some]
    dsimp only
    rw [if_pos h2]
theorem encode_big {l : List Int} (hn : 4096 < l.length) (c : Bool) (k : Nat) : lit_Encode.f k l c = some ([], 11) := by
  unfold lit_Encode.f
  have hc : (l.length : Int) > 4096 := by omega
  rw [if_pos hc]
theorem lenc_byt {l : List Int} (hl : Byt l) (hn : l.length ≤ 4096) (c : Bool) : Byt (lenc l c) := by
  have hes := enc_size hl
  unfold lenc
  cases c with
  | true => rw [if_pos rfl]; exact byt_app.2 ⟨Px.enc_okb (right7 (by omega) (by omega) (by omega) (by omega)), enc_byt l⟩
  | false => rw [if_neg (by decide)]; exact byt_app.2 ⟨Px.enc_okb (right7 (by omega) (by omega) (by omega) (by omega)), hl⟩
theorem lenc_len {l : List Int} (hl : Byt l) (hn : l.length ≤ 4096) (c : Bool) : 1 ≤ (lenc l c).length ∧ (lenc l c).length ≤ 4 * l.length + 7 := by
  have hes := enc_size hl
  unfold lenc
  cases c with
  | true =>
    have h1 := penc_len (n := ((enc l).length : Int)) (m := 1) (by omega) (by omega) (by omega) (by omega)
    rw [if_pos rfl, List.length_append]; omega
  | false =>
    have h1 := penc_len (n := (l.length : Int)) (m := 0) (by omega) (by omega) (by omega) (by omega)
    rw [if_neg (by decide), List.length_append]; omega
/-! ### Decoding -/
def lbody (s : List Int) (used lim c : Int) : List Int × Int × Int :=
  if c / 128 = 1 then (if (rdec ((bitsOf s).length + 1) (bitsOf s) []).2 = 0 then (if ((rdec ((bitsOf s).length + 1) (bitsOf s) []).1.length : Int) > lim then ([], 0, 22) else ((rdec ((bitsOf s).length + 1) (bitsOf s) []).1, used, 0)) else ([], 0, (rdec ((bitsOf s).length + 1) (bitsOf s) []).2))
  else (if (s.length : Int) > lim then ([], 0, 22) else (s, used, 0))
def ldec (b : List Int) (lim : Int) : List Int × Int × Int :=
  if (Px.decode b 7).2.2 = 0 then (if (Px.decode b 7).1 > (b.length : Int) - (Px.decode b 7).2.1 then ([], 0, 16) else lbody ((b.take ((Px.decode b 7).2.1 + (Px.decode b 7).1).toNat).drop (Px.decode b 7).2.1.toNat) ((Px.decode b 7).2.1 + (Px.decode b 7).1) lim (rd b 0))
  else ([], 0, (Px.decode b 7).2.2)
theorem dec_facts : ∀ (l : List Int) (x w : Int) (i : Nat), Px.Okb l → 0 ≤ x → 0 ≤ w → (Px.dec l x w i).2.2 = 0 → 0 ≤ (Px.dec l x w i).1 ∧ (Px.dec l x w i).1 ≤ 2147483647 ∧ (i : Int) + 2 ≤ (Px.dec l x w i).2.1 ∧ (Px.dec l x w i).2.1 ≤ (i : Int) + 1 + l.length
  | [], x, w, i, _, _, _, h => by simp [Px.dec] at h
  | c :: l, x, w, i, hl, hx, hw, h => by
    have hc := hl c (List.mem_cons_self ..)
    have hcw : 0 ≤ c % 128 * w := Int.mul_nonneg (by omega) hw
    rw [Px.dec] at h ⊢
    by_cases h1 : 5 ≤ i
    · rw [if_pos h1] at h; simp at h
    · rw [if_neg h1] at h ⊢
      by_cases h2 : x + c % 128 * w > 2147483647
      · rw [if_pos h2] at h; simp at h
      · rw [if_neg h2] at h ⊢
        by_cases h3 : c < 128
        · rw [if_pos h3]
          rw [List.length_cons]
          dsimp only
          omega
        · rw [if_neg h3] at h ⊢
          have ih := dec_facts l (x + c % 128 * w) (w * 128) (i + 1) (fun y hy => hl y (List.mem_cons_of_mem _ hy)) (by omega) (by omega) h
          rw [List.length_cons]
          omega
theorem decode_facts {b : List Int} (hb : Byt b) (h : (Px.decode b 7).2.2 = 0) : 0 ≤ (Px.decode b 7).1 ∧ (Px.decode b 7).1 ≤ 2147483647 ∧ 1 ≤ (Px.decode b 7).2.1 ∧ (Px.decode b 7).2.1 ≤ b.length ∧ b ≠ [] := by
  cases b with
  | nil => simp [Px.decode] at h
  | cons c l =>
    have hc := hb c (List.mem_cons_self ..)
    have hp : Px.P2 7 = 128 := rfl
    unfold Px.decode at h ⊢
    rw [hp] at h ⊢
    dsimp only at h ⊢
    by_cases h1 : c % 128 < 128 - 1
    · rw [if_pos h1]
      rw [List.length_cons]
      dsimp only
      exact ⟨by omega, by omega, by omega, by omega, by simp⟩
    · rw [if_neg h1] at h ⊢
      have := dec_facts l (c % 128) 1 0 (fun y hy => hb y (List.mem_cons_of_mem _ hy)) (by omega) (by omega) h
      rw [List.length_cons]
      exact ⟨by omega, by omega, by omega, by omega, by simp⟩
theorem stretch_len {b : List Int} {x y : Int} (h0 : 0 ≤ x) (h1 : x ≤ y) (h2 : y ≤ b.length) : ((b.take y.toNat).drop x.toNat).length = (y - x).toNat := by
  rw [List.length_drop, List.length_take]; omega
theorem byt_stretch {b : List Int} (hb : Byt b) (x y : Nat) : Byt ((b.take y).drop x) := fun z hz => hb z (List.mem_of_mem_take (List.mem_of_mem_drop hz))
theorem decode_lit {b : List Int} (hb : Byt b) (hn : b.length ≤ 100000) (lim : Int) {k : Nat} (hk : 10 ≤ k) : lit_Decode.f k b lim = some (ldec b lim) := by
  have hd := Px.decode_yes (b := 7) hb (by omega) (by omega) (by omega) hk
  have hf := decode_facts hb
  unfold lit_Decode.f ldec
  rw [hd, Option.bind_some]
  obtain ⟨⟨n, at', e⟩, hD⟩ : ∃ D, D = Px.decode b 7 := ⟨_, rfl⟩
  rw [← hD] at hf ⊢
  dsimp only at hf ⊢
  by_cases he : e = 0
  · obtain ⟨f0, f1, f2, f3, f4⟩ := hf he
    have w1 : wrap64 ((b.length : Int) - at') = (b.length : Int) - at' := by unfold wrap64; omega
    have w2 : wrap64 (at' + n) = at' + n := by unfold wrap64; omega
    rw [if_pos he, if_pos he, w1, w2]
    by_cases hs : n > (b.length : Int) - at'
    · rw [if_pos hs, if_pos hs]
    · have c1 : (0 : Int) ≤ at' := by omega
      have c2 : at' ≤ at' + n := by omega
      have c3 : at' + n ≤ (b.length : Int) := by omega
      have hsl := stretch_len c1 c2 c3
      have hsb := byt_stretch hb at'.toNat (at' + n).toNat
      have hm := Px.mark_ok (b := 7) hb f4 (by omega) (by omega)
      have hp : Px.P2 7 = 128 := rfl
      rw [hp] at hm
      rw [if_neg hs, if_neg hs, if_pos c1, if_pos c2, if_pos c3, hm]
      obtain ⟨s, hsd⟩ : ∃ s, s = (b.take (at' + n).toNat).drop at'.toNat := ⟨_, rfl⟩
      rw [← hsd] at hsl hsb ⊢
      have hcl : bytes_Clone.f s = some s := if_pos (by omega)
      rw [hcl, Option.bind_some, Option.bind_some]
      dsimp only
      unfold lbody
      by_cases hc : rd b 0 / 128 = 1
      · rw [if_pos hc, if_pos hc, decode_ok hsb (by omega), Option.bind_some]
        by_cases h0 : (rdec ((bitsOf s).length + 1) (bitsOf s) []).2 = 0
        · rw [if_pos h0, if_pos h0]; split <;> rfl
        · rw [if_neg h0, if_neg h0]
      · rw [if_neg hc, if_neg hc]; split <;> rfl
  · rw [if_neg he, if_neg he]
theorem head_mark {n m : Int} (h0 : 0 ≤ n) (_hm : 0 ≤ m) (more : List Int) : rd (Px.enc n 7 m ++ more) 0 / 128 = m := by
  have hp : Px.P2 7 = 128 := rfl
  have hcons : ∀ (x : Int) (l : List Int), rd (x :: l) 0 = x := fun _ _ => rfl
  unfold Px.enc
  rw [hp]
  by_cases h : n < 128 - 1
  · rw [if_pos h, List.cons_append, hcons]
    omega
  · rw [if_neg h, List.cons_append, hcons]
    omega
theorem ldec_head {t : List Int} (m : Int) (hm : 0 ≤ m) (hm1 : m ≤ 1) (hn : t.length ≤ 100000) (more : List Int) (lim : Int) :
    ldec (Px.enc (t.length : Int) 7 m ++ t ++ more) lim = lbody t ((Px.enc (t.length : Int) 7 m ++ t).length : Int) lim (rd (Px.enc (t.length : Int) 7 m ++ t ++ more) 0) := by
  have hd := Px.decode_enc (right7 (n := (t.length : Int)) (m := m) (by omega) (by omega) hm hm1) (t ++ more)
  rw [← List.append_assoc] at hd
  unfold ldec
  rw [hd]
  dsimp only
  have c1 : ¬ (t.length : Int) > ((Px.enc (t.length : Int) 7 m ++ t ++ more).length : Int) - ((Px.enc (t.length : Int) 7 m).length : Int) := by simp only [List.length_append]; omega
  rw [if_pos rfl, if_neg c1]
  have e2 : ((Px.enc (t.length : Int) 7 m).length : Int) + (t.length : Int) = ((Px.enc (t.length : Int) 7 m ++ t).length : Int) := by rw [List.length_append]; omega
  rw [e2, Int.toNat_natCast, Int.toNat_natCast, List.take_left' rfl, List.drop_left' rfl]
theorem ldec_lenc {l : List Int} (hl : Byt l) (hn : l.length ≤ 4096) (c : Bool) (more : List Int) (lim : Int) :
    ldec (lenc l c ++ more) lim = if (l.length : Int) > lim then ([], 0, 22) else (l, ((lenc l c).length : Int), 0) := by
  have hes := enc_size hl
  unfold lenc
  cases c with
  | true =>
    rw [if_pos rfl, ldec_head 1 (by omega) (by omega) (by omega)]
    unfold lbody
    rw [List.append_assoc, head_mark (by omega) (by omega), if_pos rfl]
    have hr : rdec ((bitsOf (enc l)).length + 1) (bitsOf (enc l)) [] = (l, 0) := Option.some.inj ((dec_eq (enc l)).symm.trans (dec_enc hl))
    rw [hr]
    dsimp only
    rw [if_pos rfl]
  | false =>
    rw [if_neg (by decide), ldec_head 0 (by omega) (by omega) (by omega)]
    unfold lbody
    rw [List.append_assoc, head_mark (by omega) (by omega), if_neg (by decide)]
end Go.Proofs.Ythfildmldppihaa.Pure
