/- squintref02.Text. squintref02.Decode. -/
import Derived.Test.YthfildmldppihaaA8
import Derived.Test.YthfildmldppihaaA7
import Derived.Test.YthfildmldppihaaA5
/- squintref02.Text. -/
namespace Go.Proofs.Ythfildmldppihaa.Gv
open Go.RowKit Go.Proofs.Ythfildmldppihaa.Ga Go.Proofs.Ythfildmldppihaa.Gi Go.Proofs.Ythfildmldppihaa.Gn Go.Proofs.Ythfildmldppihaa.Ny Go.Proofs.Ythfildmldppihaa.Nz Go.Proofs.Ythfildmldppihaa.Pt Go.Proofs.YthfildmldppihaaW.PrintWords Go.Proofs.YthfildmldppihaaW.PrintLast Go.Proofs.YthfildmldppihaaW.PrintMore
/-- A string's bytes as numbers. -/
def bs (a : ByteArray) : List Int := a.data.toList.map (fun b => (b.toNat : Int))
theorem bs_len (a : ByteArray) : (bs a).length = a.size := by unfold bs; rw [List.length_map]; rfl
theorem bs_byt (a : ByteArray) : Byt (bs a) := fun x hx => by
  unfold bs at hx
  obtain ⟨b, _, rfl⟩ := List.mem_map.1 hx
  have := b.toNat_lt
  omega
theorem bs_at (a : ByteArray) (i : Nat) (h : i < a.size) : bt a (i : Int) = rd (bs a) (i : Int) := by
  unfold bt rd bs
  rw [dif_pos (by simpa using h)]
  have h2 : i < (a.data.toList.map (fun b : UInt8 => (b.toNat : Int))).length := by rw [List.length_map]; exact h
  simp only [Int.toNat_natCast]
  rw [List.getD_eq_getElem?_getD, List.getElem?_eq_getElem h2, Option.getD_some, List.getElem_map]
  rfl
theorem bs_str {l : List Int} (h : Byt l) : bs (strOfNums l) = l := by
  unfold bs strOfNums
  rw [List.map_map]
  conv => rhs; rw [← List.map_id l]
  apply List.map_congr_left
  intro x hx
  have := h x hx
  show (((UInt8.ofNat x.toNat).toNat : Nat) : Int) = x
  rw [UInt8.toNat_ofNat']
  omega
/-- The table of codes in a block. -/
structure Cd (b : Nat) (W : World) : Prop where
  lt : b < W.heap.size
  at' : ∀ x, x < 257 → W.cell? ⟨b, x, none⟩ = some (cv x)
theorem Cd.keep {b : Nat} {W W' : World} (h : Cd b W) (hb : Below W.heap.size W W') : Cd b W' :=
  ⟨Nat.lt_of_lt_of_le h.lt hb.size, fun x hx => (World.cell?_of_block (hb.block b h.lt)).trans (h.at' x hx)⟩
theorem store_codes {ops : Array Oper} {rest : List Oper} {op : Oper} {a : Act} {w W : World} {Q : Exit → Act → World → Prop} (hgd : op.guard = none) (x y : Operand) (ho : op.op = .store 41 x y)
    (base b : Nat) (hx : a.eval x = .pointer (some ⟨b, 0, none⟩)) (hy : a.eval y = .agg codesV.toArray) (hb : W.heap[b]? = some (.cells Try.zeroCells41 41 (0, 0))) (hbb : base ≤ b) (HB : Below base w W)
    (h : ∀ W1, Cd b W1 → Below base w W1 → wpList Try.prog ops Q rest (a.put op.dst undef) W1) : wpList Try.prog ops Q (op :: rest) a W := by
  have hth : W.there b 0 257 := fun j hj => by
    obtain ⟨s, hs⟩ := isS_eq (zs j hj)
    exact ⟨by rw [Nat.zero_add, blk_cell hb j, hs]; rfl, blk_frozen hb _⟩
  refine wpList_store_mid hgd 41 x y ho b 0 codesV.toArray hx hy (by rw [size_codes]; exact hth) (by rw [size_codes]; kernel_rfl) codesV_one (h _ ⟨?_, fun x hx => ?_⟩ (below_sets hbb codesV 0 _ HB))
  · have h1 : b < W.heap.size := by
      rcases Nat.lt_or_ge b W.heap.size with h' | h'
      · exact h'
      · rw [Array.getElem?_eq_none h'] at hb; cases hb
    exact Nat.lt_of_lt_of_le h1 (below_sets (Nat.zero_le _) codesV 0 W (Below.refl 0 W)).size
  · have := World.rangeAt_setCells_same W b 0 codesV (by rw [codesV_len]; exact hth) x _ (codesV_at x hx)
    rw [Nat.zero_add] at this
    exact this
theorem codesOf_take (l : List Int) (i : Nat) (h : i < l.length) : codesOf (l.take (i + 1)) = codesOf (l.take i) ++ code (rd l (i : Int)).toNat := by
  have e : l.take (i + 1) = l.take i ++ [rd l (i : Int)] := by
    rw [List.take_add_one, List.getElem?_eq_getElem h]
    congr 1
    simp [rd, h]
  rw [e, codesOf_app]
  show _ ++ (code _ ++ []) = _
  rw [List.append_nil]
theorem codesOf_bd : ∀ l : List Int, Byt l → (codesOf l).length ≤ 30 * l.length
  | [], _ => by simp [codesOf]
  | x :: l, h => by
    have hx := h x (List.mem_cons_self ..)
    have hL := L_rng x.toNat (by omega)
    have ih := codesOf_bd l (fun y hy => h y (List.mem_cons_of_mem _ hy))
    rw [codesOf, List.length_append, code_len, List.length_cons]
    omega
def squintref02_Text.f (a0 : ByteArray) : Option ByteArray := if a0.size ≤ 100000 then some (strOfNums (pad (codesOf (bs a0)))) else none
set_option maxHeartbeats 8000000 in
set_option maxRecDepth 100000 in
theorem squintref02_Text.calls (a0 : ByteArray) (r : ByteArray) (w : World) (h : squintref02_Text.f a0 = some r) :
    Calls Try.prog 26 #[.string a0] w fun e w' => e = .returned (.string r) ∧ Below w.heap.size w w' := by
  unfold squintref02_Text.f at h
  split at h
  · rename_i hlen
    obtain rfl := Option.some.inj h
    clear h
    obtain ⟨l, hl⟩ : ∃ l, l = bs a0 := ⟨_, rfl⟩
    have hll : l.length = a0.size := by rw [hl, bs_len]
    have hlb : Byt l := by rw [hl]; exact bs_byt a0
    have HLA := Aside0.mk (fun i hi => by rw [hl]; exact bs_at a0 i hi : ∀ i : Nat, i < a0.size → bt a0 (i : Int) = rd l (i : Int))
    rw [← hl]
    have HLB := Aside0.mk hlb
    have HLL := Aside0.mk hl
    clear hl hlb
    have HB := Aside0.mk (Below.refl w.heap.size w)
    have hcl := Aside0.mk (codesOf_bd l HLB.out)
    go_enter Try.func26, Try.ntmps26
    go_wp2_with (first | (go_at_call 25; refine (codes_calls _).mono ?_; rintro e w6 ⟨rfl, hb⟩; have HB6 := Aside0.mk hb; clear HB hb) | (refine store_codes rfl (.tmp 3) (.tmp 6) rfl w.heap.size w6.heap.size rfl rfl (heap_alloc_new w6 _) HB6.out.size (HB6.out.alloc HB6.out.size _) ?_; intro w7 hcd hb; have HC := Aside0.mk hcd; have HB := Aside0.mk hb; clear HB6 hcd hb))
    go_loopg [4, 5] a0.size (fun g1 v4 v5 wr => ∃ (i : Nat) (s : ByteArray), v4 = .string s ∧ v5 = .int .i64 i ∧ i ≤ a0.size ∧ a0.size - i ≤ g1 ∧ s.size ≤ 30 * i ∧ Aside0 (s = strOfNums (codesOf (l.take i))) ∧ Aside0 (Cd w6.heap.size wr) ∧ Aside0 (Below w.heap.size w wr))
    case atStart => exact ⟨0, _, rfl, rfl, by omega, by omega, by show (⟨#[]⟩ : ByteArray).size ≤ _; exact Nat.zero_le _, ⟨rfl⟩, HC, HB⟩
    case round =>
      clear HC HB
      obtain ⟨i, s, rfl, rfl, hi, hg1, hss, HS, HC, HB⟩ := hrel
      by_cases hlt : i < a0.size
      · have hlz : (i : Int) < (a0.size : Int) := by omega
        have hd : decide ((i : Int) < (a0.size : Int)) = true := decide_eq_true hlz
        have p5 : (0 ≤ (i : Int)) = True := eq_true (by omega)
        have q5 : ((i : Int) < (a0.size : Int)) = True := eq_true hlz
        obtain ⟨c, hc⟩ : ∃ c : Nat, rd l (i : Int) = (c : Int) := ⟨(rd l (i : Int)).toNat, by
          have h1 := bt_range a0 (i : Int)
          rw [HLA.out i hlt] at h1; omega⟩
        have hcb : c < 256 := by
          have h1 := bt_range a0 (i : Int)
          rw [HLA.out i hlt, hc] at h1; omega
        have hx5 : ∀ h : i < a0.size, ((a0[i]'h).toNat : Int) = (c : Int) := fun h => (bt_at a0 (i : Int) h).trans ((HLA.out i hlt).trans hc)
        have hw5 : wrap64 (c : Int) = (c : Int) := by unfold wrap64; omega
        have hcell := HC.out.at' c (by omega)
        unfold cv at hcell
        obtain ⟨t, ht⟩ : ∃ t, t = strOfNums (dig (L c) (C c)) := ⟨_, rfl⟩
        have htz : t.size ≤ 30 := by
          rw [ht, strOfNums_size, dig_length]
          exact (L_rng c (by omega)).2
        rw [← ht] at hcell
        have HT := Aside0.mk ht
        have HCC := Aside0.mk hc
        have hbig : ¬ (9223372036854775807 < s.size + t.size) := by omega
        have hcz : (0 : Int) ≤ (c : Int) ∧ (c : Int) < 257 := by omega
        obtain ⟨hcz1, hcz2⟩ := hcz
        clear ht hc
        go_wp2
        go_roundg (a0.size - (i + 1))
        case measure => omega
        case rel => exact ⟨i + 1, s ++ t, rfl, by first | rfl | go_num, by omega, by omega, by rw [ByteArray.size_append]; omega, ⟨by rw [codesOf_take l i (by omega), HS.out, HT.out, str_app, HCC.out]; rfl⟩, HC, HB⟩
      · have hlz : ¬ (i : Int) < (a0.size : Int) := by omega
        have hd : decide ((i : Int) < (a0.size : Int)) = false := decide_eq_false hlz
        obtain ⟨q, hq⟩ : ∃ q, q = codesOf l := ⟨_, rfl⟩
        have HQ := Aside0.mk hq
        have hqb : q.length ≤ 30 * l.length := by rw [hq]; exact hcl.out
        have HS2 : Aside0 (s = strOfNums q) := ⟨by rw [HS.out, List.take_of_length_le (by omega), hq]⟩
        clear HS hq
        obtain ⟨N, hN⟩ : ∃ N, N = q.length := ⟨_, rfl⟩
        go_wp2
        go_loopg [4] 8 (fun g2 v4 wr => ∃ (k : Nat) (s : ByteArray), v4 = .string s ∧ s.size = N + k ∧ k ≤ (8 - N % 8) % 8 ∧ (8 - N % 8) % 8 - k ≤ g2 ∧ Aside0 (s = strOfNums (q ++ ones k)) ∧ Aside0 (Below w.heap.size w wr))
        case atStart => exact ⟨0, s, rfl, by rw [HS2.out, strOfNums_size]; omega, by omega, by omega, ⟨by rw [HS2.out]; simp [ones]⟩, HB⟩
        case round =>
          clear HB HC
          obtain ⟨k, s2, rfl, hsz, hk, hg2, HS, HB⟩ := hrel
          obtain ⟨M, hM⟩ : ∃ M, M = N + k := ⟨_, rfl⟩
          rw [← hM] at hsz
          have htm : Int.tmod (M : Int) 8 = ((M % 8 : Nat) : Int) := by rw [Int.tmod_eq_emod_of_nonneg (by omega)]; omega
          obtain ⟨R, hR⟩ : ∃ R, R = M % 8 := ⟨_, rfl⟩
          rw [← hR] at htm
          by_cases hk8 : k < (8 - N % 8) % 8
          · have hr0 : ((R : Int) == 0) = false := by rw [beq_eq_false_iff_ne]; omega
            have hr1 : ((R : Int) != 0) = true := by rw [bne_iff_ne]; omega
            have hbig : ¬ (9223372036854775807 < M + 1) := by omega
            have HR := Aside0.mk hR
            clear hR
            go_wp2
            go_roundg ((8 - N % 8) % 8 - (k + 1))
            case measure => omega
            case rel => exact ⟨k + 1, s2 ++ ⟨#[49]⟩, rfl, by rw [ByteArray.size_append, hsz]; show M + 1 = _; omega, by omega, by omega, ⟨by rw [HS.out, show (⟨#[49]⟩ : ByteArray) = strOfNums [49] from rfl, str_app, List.append_assoc]; congr 2; unfold ones; rw [List.replicate_succ']⟩, HB⟩
          · obtain rfl : R = 0 := by omega
            have HR := Aside0.mk hR
            clear hR
            go_wp2
            go_ret
            refine ⟨?_, HB.out⟩
            have hk' : k = (8 - q.length % 8) % 8 := by omega
            rw [HS.out, ← HQ.out]
            unfold pad
            rw [← hk']
            rfl
  · cases h
end Go.Proofs.Ythfildmldppihaa.Gv

/- squintref02.Decode. -/
namespace Go.Proofs.Ythfildmldppihaa.Gv
open Go.RowKit Go.Proofs.Ythfildmldppihaa.Ga Go.Proofs.Ythfildmldppihaa.Gi Go.Proofs.Ythfildmldppihaa.Gn Go.Proofs.Ythfildmldppihaa.Gp Go.Proofs.Ythfildmldppihaa.Ny Go.Proofs.Ythfildmldppihaa.Nz Go.Proofs.Ythfildmldppihaa.Pt Go.Proofs.YthfildmldppihaaW.PrintWords Go.Proofs.YthfildmldppihaaW.PrintLast Go.Proofs.YthfildmldppihaaW.PrintMore
theorem cd_grown {b : Nat} {W W' : World} {row : Option Nat} (h : Cd b W) (hg : W.grownBy W' row) (hne : row ≠ some b) : Cd b W' := by
  have hb : W'.heap[b]? = W.heap[b]? := hg.block b h.lt (fun e => hne e.symm)
  exact ⟨Nat.lt_of_lt_of_le h.lt hg.size, fun x hx => (World.cell?_of_block hb).trans (h.at' x hx)⟩
theorem Cd.drewN {b : Nat} {W : World} (h : Cd b W) (n : Nat) : Cd b (W.drewN n) := h.keep (pw_below_drewN (Below.refl _ _) n)
/-- A stretch of a string is a code, or is not. -/
theorem stretch (a0 : ByteArray) (i x : Nat) (_hx : x < 257) (_h : i + L x ≤ a0.size) : ((a0.extract i (i + L x)).toList == (strOfNums (dig (L x) (C x))).toList) = (code x).isPrefixOf ((bs a0).drop i) := by
  have e1 : (a0.extract i (i + L x)).toList = (a0.data.toList.drop i).take (L x) := by
    rw [Lib.toList_data, ByteArray.data_extract, Array.toList_extract]
    simp [List.extract_eq_take_drop]
  have e2 : (strOfNums (dig (L x) (C x))).toList = Lib.bytesOf (code x) := Lib.strOfNums_toList _
  have hlen : (bs a0).length = a0.size := bs_len a0
  have hlen2 : a0.data.toList.length = a0.size := rfl
  rw [e1, e2]
  have hiff : ((a0.data.toList.drop i).take (L x) = Lib.bytesOf (code x)) ↔ code x <+: (bs a0).drop i := by
    rw [List.prefix_iff_eq_take, code_len]
    have e3 : ((bs a0).drop i).take (L x) = ((a0.data.toList.drop i).take (L x)).map (fun b => (b.toNat : Int)) := by unfold bs; rw [← List.map_drop, ← List.map_take]
    rw [e3]
    constructor
    · intro e
      rw [e]
      unfold Lib.bytesOf
      rw [List.map_map]
      conv => lhs; rw [← List.map_id (code x)]
      apply List.map_congr_left
      intro z hz
      have := bits_dig (L x) (C x) z hz
      rcases this with rfl | rfl <;> rfl
    · intro e
      rw [e]
      unfold Lib.bytesOf
      rw [List.map_map]
      conv => lhs; rw [← List.map_id ((a0.data.toList.drop i).take (L x))]
      apply List.map_congr_left
      intro z _
      show z = UInt8.ofNat ((z.toNat : Int)).toNat
      simp
  cases hb : (code x).isPrefixOf ((bs a0).drop i) with
  | true => rw [beq_iff_eq]; exact hiff.2 (List.isPrefixOf_iff_prefix.1 hb)
  | false =>
    rw [beq_eq_false_iff_ne]
    intro e
    have := List.isPrefixOf_iff_prefix.2 (hiff.1 e)
    rw [hb] at this
    cases this
theorem too_long (q : List Int) (x : Nat) (h : q.length < L x) : (code x).isPrefixOf q = false := by
  cases hb : (code x).isPrefixOf q with
  | true => have := (List.isPrefixOf_iff_prefix.1 hb).length_le; rw [code_len] at this; omega
  | false => rfl
def squintref02_Decode.f (a0 : ByteArray) : Option (ByteArray × Int) := if a0.size ≤ 100000 then some (strOfNums (rdec (a0.size + 1) (bs a0) []).1, (rdec (a0.size + 1) (bs a0) []).2) else none
set_option maxHeartbeats 16000000 in
set_option maxRecDepth 100000 in
theorem squintref02_Decode.calls (a0 : ByteArray) (r1 : ByteArray) (r2 : Int) (w : World) (h : squintref02_Decode.f a0 = some (r1, r2)) :
    Calls Try.prog 21 #[.string a0] w fun e w' => e = .returned (.tuple #[.string r1, .int .i64 r2]) ∧ Below w.heap.size w w' := by
  unfold squintref02_Decode.f at h
  split at h
  · rename_i hlen
    obtain ⟨⟨s1, s2⟩, hs⟩ : ∃ s, s = rdec (a0.size + 1) (bs a0) [] := ⟨_, rfl⟩
    rw [← hs] at h
    have h := Option.some.inj h
    injection h with h1 h2
    dsimp only at h1 h2
    subst h1
    subst h2
    obtain ⟨l, hl⟩ : ∃ l, l = bs a0 := ⟨_, rfl⟩
    have hll : l.length = a0.size := by rw [hl, bs_len]
    have HLA := Aside0.mk (fun i hi => by rw [hl]; exact bs_at a0 i hi : ∀ i : Nat, i < a0.size → bt a0 (i : Int) = rd l (i : Int))
    have HLE := Aside0.mk hl
    rw [← hl] at hs
    have HR := Aside0.mk hs
    clear hl hs
    have HB := Aside0.mk (Below.refl w.heap.size w)
    go_enter Try.func21, Try.ntmps21
    go_wp2_with (first | (go_at_call 25; refine (codes_calls _).mono ?_; rintro e w6 ⟨rfl, hb⟩; have HB6 := Aside0.mk hb; clear HB hb) | (refine store_codes rfl (.tmp 4) (.tmp 11) rfl w.heap.size w6.heap.size rfl rfl (heap_alloc_new w6 _) HB6.out.size (HB6.out.alloc HB6.out.size _) ?_; intro w7 hcd hb; have HC := Aside0.mk hcd; have HB := Aside0.mk hb; clear hcd hb))
    have hbb := HB6.out.size
    obtain ⟨b, hbd⟩ : ∃ b, b = w6.heap.size := ⟨_, rfl⟩
    rw [← hbd] at HC hbb ⊢
    have HBD := Aside0.mk hbd
    clear hbd HB6
    go_loopg [5, 6] a0.size (fun g1 v5 v6 wr => ∃ (i fuel : Nat) (out : List Int), v6 = .int .i64 i ∧ i ≤ a0.size ∧ a0.size - i ≤ g1 ∧ a0.size - i < fuel ∧ out.length ≤ i ∧ Aside0 (rdec fuel (l.drop i) out = (s1, s2)) ∧
      Aside0 (Kd.R (Kd.int .u8) 5 wr w.heap.size (fun k => k ≠ b) v5 out) ∧ Aside0 (Cd b wr) ∧ Aside0 (Below w.heap.size w wr))
    case atStart => exact ⟨0, a0.size + 1, [], rfl, by omega, by omega, by omega, by simp, ⟨HR.out.symm⟩, ⟨Kd.R_nil _ _ _ _ _⟩, HC, HB⟩
    case round =>
      clear HC HB
      obtain ⟨i, fuel, out, rfl, hi, hg1, hfu, hol, HD, HO, HC, HB⟩ := hrel
      by_cases hlt : i < a0.size
      · have hlz : (i : Int) < (a0.size : Int) := by omega
        have hd : decide ((i : Int) < (a0.size : Int)) = true := decide_eq_true hlz
        obtain ⟨q, hq⟩ : ∃ q, q = l.drop i := ⟨_, rfl⟩
        have hql : q.length = a0.size - i := by rw [hq, List.length_drop, hll]
        rw [← hq] at HD
        have HQ := Aside0.mk hq
        clear hq
        obtain ⟨fu, rfl⟩ : ∃ fu, fuel = fu + 1 := ⟨fuel - 1, by omega⟩
        have hqn : q ≠ [] := by intro e; rw [e] at hql; simp at hql; omega
        have HD2 : Aside0 ((if fnd q = 256 then (([] : List Int), (21 : Int)) else if fnd q < 0 then (if 7 < q.length ∨ allOnes q = false then ([], 20) else (out, 0)) else rdec fu (q.drop (L (fnd q).toNat)) (out ++ [fnd q])) = (s1, s2)) := ⟨by
          have h := HD.out; rw [rdec, if_neg hqn] at h; exact h⟩
        clear HD hqn
        go_wp2
        go_loopg [7, 8] 257 (fun g2 v7 v8 wr => ∃ (x : Nat) (f : Int), v7 = .int .i64 f ∧ v8 = .int .i64 x ∧ x ≤ 257 ∧ 257 - x ≤ g2 ∧ Aside0 (f = fndTo q x) ∧
          Aside0 (Kd.R (Kd.int .u8) 5 wr w.heap.size (fun k => k ≠ b) u5 out) ∧ Aside0 (Cd b wr) ∧ Aside0 (Below w.heap.size w wr))
        case atStart => exact ⟨0, -1, rfl, rfl, by omega, by omega, ⟨rfl⟩, HO, HC, HB⟩
        case round =>
          clear HO HC HB
          obtain ⟨x, f, rfl, rfl, hx, hg2, HF, HO, HC, HB⟩ := hrel
          by_cases hxl : x < 257
          · have hxz : (x : Int) < 257 := by omega
            have hxd : decide ((x : Int) < 257) = true := decide_eq_true hxz
            have hx0 : (0 : Int) ≤ (x : Int) := by omega
            have hcell := HC.out.at' x hxl
            unfold cv at hcell
            obtain ⟨t, ht⟩ : ∃ t, t = strOfNums (dig (L x) (C x)) := ⟨_, rfl⟩
            obtain ⟨lx, hlx⟩ : ∃ lx, lx = L x := ⟨_, rfl⟩
            have hts : t.size = lx := by rw [ht, strOfNums_size, dig_length, hlx]
            have hl30 : 5 ≤ lx ∧ lx ≤ 30 := by rw [hlx]; exact L_rng x hxl
            rw [← ht] at hcell
            obtain ⟨p, hp⟩ : ∃ p, p = (code x).isPrefixOf q := ⟨_, rfl⟩
            have HP := Aside0.mk hp
            have hwi : IntKind.i64.wrap ((i : Int) + (lx : Int)) = (i : Int) + (lx : Int) := by rw [IntKind.wrap_i64]; omega
            by_cases hle : i + lx ≤ a0.size
            · have hleI : (i : Int) + (lx : Int) ≤ (a0.size : Int) := by omega
              have hled : decide ((i : Int) + (lx : Int) ≤ (a0.size : Int)) = true := decide_eq_true hleI
              have hst : ((a0.extract i (i + lx)).toList == t.toList) = p := by
                rw [hlx, ht, hp, HQ.out, HLE.out]
                exact stretch a0 i x hxl (by rw [← hlx]; exact hle)
              have HLX := Aside0.mk hlx
              have HT := Aside0.mk ht
              clear hlx ht hp
              have hsl : ∀ W, (Instr.slice 9 (.string a0) (some (.int .i64 (i : Int))) (some (.int .i64 ((i : Int) + (lx : Int)))) none).run Try.prog W = .ok (.string (a0.extract i (i + lx))) W := fun W => by
                have h := run_slice_string W 9 a0 .i64 .i64 (i : Int) ((i : Int) + (lx : Int)) Try.underlying9 (by omega) (by omega) (by omega)
                rw [show ((i : Int) + (lx : Int)).toNat = i + lx by omega, Int.toNat_natCast] at h
                exact h
              cases p with
              | true =>
                go_wp2
                go_quiet (fail)
                go_wp2
                go_roundg (257 - (x + 1))
                case measure => omega
                case rel => exact ⟨x + 1, (x : Int), rfl, by first | rfl | go_num, by omega, by omega, ⟨by rw [fndTo, if_pos HP.out.symm]⟩, ⟨Kd.R_drewN HO.out nq⟩, HC.out.drewN nq |> Aside0.mk, ⟨pw_below_drewN HB.out nq⟩⟩
              | false =>
                go_wp2
                go_quiet (fail)
                go_wp2
                go_roundg (257 - (x + 1))
                case measure => omega
                case rel => exact ⟨x + 1, f, rfl, by first | rfl | go_num, by omega, by omega, ⟨by rw [fndTo, if_neg (by rw [← HP.out]; decide), HF.out]⟩, ⟨Kd.R_drewN HO.out nq⟩, HC.out.drewN nq |> Aside0.mk, ⟨pw_below_drewN HB.out nq⟩⟩
            · have hleI : ¬ (i : Int) + (lx : Int) ≤ (a0.size : Int) := by omega
              have hled : decide ((i : Int) + (lx : Int) ≤ (a0.size : Int)) = false := decide_eq_false hleI
              have hpf : p = false := by rw [hp]; exact too_long q x (by rw [← hlx, hql]; omega)
              have HLX := Aside0.mk hlx
              have HT := Aside0.mk ht
              clear hlx ht hp
              go_wp2
              go_quiet (fail)
              go_wp2
              go_roundg (257 - (x + 1))
              case measure => omega
              case rel => exact ⟨x + 1, f, rfl, by first | rfl | go_num, by omega, by omega, ⟨by rw [fndTo, if_neg (by rw [← HP.out, hpf]; decide), HF.out]⟩, ⟨Kd.R_drewN HO.out nq⟩, HC.out.drewN nq |> Aside0.mk, ⟨pw_below_drewN HB.out nq⟩⟩
          · have hxz : ¬ (x : Int) < 257 := by omega
            have hxd : decide ((x : Int) < 257) = false := decide_eq_false hxz
            obtain rfl : x = 257 := by omega
            have HF2 : Aside0 (f = fnd q) := ⟨HF.out⟩
            clear HF
            by_cases h256 : f = 256
            · subst h256
              go_wp2
              go_ret2
              have hr : s1 = [] ∧ s2 = 21 := by
                have h := HD2.out
                rw [if_pos HF2.out.symm] at h
                injection h with h1 h2
                exact ⟨h1.symm, h2.symm⟩
              obtain ⟨rfl, rfl⟩ := hr
              exact ⟨rfl, HB.out⟩
            · have hf1 : (f == 256) = false := by rw [beq_eq_false_iff_ne]; exact h256
              have hf2 : (f != 256) = true := by rw [bne_iff_ne]; exact h256
              rcases fnd_is q with hm1 | ⟨x, hx, hxf, hxp⟩
              · have hfm : f = -1 := HF2.out.trans hm1
                subst hfm
                have HD3 : Aside0 ((if 7 < q.length ∨ allOnes q = false then (([] : List Int), (20 : Int)) else (out, 0)) = (s1, s2)) := ⟨by
                  have h := HD2.out
                  rw [hm1, if_neg (by decide), if_pos (by decide)] at h
                  exact h⟩
                clear HD2 HF2 hm1
                go_wp2
                go_loopg [10] a0.size (fun g3 v10 wr => ∃ j : Nat, v10 = .int .i64 j ∧ i ≤ j ∧ j ≤ a0.size ∧ a0.size - j ≤ g3 ∧ (i < j → a0.size - i ≤ 7) ∧ Aside0 (∀ m : Nat, i ≤ m → m < j → rd l (m : Int) = 49) ∧
                  Aside0 (Kd.R (Kd.int .u8) 5 wr w.heap.size (fun k => k ≠ b) u5 out) ∧ Aside0 (Below w.heap.size w wr))
                case atStart => exact ⟨i, rfl, by omega, by omega, by omega, by omega, ⟨fun m h1 h2 => by omega⟩, HO, HB⟩
                case round =>
                  clear HO HB HC
                  obtain ⟨j, rfl, hij, hj, hg3, h7, HM, HO, HB⟩ := hrel
                  have HQR : Aside0 (∀ m : Nat, i ≤ m → m < a0.size → rd l (m : Int) ∈ q) := ⟨fun m h1 h2 => by
                    have hml : m < l.length := by omega
                    rw [HQ.out]
                    have e : rd l (m : Int) = (l.drop i)[m - i]'(by rw [List.length_drop]; omega) := by
                      rw [List.getElem_drop]
                      have hh : i + (m - i) = m := by omega
                      simp [rd, hml, hh]
                    rw [e]
                    exact List.getElem_mem _⟩
                  by_cases hjl : j < a0.size
                  · have hjz : (j : Int) < (a0.size : Int) := by omega
                    have hjd : decide ((j : Int) < (a0.size : Int)) = true := decide_eq_true hjz
                    have p5 : (0 ≤ (j : Int)) = True := eq_true (by omega)
                    have q5 : ((j : Int) < (a0.size : Int)) = True := eq_true hjz
                    obtain ⟨c, hc⟩ : ∃ c : Int, c = rd l (j : Int) := ⟨_, rfl⟩
                    have hx5 : ∀ h : j < a0.size, ((a0[j]'h).toNat : Int) = c := fun h => (bt_at a0 (j : Int) h).trans ((HLA.out j hjl).trans hc.symm)
                    have HCV := Aside0.mk hc
                    clear hc
                    obtain ⟨z, hz⟩ : ∃ z, z + i = a0.size := ⟨a0.size - i, by omega⟩
                    have hwz : (a0.size : Int) - (i : Int) = (z : Int) := by omega
                    have hwz2 : IntKind.i64.wrap ((a0.size : Int) - (i : Int)) = (z : Int) := by rw [IntKind.wrap_i64]; omega
                    by_cases hc49 : c = 49
                    · have hc1 : (c == 49) = true := beq_iff_eq.mpr hc49
                      have hc2 : (c != 49) = false := bne_eq_false_iff_eq.mpr hc49
                      by_cases hz7 : 7 < z
                      · have hzz : (7 : Int) < (z : Int) := by omega
                        have hzd : decide ((z : Int) > 7) = true := decide_eq_true hzz
                        go_wp2
                        go_ret2
                        have hr : s1 = [] ∧ s2 = 20 := by
                          have h := HD3.out
                          rw [if_pos (Or.inl (by omega))] at h
                          injection h with h1 h2
                          exact ⟨h1.symm, h2.symm⟩
                        obtain ⟨rfl, rfl⟩ := hr
                        exact ⟨rfl, HB.out⟩
                      · have hzz : ¬ (7 : Int) < (z : Int) := by omega
                        have hzd : decide ((z : Int) > 7) = false := decide_eq_false hzz
                        go_wp2
                        go_roundg (a0.size - (j + 1))
                        case measure => omega
                        case rel => exact ⟨j + 1, by first | rfl | go_num, by omega, by omega, by omega, by omega, ⟨fun m h1 h2 => by
                          by_cases hm : m = j
                          · rw [hm, ← HCV.out]; exact hc49
                          · exact HM.out m h1 (by omega)⟩, HO, HB⟩
                    · have hc1 : (c == 49) = false := by rw [beq_eq_false_iff_ne]; exact hc49
                      have hc2 : (c != 49) = true := by rw [bne_iff_ne]; exact hc49
                      go_wp2
                      go_ret2
                      have hr : s1 = [] ∧ s2 = 20 := by
                        have h := HD3.out
                        rw [if_pos (Or.inr (by
                          cases ha : allOnes q with
                          | false => rfl
                          | true =>
                            have h2 := HQR.out j hij hjl
                            unfold allOnes at ha
                            rw [List.all_eq_true] at ha
                            have h3 := ha _ h2
                            rw [← HCV.out, hc1] at h3
                            cases h3))] at h
                        injection h with h1 h2
                        exact ⟨h1.symm, h2.symm⟩
                      obtain ⟨rfl, rfl⟩ := hr
                      exact ⟨rfl, HB.out⟩
                  · have hjz : ¬ (j : Int) < (a0.size : Int) := by omega
                    have hjd : decide ((j : Int) < (a0.size : Int)) = false := decide_eq_false hjz
                    have hr : s1 = out ∧ s2 = 0 := by
                      have h := HD3.out
                      rw [if_neg (by
                        rintro (h1 | h1)
                        · have := h7 (by omega); omega
                        · have : allOnes q = true := by
                            unfold allOnes
                            rw [List.all_eq_true]
                            intro z hz
                            obtain ⟨m, hm, rfl⟩ := List.getElem_of_mem hz
                            have h2 := HM.out (i + m) (by omega) (by omega)
                            have hml : i + m < l.length := by omega
                            have e : q[m] = rd l ((i + m : Nat) : Int) := by
                              simp only [HQ.out, List.getElem_drop]
                              simp only [rd, Int.toNat_natCast, List.getD_eq_getElem?_getD, List.getElem?_eq_getElem hml, Option.getD_some]
                            rw [e, h2]; rfl
                          rw [this] at h1; cases h1)] at h
                      injection h with h1 h2
                      exact ⟨h1.symm, h2.symm⟩
                    obtain ⟨rfl, rfl⟩ := hr
                    have hcv := own_string (P := Try.prog) Try.underlying22 Try.underlying5 Try.underlying9 (Kd.own_of_R HO.out)
                    go_wp2
                    go_ret2
                    exact ⟨rfl, HB.out⟩
              · have hfx : f = (x : Int) := HF2.out.trans hxf
                subst hfx
                have hxn : x ≠ 256 := fun e => h256 (by rw [e]; rfl)
                have HD3 : Aside0 (rdec fu (q.drop (L x)) (out ++ [(x : Int)]) = (s1, s2)) := ⟨by
                  have h := HD2.out
                  rw [hxf, if_neg h256, if_neg (by omega), Int.toNat_natCast] at h
                  exact h⟩
                have hlen2 := hxp.length_le
                rw [code_len] at hlen2
                clear HD2 HF2 hxf
                have hx0 : (0 : Int) ≤ (x : Int) := by omega
                have hxd0 : decide ((x : Int) < 0) = false := decide_eq_false (by omega)
                have hxz : (x : Int) < 257 := by omega
                have hxm : (x : Int) % 256 = (x : Int) := by omega
                have hcell := HC.out.at' x hx
                unfold cv at hcell
                obtain ⟨t, ht⟩ : ∃ t, t = strOfNums (dig (L x) (C x)) := ⟨_, rfl⟩
                obtain ⟨lx, hlx⟩ : ∃ lx, lx = L x := ⟨_, rfl⟩
                have hts : t.size = lx := by rw [ht, strOfNums_size, dig_length, hlx]
                have hl30 : 5 ≤ lx ∧ lx ≤ 30 := by rw [hlx]; exact L_rng x hx
                rw [← ht] at hcell
                rw [← hlx] at hlen2
                have HLX := Aside0.mk hlx
                have HTT := Aside0.mk ht
                clear ht hlx
                go_wp2_with (first | ((with_reducible refine gate_builtin (b := .append) (xs := #[.tmp 67, .tmp 70]) rfl ?_); at_builtin; refine Kd.R_append (Kd.int .u8) (w0 := w) w.heap.size rfl (.tmp 67) (.tmp 70) 22 5 (.int .u8 0) 1 rfl Try.underlying22 info5 rfl (by decide) (by omega) u5 out (x : Int) [.int .u8 (x : Int)] (fun k => k ≠ b) (fun _ => False) rfl rfl ?aP (fun _ hk => hk.elim) ?aF ?aO ?aB ?aS ?aL ?_; (case aP => exact rfl); (case aB => exact HB.out); (case aF => exact (fun k hk => by have := HC.out.lt; omega)); (case aO => exact HO.out); (case aS => exact below_size HB.out); (case aL => omega); intro v8 w8 ho hb hg hat; have hc8 := cd_grown HC.out hg (fun q => HO.out.1 b q rfl); have hcell := hc8.at' x hx; unfold cv at hcell; rw [← HTT.out] at hcell; have HC8 := Aside0.mk hc8; have HO8 := Aside0.mk ho; have HB8 := Aside0.mk hb; clear HO HB HC ho hb hg hat hc8))
                go_roundg (a0.size - (i + lx))
                case measure => omega
                case rel => exact ⟨i + lx, fu, out ++ [(x : Int)], by first | rfl | go_num, by omega, by omega, by omega, by simp; omega, ⟨by rw [← HD3.out, HQ.out, List.drop_drop, HLX.out]⟩, HO8, HC8, HB8⟩
      · have hlz : ¬ (i : Int) < (a0.size : Int) := by omega
        have hd : decide ((i : Int) < (a0.size : Int)) = false := decide_eq_false hlz
        obtain ⟨fu, rfl⟩ : ∃ fu, fuel = fu + 1 := ⟨fuel - 1, by omega⟩
        have hr : s1 = out ∧ s2 = 0 := by
          have h := HD.out
          rw [List.drop_eq_nil_of_le (by omega), rdec, if_pos rfl] at h
          injection h with h1 h2
          exact ⟨h1.symm, h2.symm⟩
        obtain ⟨rfl, rfl⟩ := hr
        have hcv := own_string (P := Try.prog) Try.underlying22 Try.underlying5 Try.underlying9 (Kd.own_of_R HO.out)
        go_wp2
        go_ret2
        exact ⟨rfl, HB.out⟩
  · cases h
end Go.Proofs.Ythfildmldppihaa.Gv
