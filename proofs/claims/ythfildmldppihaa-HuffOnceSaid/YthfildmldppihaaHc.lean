/- HuffCodes, by hand: the walk and its law. -/
import Derived.Test.YthfildmldppihaaNc
import Derived.Test.YthfildmldppihaaPc
namespace Go.Proofs.Ythfildmldppihaa.Hc
open Go.RowKit Go.Proofs.Ythfildmldppihaa.Ga Go.Proofs.Ythfildmldppihaa.Gi Go.Proofs.Ythfildmldppihaa.Gp Go.Proofs.Ythfildmldppihaa.Gs Go.Proofs.Ythfildmldppihaa.Gv Go.Proofs.Ythfildmldppihaa.Nc Go.Proofs.Ythfildmldppihaa.Ny Go.Proofs.Ythfildmldppihaa.Nz Go.Proofs.Ythfildmldppihaa.Pt Go.Proofs.YthfildmldppihaaW.PrintWords Go.Proofs.YthfildmldppihaaW.PrintLast Go.Proofs.YthfildmldppihaaW.PrintMore
theorem awake_calls (w : World) : Calls Try.prog 19 #[] w fun e w' => e = .returned (.bool true) ∧ Below w.heap.size w w' := Q.squintlaw02_awake.calls true w Pure.awake2
theorem no_begin {x y : Nat} (hx : x < 257) (hy : y < 257) (hne : x ≠ y) (h : L x ≤ L y) : (((strOfNums (code y)).extract 0 (L x)).toList != (strOfNums (code x)).toList) = true := by
  have hst := stretch (strOfNums (code y)) 0 x hx (by rw [strOfNums_size, code_len]; omega)
  rw [Nat.zero_add] at hst
  have hb := bs_str (Pure.bits_byt (bits_dig (L y) (C y)))
  rw [show dig (L y) (C y) = code y from rfl] at hb
  rw [bne, show (strOfNums (code x)) = strOfNums (dig (L x) (C x)) from rfl, hst, hb, List.drop_zero]
  cases hp : (code x).isPrefixOf (code y) with
  | false => rfl
  | true => exact absurd (only (bits_dig (L y) (C y)) hx hy (List.isPrefixOf_iff_prefix.1 hp) (List.prefix_refl _)) hne
set_option maxHeartbeats 16000000 in
set_option maxRecDepth 100000 in
theorem out_calls (a b : Int) (ha : a < 0 ∨ 256 < a) (w : World) : Calls Try.prog 6 #[.int .i64 a, .int .i64 b] w fun e w' => e = .returned (.bool true) ∧ Below w.heap.size w w' := by
  have HE := Aside0.mk (pcode_out a ha w)
  by_cases h0 : a < 0
  · have h1 : decide (a < 0) = true := decide_eq_true h0
    clear ha
    go_enter Try.func6, Try.ntmps6
    go_wp2_with (first | (go_at_call 24; refine HE.out.mono ?_; rintro e w1 ⟨rfl, hb⟩; have HB := Aside0.mk hb; clear hb) | (go_at_call 19; refine (awake_calls _).mono ?_; rintro e w2 ⟨rfl, hb⟩; have HB2 := Aside0.mk (below_step HB.out hb); clear hb))
    go_ret
    exact ⟨rfl, HB2.out⟩
  · have h1 : decide (a < 0) = false := decide_eq_false h0
    have h3 : (256 : Int) < a := by omega
    have h2 : decide (a > 256) = true := decide_eq_true h3
    clear ha
    go_enter Try.func6, Try.ntmps6
    go_wp2_with (first | (go_at_call 24; refine HE.out.mono ?_; rintro e w1 ⟨rfl, hb⟩; have HB := Aside0.mk hb; clear hb) | (go_at_call 19; refine (awake_calls _).mono ?_; rintro e w2 ⟨rfl, hb⟩; have HB2 := Aside0.mk (below_step HB.out hb); clear hb))
    go_ret
    exact ⟨rfl, HB2.out⟩
theorem bit_u8 (C j : Nat) (hC : C < 1073741824) : (48 + bits .and .u32 ((C : Int) / 2 ^ j) 1) % 256 = ((48 + C / 2 ^ j % 2 : Nat) : Int) := by
  have h1 : (C : Int) / 2 ^ j = ((C / 2 ^ j : Nat) : Int) := by rw [Int.natCast_ediv, Int.natCast_pow]; rfl
  have h2 : C / 2 ^ j ≤ C := Nat.div_le_self _ _
  rw [h1, bits_and1_u32_nat _ (by omega)]
  omega
set_option maxHeartbeats 16000000 in
set_option maxRecDepth 100000 in
theorem in_calls (x : Nat) (b : Int) (hx : x < 257) (w : World) : Calls Try.prog 6 #[.int .i64 (x : Int), .int .i64 b] w fun e w' => e = .returned (.bool true) ∧ Below w.heap.size w w' := by
  have HE := Aside0.mk (pcode_in x hx w)
  have h1 : decide ((x : Int) < 0) = false := decide_eq_false (by omega)
  have h2 : decide ((x : Int) > 256) = false := decide_eq_false (by omega)
  have hLx := L_rng x hx
  have hCx := C_bd x hx
  obtain ⟨n, hn⟩ : ∃ n, n = L x := ⟨_, rfl⟩
  obtain ⟨cc, hcc⟩ : ∃ cc, cc = C x := ⟨_, rfl⟩
  rw [← hn, ← hcc] at HE
  rw [← hn] at hLx
  rw [← hcc] at hCx
  have HN := Aside0.mk hn
  have HCC := Aside0.mk hcc
  clear hn hcc
  go_enter Try.func6, Try.ntmps6
  go_wp2_with (go_at_call 24; refine HE.out.mono ?_; rintro e w1 ⟨rfl, hb⟩; have HB := Aside0.mk hb; clear hb)
  go_loopg [8, 9] 31 (fun g1 v8 v9 wr => ∃ (j : Nat) (s : ByteArray), v8 = .string s ∧ v9 = .int .i64 ((j : Int) - 1) ∧ j ≤ n ∧ j ≤ g1 ∧ s.size = n - j ∧ Aside0 (s = strOfNums (dig (n - j) (cc / 2 ^ j))) ∧ Aside0 (Below w.heap.size w wr))
  case atStart => exact ⟨n, ⟨#[]⟩, rfl, by first | rfl | go_num, by omega, by omega, by rw [Nat.sub_self]; rfl, ⟨by rw [Nat.sub_self]; rfl⟩, HB⟩
  case round =>
    clear HB
    obtain ⟨j, s, rfl, rfl, hj, hg, hsz, HS, HB⟩ := hrel
    cases j with
    | zero =>
      have hjz : ¬ (0 : Int) ≤ (-1 : Int) := by omega
      rw [Nat.pow_zero, Nat.div_one, Nat.sub_zero] at HS
      rw [Nat.sub_zero] at hsz
      have HS2 : Aside0 (s = strOfNums (code x)) := ⟨by rw [HS.out, HN.out, HCC.out]; rfl⟩
      clear HS
      have hxz0 : (0 : Int) ≤ (x : Int) := by omega
      have hxz1 : (x : Int) < 257 := by omega
      by_cases b0 : b < 0
      · have hb0 : decide (b < 0) = true := decide_eq_true b0
        go_wp2_with (first | (go_at_call 25; refine (codes_calls _).mono ?_; rintro e w6 ⟨rfl, hb⟩; have HB6 := Aside0.mk (below_step HB.out hb); clear HB hb) | (refine store_codes rfl (.tmp 10) (.tmp 56) rfl w.heap.size w6.heap.size rfl rfl (heap_alloc_new w6 _) (below_size HB6.out) (HB6.out.alloc (below_size HB6.out) _) ?_; intro w7 hcd hb; have hcell : w7.cell? ⟨w6.heap.size, x, none⟩ = some (.string s) := (by rw [HS2.out]; exact hcd.at' x hx); have HB := Aside0.mk hb; clear HB6 hcd hb) | (go_at_call 19; refine (awake_calls _).mono ?_; rintro e w8 ⟨rfl, hb⟩; have HB2 := Aside0.mk (below_step HB.out hb); clear hb))
        go_ret
        exact ⟨rfl, HB2.out⟩
      · have hb0 : decide (b < 0) = false := decide_eq_false b0
        by_cases b1 : (256 : Int) < b
        · have hb1 : decide (b > 256) = true := decide_eq_true b1
          go_wp2_with (first | (go_at_call 25; refine (codes_calls _).mono ?_; rintro e w6 ⟨rfl, hb⟩; have HB6 := Aside0.mk (below_step HB.out hb); clear HB hb) | (refine store_codes rfl (.tmp 10) (.tmp 56) rfl w.heap.size w6.heap.size rfl rfl (heap_alloc_new w6 _) (below_size HB6.out) (HB6.out.alloc (below_size HB6.out) _) ?_; intro w7 hcd hb; have hcell : w7.cell? ⟨w6.heap.size, x, none⟩ = some (.string s) := (by rw [HS2.out]; exact hcd.at' x hx); have HB := Aside0.mk hb; clear HB6 hcd hb) | (go_at_call 19; refine (awake_calls _).mono ?_; rintro e w8 ⟨rfl, hb⟩; have HB2 := Aside0.mk (below_step HB.out hb); clear hb))
          go_ret
          exact ⟨rfl, HB2.out⟩
        · have hb1 : decide (b > 256) = false := decide_eq_false b1
          obtain ⟨y, rfl⟩ : ∃ y : Nat, b = (y : Int) := ⟨b.toNat, by omega⟩
          have hy : y < 257 := by omega
          by_cases hxy : x = y
          · subst hxy
            have hb2 : ((x : Int) == (x : Int)) = true := beq_self_eq_true _
            go_wp2_with (first | (go_at_call 25; refine (codes_calls _).mono ?_; rintro e w6 ⟨rfl, hb⟩; have HB6 := Aside0.mk (below_step HB.out hb); clear HB hb) | (refine store_codes rfl (.tmp 10) (.tmp 56) rfl w.heap.size w6.heap.size rfl rfl (heap_alloc_new w6 _) (below_size HB6.out) (HB6.out.alloc (below_size HB6.out) _) ?_; intro w7 hcd hb; have hcell : w7.cell? ⟨w6.heap.size, x, none⟩ = some (.string s) := (by rw [HS2.out]; exact hcd.at' x hx); have HB := Aside0.mk hb; clear HB6 hcd hb) | (go_at_call 19; refine (awake_calls _).mono ?_; rintro e w8 ⟨rfl, hb⟩; have HB2 := Aside0.mk (below_step HB.out hb); clear hb))
            go_ret
            exact ⟨rfl, HB2.out⟩
          · have hb2 : ((x : Int) == (y : Int)) = false := by rw [beq_eq_false_iff_ne]; omega
            obtain ⟨ty, hty⟩ : ∃ ty, ty = strOfNums (code y) := ⟨_, rfl⟩
            obtain ⟨m, hm⟩ : ∃ m, m = L y := ⟨_, rfl⟩
            have htz : ty.size = m := by rw [hty, strOfNums_size, code_len, hm]
            have hym := L_rng y hy
            rw [← hm] at hym
            have hyz0 : (0 : Int) ≤ (y : Int) := by omega
            have hyz1 : (y : Int) < 257 := by omega
            by_cases hlt : m < n
            · have hl1 : (m : Int) < (n : Int) := by omega
              have hl2 : decide ((m : Int) < (n : Int)) = true := decide_eq_true hl1
              have HTY := Aside0.mk hty
              clear hty hm
              go_wp2_with (first | (go_at_call 25; refine (codes_calls _).mono ?_; rintro e w6 ⟨rfl, hb⟩; have HB6 := Aside0.mk (below_step HB.out hb); clear HB hb) | (refine store_codes rfl (.tmp 10) (.tmp 56) rfl w.heap.size w6.heap.size rfl rfl (heap_alloc_new w6 _) (below_size HB6.out) (HB6.out.alloc (below_size HB6.out) _) ?_; intro w7 hcd hb; have hcell : w7.cell? ⟨w6.heap.size, x, none⟩ = some (.string s) := (by rw [HS2.out]; exact hcd.at' x hx); have hcelly : w7.cell? ⟨w6.heap.size, y, none⟩ = some (.string ty) := (by rw [HTY.out]; exact hcd.at' y hy); have HB := Aside0.mk hb; clear HB6 hcd hb) | (go_at_call 19; refine (awake_calls _).mono ?_; rintro e w8 ⟨rfl, hb⟩; have HB2 := Aside0.mk (below_step HB.out hb); clear hb))
              go_ret
              exact ⟨rfl, HB2.out⟩
            · have hl1 : ¬ (m : Int) < (n : Int) := by omega
              have hl2 : decide ((m : Int) < (n : Int)) = false := decide_eq_false hl1
              have hne : ((ty.extract 0 n).toList != s.toList) = true := by
                rw [hty, HS2.out, HN.out]
                exact no_begin hx hy hxy (by rw [← HN.out, ← hm]; omega)
              have hne2 : ((ty.extract 0 n).toList == s.toList) = false := by
                rw [bne] at hne
                cases hh : ((ty.extract 0 n).toList == s.toList) with
                | false => rfl
                | true => rw [hh] at hne; cases hne
              have hsl : ∀ W, (Instr.slice 9 (.string ty) none (some (.int .i64 (n : Int))) none).run Try.prog W = .ok (.string (ty.extract 0 n)) W := fun W => by
                have h := run_slice_string_h W 9 ty Try.underlying9 .i64 (n : Int) (by omega) (by rw [htz]; omega)
                rw [Int.toNat_natCast] at h
                exact h
              have HTY := Aside0.mk hty
              clear hty hm
              go_wp2_with (first | (go_at_call 25; refine (codes_calls _).mono ?_; rintro e w6 ⟨rfl, hb⟩; have HB6 := Aside0.mk (below_step HB.out hb); clear HB hb) | (refine store_codes rfl (.tmp 10) (.tmp 56) rfl w.heap.size w6.heap.size rfl rfl (heap_alloc_new w6 _) (below_size HB6.out) (HB6.out.alloc (below_size HB6.out) _) ?_; intro w7 hcd hb; have hcell : w7.cell? ⟨w6.heap.size, x, none⟩ = some (.string s) := (by rw [HS2.out]; exact hcd.at' x hx); have hcelly : w7.cell? ⟨w6.heap.size, y, none⟩ = some (.string ty) := (by rw [HTY.out]; exact hcd.at' y hy); have HB := Aside0.mk hb; clear HB6 hcd hb) | (go_at_call 19; refine (awake_calls _).mono ?_; rintro e w8 ⟨rfl, hb⟩; have HB2 := Aside0.mk (below_step HB.out hb); clear hb))
              go_ret
              exact ⟨rfl, HB2.out⟩
    | succ jp =>
      have zj : ((jp + 1 : Nat) : Int) - 1 = (jp : Int) := by omega
      have hj0 : (0 : Int) ≤ (jp : Int) := by omega
      have hjd : decide ((jp : Int) ≥ 0) = true := decide_eq_true hj0
      have hj32 : (jp : Int) < 32 := by omega
      have hjd2 : decide ((jp : Int) < 32) = true := decide_eq_true hj32
      obtain ⟨y, hy⟩ : ∃ y : Int, y = ((48 + cc / 2 ^ jp % 2 : Nat) : Int) := ⟨_, rfl⟩
      have hbit : (48 + bits .and .u32 ((cc : Int) / 2 ^ jp) 1) % 256 = y := by rw [hy]; exact bit_u8 cc jp hCx
      have HY := Aside0.mk hy
      clear hy
      obtain ⟨M, hM⟩ : ∃ M, M = n - (jp + 1) := ⟨_, rfl⟩
      rw [← hM] at hsz
      have hz1 : (strOfNums [y]).size = 1 := by rw [strOfNums_size]; rfl
      have hbig : ¬ (9223372036854775807 < M + 1) := by omega
      have HMM := Aside0.mk hM
      clear hM
      go_wp2_with ((with_reducible refine gate_dst (N := 53) rfl ?_); refine Kd.R_lit (Kd.int .u8) _ 5 ?hg (N := 53) ?hd (xs := ([y] : List Int)) (inner := [.int .u8 y]) (ok := fun _ => True) (okp := fun _ => True) ?hr ?hp (fun _ hk => hk) trivial (Below.refl _ _) (Nat.le_refl _) (by simp) ?_; (case hd => rfl); (case hg => rfl); (case hr => first | (go_simp; done) | (go_simp; rfl)); (case hp => exact (Reps.one (show Kd.M (Kd.int .u8) _ _ _ y [.int .u8 y] from rfl) (Reps.none _ _))); intro v122 w9 ho10 hb hg_ hnew_; clear hg_ hnew_; have HO := Aside0.mk (Kd.R_lower ho10 (below_size HB.out)); have HB9 := Aside0.mk (below_step HB.out hb); clear HB; have HB := HB9; clear HB9 hb ho10; have hcv11 := own_string (P := Try.prog) Try.underlying22 Try.underlying5 Try.underlying9 (Kd.own_of_R HO.out))
      go_roundg jp
      case measure => omega
      case rel => exact ⟨jp, s ++ strOfNums [y], rfl, by first | rfl | go_num | (congr 1; omega), by omega, by omega, by rw [ByteArray.size_append, hsz, hz1, HMM.out]; omega, ⟨by
        rw [HS.out, str_app, HY.out, show n - jp = (n - (jp + 1)) + 1 by omega, dig, Nat.div_div_eq_div_mul, Nat.pow_succ]⟩, HB⟩
theorem law_calls (a b : Int) (w : World) : Calls Try.prog 6 #[.int .i64 a, .int .i64 b] w fun e w' => e = .returned (.bool true) ∧ Below w.heap.size w w' := by
  by_cases h : a < 0 ∨ 256 < a
  · exact out_calls a b h w
  · obtain ⟨x, rfl⟩ : ∃ x : Nat, a = (x : Int) := ⟨a.toNat, by omega⟩
    exact in_calls x b (by omega) w
end Go.Proofs.Ythfildmldppihaa.Hc
