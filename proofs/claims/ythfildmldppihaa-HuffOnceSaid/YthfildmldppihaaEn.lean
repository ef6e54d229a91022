/- Coder.Encode over a coder that has its codes: nothing old turns. -/
import Derived.Test.YthfildmldppihaaA9
namespace Go.Proofs.Ythfildmldppihaa.En
open Go.RowKit Go.Proofs.Ythfildmldppihaa.Ga Go.Proofs.Ythfildmldppihaa.Gi Go.Proofs.Ythfildmldppihaa.Gj Go.Proofs.Ythfildmldppihaa.Gk Go.Proofs.Ythfildmldppihaa.Gp Go.Proofs.YthfildmldppihaaW.PrintWords Go.Proofs.YthfildmldppihaaW.PrintLast Go.Proofs.YthfildmldppihaaW.PrintMore
set_option maxHeartbeats 8000000 in
set_option maxRecDepth 100000 in
theorem encode_made (b : Nat) (W0 : World) (hmd : Md b W0)
    (A0 : Option Addr) (c0 : Nat) (l0 : List Int) (hr0 : Kd.C (Kd.int .u8) W0 A0 l0.length l0) (hlen : l0.length ≤ 100000) (h8 : ∀ i : Nat, i < l0.length → 0 ≤ rd l0 i ∧ rd l0 i < 256) :
    Calls Try.prog 32 #[.pointer (some ⟨b, 0, none⟩), .slice A0 l0.length c0] W0 fun e w' => (∃ v, e = .returned v ∧ Kd.R (Kd.int .u8) 5 w' W0.heap.size (fun k => k ≠ b) v (encL l0 0 0 [])) ∧ Below W0.heap.size W0 w' ∧ Md b w' := by
  have hu79 := Try.underlying79
  have hu84 := Try.underlying84
  have mixed : Try.prog.follows .mixedOrders = true := by kernel_rfl
  have HG : Aside0 (Calls Try.prog 45 #[.pointer (some ⟨b, 0, none⟩)] W0 fun e w' => e = .returned (.pointer (some ⟨b, 0, none⟩)) ∧ Md b w' ∧ Below W0.heap.size W0 w') := ⟨(get_again b W0 hmd).mono fun e w' ⟨he, hb⟩ => ⟨he, hmd.keep hb, hb⟩⟩
  have HR0 := Aside0.mk hr0
  clear hmd hr0
  go_enter Try.func32, Try.ntmps32
  go_wp2_with (go_at_call 45; refine HG.out.mono ?_; rintro e w1 ⟨rfl, hm, hb⟩; have HM := Aside0.mk hm; have HB := Aside0.mk hb; clear hm hb)
  go_loopg [5, 6, 7, 14] l0.length (fun g1 v5 v6 v7 vi wr => ∃ (i h n : Nat) (out : List Int), v6 = .int .u64 h ∧ v7 = .int .i64 n ∧ vi = .int .i64 i ∧ i ≤ l0.length ∧ l0.length - i ≤ g1 ∧ h < 18446744073709551616 ∧ n < 8 ∧ out.length ≤ 5 * i ∧
      Aside0 (Kd.R (Kd.int .u8) 5 wr W0.heap.size (fun k => k ≠ b) v5 out) ∧ Aside0 (Below W0.heap.size W0 wr) ∧ Aside0 (Md b wr) ∧ Hid (encL (l0.drop i) h n out = encL l0 0 0 []))
  case atStart => exact ⟨0, 0, 0, [], rfl, rfl, rfl, by omega, by omega, by decide, by decide, by simp, ⟨Kd.R_nil _ _ _ _ _⟩, HB, HM, rfl⟩
  case round =>
    clear HB HM
    obtain ⟨i, h, n, out, rfl, rfl, rfl, hi, hg, hh, hn, ho, HO, HB, HM, HE⟩ := hrel
    by_cases hlt : i < l0.length
    · have hlz : (i : Int) < (l0.length : Int) := by omega
      have hd : decide ((i : Int) < (l0.length : Int)) = true := decide_eq_true hlz
      obtain ⟨c1, c2⟩ := h8 i hlt
      obtain ⟨ad, ead, hcell⟩ := Kd.at_int (Kd.C_below HR0.out HB.out) (i : Int) (by omega) hlz
      obtain ⟨c, hc⟩ : ∃ c : Nat, rd l0 i = (c : Int) := ⟨(rd l0 i).toNat, by omega⟩
      rw [hc, Int.toNat_natCast] at hcell
      rw [hc] at c1 c2
      have HC := Aside0.mk hc
      clear hc
      cases ead
      have hcl : c < 257 := by omega
      have hl1 : ∀ w, Calls Try.prog 43 #[.int .i64 (c : Int)] w fun e w' => e = .returned (.int .i64 (L c)) ∧ w' = w := fun w => long_calls c hcl w
      have hcode : wr.cell? ⟨b, 4 + c, none⟩ = some (.int .u32 (C c : Nat)) := by
        obtain ⟨j, hj, rfl⟩ := rank_of c hcl
        exact HM.out.tb.code j hj
      have hLb := L_bd c hcl
      have hCb := C_bd c hcl
      obtain ⟨lc, hlc⟩ : ∃ lc, lc = L c := ⟨_, rfl⟩
      obtain ⟨cc, hcc⟩ : ∃ cc, cc = C c := ⟨_, rfl⟩
      rw [← hlc] at hl1 hLb
      rw [← hcc] at hcode hCb
      have HLC := Aside0.mk hlc
      have HCC := Aside0.mk hcc
      obtain ⟨hN, hhN⟩ : ∃ hN, hN = nextH h c := ⟨_, rfl⟩
      have hNb : hN < 18446744073709551616 := by
        rw [hhN]; unfold nextH
        exact Nat.or_lt_two_pow (n := 64) (Nat.mod_lt _ (by decide)) (by rw [← hcc]; omega)
      have hbits : bits .or .u64 (IntKind.u64.wrap ((h : Int) * 2 ^ lc)) (cc : Int) = (hN : Int) := by
        have e1 : IntKind.u64.wrap ((h : Int) * 2 ^ lc) = ((h * 2 ^ lc % 18446744073709551616 : Nat) : Int) := by
          rw [IntKind.wrap_u64, show (h : Int) * 2 ^ lc = ((h * 2 ^ lc : Nat) : Int) by rw [Int.natCast_mul, Int.natCast_pow]; rfl]; rfl
        rw [e1, bits_or_u64_nat _ _ (Nat.mod_lt _ (by decide)) (by omega), hhN]
        unfold nextH
        rw [hlc, hcc]
      have HHN := Aside0.mk hhN
      clear hlc hcc hhN
      go_wp2
      go_quiet (first | (go_at_call 43; exact (hl1 _).mono (by rintro e w' ⟨rfl, rfl⟩; exact ⟨rfl, _, rfl⟩)))
      clear hbits
      go_wp2
      go_loopg [5, 7] 5 (fun g2 v5 v7 wr => ∃ (n2 : Nat) (out2 : List Int), v7 = .int .i64 n2 ∧ n2 ≤ 8 * g2 + 7 ∧ n2 < 40 ∧ out2.length + g2 ≤ 5 * i + 5 ∧
        Aside0 (Kd.R (Kd.int .u8) 5 wr W0.heap.size (fun k => k ≠ b) v5 out2) ∧ Aside0 (Below W0.heap.size W0 wr) ∧ Aside0 (Md b wr) ∧ Hid (inn g2 hN n2 out2 = inn 5 hN (n + lc) out))
      case atStart => exact ⟨n + lc, out, by first | rfl | (congr 1; omega), by omega, by omega, by omega, ⟨HO.out⟩, ⟨pw_below_drewN HB.out nq⟩, ⟨HM.out.keep (pw_below_drewN (Below.refl _ _) nq)⟩, rfl⟩
      case round =>
        clear HO HB HM hcode hcell
        obtain ⟨n2, out2, rfl, hn2, hn3, ho2, HO, HB, HM, HI⟩ := hrel
        by_cases h8n : 8 ≤ n2
        · have h8z : (8 : Int) ≤ (n2 : Int) := by omega
          have h8d : decide ((n2 : Int) ≥ 8) = true := decide_eq_true h8z
          obtain ⟨k, rfl⟩ : ∃ k, gk = k + 1 := ⟨gk - 1, by omega⟩
          obtain ⟨m, hm⟩ : ∃ m, m + 8 = n2 := ⟨n2 - 8, by omega⟩
          have zm : (n2 : Int) - 8 = (m : Int) := by omega
          go_wp2_with (first | ((with_reducible refine gate_builtin (b := .append) (xs := #[.tmp 40, .tmp 46]) rfl ?_); at_builtin; refine Kd.R_append (Kd.int .u8) (w0 := W0) W0.heap.size rfl (.tmp 40) (.tmp 46) 22 5 (.int .u8 0) 1 rfl Try.underlying22 info5 rfl (by decide) (by omega) u5 out2 ((hN : Int) / 2 ^ m % 256) [.int .u8 ((hN : Int) / 2 ^ m % 256)] (fun k => k ≠ b) (fun _ => False) rfl rfl ?aP (fun _ hk => hk.elim) ?aF ?aO ?aB ?aS ?aL ?_; (case aP => exact rfl); (case aB => exact HB.out); (case aF => exact (fun k hk => by have := HM.out.lt; omega)); (case aO => exact HO.out); (case aS => exact below_size HB.out); (case aL => omega); intro v8 w8 ho hb hg hat; have HM8 := Aside0.mk (md_grown HM.out hg (fun q => HO.out.1 b q rfl)); have HO8 := Aside0.mk ho; have HB8 := Aside0.mk hb; clear HO HB HM ho hb hg hat))
          go_roundg k
          case measure => omega
          case rel => exact ⟨m, out2 ++ [(hN : Int) / 2 ^ m % 256], by first | rfl | (congr 1; omega), by omega, by omega, by simp; omega, HO8, HB8, HM8, (show _ = _ from by rw [← HI.out, ← hm, inn, if_pos (by omega), show m + 8 - 8 = m by omega]; simp)⟩
        · have h8z : ¬ (8 : Int) ≤ (n2 : Int) := by omega
          have h8d : decide ((n2 : Int) ≥ 8) = false := decide_eq_false h8z
          have HII : Aside0 (inn 5 hN (n + lc) out = (out2, n2)) := ⟨by rw [← HI.out, inn_stop _ _ _ _ h8n]⟩
          clear HI
          go_wp2
          go_roundg (l0.length - (i + 1))
          case measure => omega
          case rel => exact ⟨i + 1, hN, n2, out2, rfl, rfl, by first | rfl | go_num, by omega, by omega, hNb, by omega, by omega, HO, HB, HM, (show _ = _ from by
              rw [← HE.out, drop_rd l0 i hlt, HC.out]
              show _ = encL (l0.drop (i + 1)) (nextH h (c : Int).toNat) (inn 5 (nextH h (c : Int).toNat) (n + L (c : Int).toNat) out).2 (inn 5 (nextH h (c : Int).toNat) (n + L (c : Int).toNat) out).1
              rw [Int.toNat_natCast, ← HHN.out, ← HLC.out, HII.out])⟩
    · have hlz : ¬ (i : Int) < (l0.length : Int) := by omega
      have hd : decide ((i : Int) < (l0.length : Int)) = false := decide_eq_false hlz
      have hil : i = l0.length := by omega
      have HEE : Aside0 (encL l0 0 0 [] = if 0 < n then out ++ [((h * 2 ^ (8 - n) % 256 ||| (2 ^ (8 - n) - 1) : Nat) : Int)] else out) := ⟨by rw [← HE.out, List.drop_eq_nil_of_le (by omega)]; rfl⟩
      clear HE hil
      by_cases hn0 : 0 < n
      · have hnz : (0 : Int) < (n : Int) := by omega
        have hnd : decide ((n : Int) > 0) = true := decide_eq_true hnz
        obtain ⟨m, hm⟩ : ∃ m, m + n = 8 := ⟨8 - n, by omega⟩
        have zm : (8 : Int) - (n : Int) = (m : Int) := by omega
        have hm1 : m < 8 := by omega
        have hm2 : 0 < m := by omega
        have ra : IntKind.i64.wrap ((8 : Int) - (n : Int)) = (m : Int) := by rw [IntKind.wrap_i64]; omega
        have rb : IntKind.i64.wrap (m : Int) = (m : Int) := by rw [IntKind.wrap_i64]; omega
        have hsu : ∀ W, (Op.shift .shl .u64 (h : Int) .i64 (m : Int)).run Try.prog W = .ok (.int .u64 (IntKind.u64.wrap ((h : Int) * 2 ^ m))) W := fun W => by go_simp
        have hs8 : ∀ W, (Op.shift .shl .u8 1 .i64 (m : Int)).run Try.prog W = .ok (.int .u8 (IntKind.u8.wrap (1 * 2 ^ m))) W := fun W => by go_simp
        obtain ⟨y, hy⟩ : ∃ y, y = (h * 2 ^ m % 256 ||| (2 ^ m - 1)) := ⟨_, rfl⟩
        have hbX : bits .or .u8 (IntKind.u8.wrap (IntKind.u64.wrap ((h : Int) * 2 ^ m))) (IntKind.u8.wrap (IntKind.u8.wrap (2 ^ m) - 1)) = (y : Int) := by rw [hy]; exact last_byte h m hm1
        have HY := Aside0.mk hy
        clear hy
        go_wp2
        go_region_law (refine Kd.R_append_step (Kd.int .u8) (w0 := W0) (W := wr.drew) W0.heap.size rfl (.tmp 51) (.tmp 62) 22 5 (.int .u8 0) 1 rfl Try.underlying22 info5 rfl (by decide) (by decide) u5 out (y : Int) [.int .u8 (y : Int)] (fun k => k ≠ b) (fun _ => False) rfl rfl rfl (fun _ hk => hk.elim) (fun k hk => by have h1 := HM.out.lt; intro e; subst e; exact Nat.lt_irrefl _ (Nat.lt_of_lt_of_le h1 hk)) (Kd.R_drew HO.out) (below_drew1 HB.out) (below_size (below_drew1 HB.out)) (by omega) ?_; intro v8 w8 ho hb hg hat; have HM8 := Aside0.mk (md_grown (HM.out.keep (below_drew1 (Below.refl _ _))) hg (fun q => HO.out.1 b q rfl)); have HO8 := Aside0.mk ho; have HB8 := Aside0.mk hb; clear HO HB HM ho hb hg hat)
        go_wp2
        go_ret
        exact ⟨⟨_, rfl, by rw [HEE.out, if_pos hn0, show 8 - n = m by omega, ← HY.out]; exact HO8.out⟩, HB8.out, HM8.out⟩
      · have hnz : ¬ (0 : Int) < (n : Int) := by omega
        have hnd : decide ((n : Int) > 0) = false := decide_eq_false hnz
        go_wp2
        go_ret
        exact ⟨⟨_, rfl, by rw [HEE.out, if_neg hn0]; exact HO.out⟩, HB.out, HM.out⟩
end Go.Proofs.Ythfildmldppihaa.En
