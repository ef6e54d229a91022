/- LitRow, by hand: the walk and its law. -/
import Derived.Test.YthfildmldppihaaRw
import Derived.Test.YthfildmldppihaaPl
namespace Go.Proofs.Ythfildmldppihaa.Lr
open Go.RowKit Go.Proofs.Ythfildmldppihaa.Q Go.Proofs.Ythfildmldppihaa.Gv Go.Proofs.Ythfildmldppihaa.Pt Go.Proofs.Ythfildmldppihaa.Pure Go.Proofs.Ythfildmldppihaa.Rw Go.Proofs.YthfildmldppihaaW.PrintWords Go.Proofs.YthfildmldppihaaW.PrintLast Go.Proofs.YthfildmldppihaaW.PrintMore
theorem info5 : (Try.prog.info? 5).map (fun i => (i.zero, i.size, i.bytes)) = some (some (.int .u8 0), 1, 1) := by kernel_rfl
theorem awake_calls (w : World) : Calls Try.prog 13 #[] w fun e w' => e = .returned (.bool true) ∧ Below w.heap.size w w' := squintlaw04_awake.calls 20 true w awake4_at
/-- The first i texts' bytes; the texts' bytes from the i-th on. -/
def allB (xs : List (List Int)) (B : Nat → Bool) : Nat → List Int
  | 0 => []
  | i + 1 => allB xs B i ++ lenc (at' xs i) (B i)
def tlB (xs : List (List Int)) (B : Nat → Bool) : Nat → Nat → List Int
  | 0, _ => []
  | f + 1, i => lenc (at' xs i) (B i) ++ tlB xs B f (i + 1)
theorem all_tl (xs : List (List Int)) (B : Nat → Bool) : ∀ f i, allB xs B i ++ tlB xs B f i = allB xs B (i + f)
  | 0, i => by simp [tlB]
  | f + 1, i => by rw [tlB, ← List.append_assoc, show allB xs B i ++ lenc (at' xs i) (B i) = allB xs B (i + 1) from rfl, all_tl xs B f (i + 1), show i + 1 + f = i + (f + 1) by omega]
theorem tl_ok (xs : List (List Int)) (B : Nat → Bool) (hx : ∀ j, j < xs.length → Byt (at' xs j) ∧ (at' xs j).length ≤ 100) : ∀ f i, i + f ≤ xs.length → Byt (tlB xs B f i) ∧ (tlB xs B f i).length ≤ 500 * f
  | 0, i, _ => ⟨fun _ h => (by cases h), by simp [tlB]⟩
  | f + 1, i, hi => by
    obtain ⟨h1, h2⟩ := hx i (by omega)
    obtain ⟨h3, h4⟩ := tl_ok xs B hx f (i + 1) (by omega)
    have h5 := lenc_byt h1 (by omega) (B i)
    have h6 := lenc_len h1 (by omega) (B i)
    rw [tlB, List.length_append]
    exact ⟨byt_app.2 ⟨h5, h3⟩, by omega⟩
set_option maxHeartbeats 32000000 in
set_option maxRecDepth 100000 in
theorem law_calls (A0 : Option Addr) (c0 : Nat) (xs : List (List Int)) (A1 : Option Addr) (n1 c1 : Nat) (B : Nat → Bool) (w : World) (hr : RowsAt w A0 xs) (hb : BoolsAt w A1 n1 B) :
    Calls Try.prog 11 #[.slice A0 xs.length c0, .slice A1 n1 c1] w fun e w' => e = .returned (.bool true) ∧ Below w.heap.size w w' := by
  have HR := Aside0.mk hr
  have HBL := Aside0.mk hb
  clear hr hb
  by_cases h10 : (10 : Int) < (xs.length : Int)
  · have hd : decide ((xs.length : Int) > 10) = true := decide_eq_true h10
    go_enter Try.func11, Try.ntmps11
    go_wp2_with (go_at_call 13; refine (awake_calls _).mono ?_; rintro e w2 ⟨rfl, hb⟩; have HB := Aside0.mk hb; clear hb)
    go_ret
    exact ⟨rfl, HB.out⟩
  · have hd : decide ((xs.length : Int) > 10) = false := decide_eq_false h10
    by_cases hn : (n1 : Int) < (xs.length : Int)
    · have hd2 : decide ((n1 : Int) < (xs.length : Int)) = true := decide_eq_true hn
      go_enter Try.func11, Try.ntmps11
      go_wp2_with (go_at_call 13; refine (awake_calls _).mono ?_; rintro e w2 ⟨rfl, hb⟩; have HB := Aside0.mk hb; clear hb)
      go_ret
      exact ⟨rfl, HB.out⟩
    · have hd2 : decide ((n1 : Int) < (xs.length : Int)) = false := decide_eq_false hn
      obtain ⟨N, hN⟩ : ∃ N, N = xs.length := ⟨_, rfl⟩
      rw [← hN] at h10 hd hn hd2 ⊢
      have HN := Aside0.mk hN
      clear hN
      have HB := Aside0.mk (Below.refl w.heap.size w)
      obtain ⟨k, hk⟩ : ∃ k, 100 < k := ⟨101, by omega⟩
      have HK := Aside0.mk hk
      clear hk
      go_enter Try.func11, Try.ntmps11
      go_wp2
      go_loopg [5, 28] N (fun g v5 vi wr => ∃ i : Nat, vi = .int .i64 i ∧ i ≤ N ∧ N - i ≤ g ∧ (allB xs B i).length ≤ 500 * i ∧ Aside0 (∀ j, j < i → Byt (at' xs j) ∧ (at' xs j).length ≤ 100) ∧
        Aside0 (Kd.R (Kd.int .u8) 5 wr w.heap.size (fun _ => True) v5 (allB xs B i)) ∧ Aside0 (Below w.heap.size w wr))
      case atStart => exact ⟨0, rfl, by omega, by omega, by simp [allB], ⟨fun j hj => by omega⟩, ⟨Kd.R_nil _ _ _ _ _⟩, HB⟩
      case round =>
        clear HB
        obtain ⟨i, rfl, hi, hg, hal, HX, HO, HB⟩ := hrel
        by_cases hlt : i < N
        · have hlz : (i : Int) < (N : Int) := by omega
          have hld : decide ((i : Int) < (N : Int)) = true := decide_eq_true hlz
          have hi0 : (0 : Int) ≤ (i : Int) := by omega
          have hin : (i : Int) < (n1 : Int) := by omega
          obtain ⟨ad, Ai, ci, ead, hcell, hci, hC, hbyt⟩ := (HR.out.keep HB.out) i (by rw [← HN.out]; exact hlt)
          obtain ⟨bd, ebd, hbcell⟩ := (HBL.out.keep HB.out) i (by omega)
          subst ead
          subst ebd
          obtain ⟨s, hs⟩ : ∃ s, s = at' xs i := ⟨_, rfl⟩
          rw [← hs] at hcell hci hC hbyt
          have HC := Aside0.mk hC
          have HBY := Aside0.mk hbyt
          have HS := Aside0.mk hs
          obtain ⟨c, hc⟩ : ∃ c, c = B i := ⟨_, rfl⟩
          rw [← hc] at hbcell
          have HCB := Aside0.mk hc
          clear hC hbyt hs hc
          by_cases h100 : (100 : Int) < (s.length : Int)
          · have hsd : decide ((s.length : Int) > 100) = true := decide_eq_true h100
            go_wp2_with (go_at_call 13; refine (awake_calls _).mono ?_; rintro e w2 ⟨rfl, hb⟩; have HB2 := Aside0.mk (below_step HB.out hb); clear hb)
            first | go_ret | skip
            exact ⟨rfl, HB2.out⟩
          · have hsd : decide ((s.length : Int) > 100) = false := decide_eq_false h100
            have H1 := Aside0.mk (encode_lit HBY.out (show s.length ≤ 4096 by omega) c (show 10 ≤ k by have := HK.out; omega))
            have hbl := lenc_len HBY.out (show s.length ≤ 4096 by omega) c
            obtain ⟨b, hb⟩ : ∃ b, b = lenc s c := ⟨_, rfl⟩
            rw [← hb] at H1 hbl
            have HBB := Aside0.mk hb
            clear hb
            go_wp2_with (first | (go_at_call 16; refine (lit_Encode.calls k _ _ s c b 0 _ HC.out hci H1.out).mono ?_; rintro e w8 ⟨v8, rfl, ho, hb⟩; have HO8 := Aside0.mk (Kd.R_lower (Kd.R_new' ho (Kd.R_lt HO.out)) (below_size HB.out)); have HOO := Aside0.mk (Kd.R_elder' HO.out (Kd.R_base ho) hb); have HB8 := Aside0.mk (below_step HB.out hb); clear HO HB ho hb; have HO := HOO; have HB := HB8; clear HOO HB8; obtain ⟨A8, c8, e8⟩ := Kd.R_slice HO8.out; subst e8) | ((with_reducible refine gate_builtin (b := .append) (xs := #[.tmp 48, .tmp 49]) rfl ?_); at_builtin; refine Kd.R_append_rows (Kd.int .u8) (w0 := w) w.heap.size rfl (.tmp 48) (.tmp 49) 22 5 (.int .u8 0) 1 rfl Try.underlying22 info5 rfl (by decide) (by omega) u5 (allB xs B i) b _ _ _ (fun _ => True) (fun _ => False) rfl rfl ?aO ?aR (fun _ _ h => h) (fun _ h => h.elim) ?aF ?aB ?aS ?aL ?_; (case aR => exact (Kd.R_reads' HO8.out).2.2); (case aB => exact HB.out); (case aF => exact (fun _ _ => trivial)); (case aO => exact Kd.R_mono HO.out (fun _ _ => trivial)); (case aS => exact below_size HB.out); (case aL => omega); intro v9 w9 ho hb hg_ hat; have HO9 := Aside0.mk ho; have HB9 := Aside0.mk hb; clear HO HB ho hb hg_ hat))
            go_roundg (N - (i + 1))
            case measure => omega
            case rel => exact ⟨i + 1, by first | rfl | go_num, by omega, by omega, by (rw [allB, List.length_append, ← HS.out, ← HCB.out, ← HBB.out]; omega), ⟨fun j hj => by
              by_cases hji : j = i
              · rw [hji, ← HS.out]; exact ⟨HBY.out, by omega⟩
              · exact HX.out j (by omega)⟩, ⟨by rw [allB, ← HS.out, ← HCB.out, ← HBB.out]; exact HO9.out⟩, HB9⟩
        · have hlz : ¬ (i : Int) < (N : Int) := by omega
          have hld : decide ((i : Int) < (N : Int)) = false := decide_eq_false hlz
          obtain rfl : i = N := by omega
          obtain ⟨A5, c5, e5⟩ := Kd.R_slice HO.out
          subst e5
          have hq : allB xs B i = tlB xs B (i - 0) 0 := by
            have h := all_tl xs B i 0
            rw [show allB xs B 0 = [] from rfl, List.nil_append, Nat.zero_add] at h
            exact h.symm
          have HC5 := Aside0.mk (Kd.R_reads' HO.out).2.2
          have hc5 := (Kd.R_reads' HO.out).2.1
          obtain ⟨q0, hq0⟩ : ∃ q0, q0 = allB xs B i := ⟨_, rfl⟩
          rw [← hq0] at hq HC5 hc5 ⊢
          have HQ := Aside0.mk hq
          clear hq hq0 hal HO
          go_wp2
          go_loopg [5, 54] i (fun g v5 vi wr => ∃ (j : Nat) (Aq : Option Addr) (cq : Nat) (q : List Int), v5 = .slice Aq q.length cq ∧ vi = .int .i64 j ∧ j ≤ i ∧ i - j ≤ g ∧ q.length ≤ cq ∧ Aside0 (q = tlB xs B (i - j) j) ∧ Aside0 (Kd.C (Kd.int .u8) wr Aq q.length q) ∧ Aside0 (Below w.heap.size w wr))
          case atStart => exact ⟨0, A5, c5, q0, rfl, rfl, by omega, by omega, hc5, HQ, HC5, HB⟩
          case round =>
            clear HB HC5 HQ
            obtain ⟨j, Aq, cq, q, rfl, rfl, hj, hg2, hqc, HQ, HCQ, HB⟩ := hrel
            by_cases hjl : j < i
            · have hjz : (j : Int) < (i : Int) := by omega
              have hjd : decide ((j : Int) < (i : Int)) = true := decide_eq_true hjz
              have hj0 : (0 : Int) ≤ (j : Int) := by omega
              obtain ⟨ad, Ai, ci, ead, hcell, hci, hC, hbyt⟩ := (HR.out.keep HB.out) j (by rw [← HN.out]; exact hjl)
              subst ead
              obtain ⟨s, hs⟩ : ∃ s, s = at' xs j := ⟨_, rfl⟩
              obtain ⟨hx1, hx2⟩ := HX.out j hjl
              rw [← hs] at hcell hci hC hbyt hx1 hx2
              obtain ⟨c, hc⟩ : ∃ c, c = B j := ⟨_, rfl⟩
              obtain ⟨q1, hq1⟩ : ∃ q1, q1 = tlB xs B (i - (j + 1)) (j + 1) := ⟨_, rfl⟩
              have hqe : q = lenc s c ++ q1 := by
                rw [HQ.out, show i - j = (i - (j + 1)) + 1 by omega, tlB, hs, hc, hq1]
              have hto := tl_ok xs B (fun p hp => HX.out p (by rw [HN.out]; exact hp)) (i - j) j (by rw [← HN.out]; omega)
              rw [← HQ.out] at hto
              have hbl := lenc_len hx1 (show s.length ≤ 4096 by omega) c
              have hdl : lit_Decode.f k q 100 = some (s, ((lenc s c).length : Int), 0) := by
                rw [decode_lit hto.1 (by omega) 100 (by have := HK.out; omega), hqe, ldec_lenc hx1 (by omega) c q1 100, if_neg (by omega)]
              have hql : q.length = (lenc s c).length + q1.length := by rw [hqe, List.length_append]
              have hqd : q.drop (lenc s c).length = q1 := by rw [hqe, List.drop_left' rfl]
              obtain ⟨u, hu⟩ : ∃ u, u = (lenc s c).length := ⟨_, rfl⟩
              rw [← hu] at hbl hdl hql hqd
              have HDL := Aside0.mk hdl
              have HC := Aside0.mk hC
              have HQ1 := Aside0.mk hq1
              have HQD := Aside0.mk hqd
              have HQL := Aside0.mk hql
              have huq : u ≤ q.length := by omega
              clear hdl hC hbyt hs hc hq1 hqe hu hqd hto hx1 hql
              have hug : ¬ (q.length : Int) < (u : Int) := by omega
              have hugd : decide ((u : Int) > (q.length : Int)) = false := decide_eq_false hug
              obtain ⟨A', hA'⟩ : ∃ A', A' = (if cq = u then Aq else Aq.map (·.add (u * 1))) := ⟨_, rfl⟩
              have HA := Aside0.mk hA'
              have hsl : ∀ W, (Instr.slice 22 (.slice Aq q.length cq) (some (.int .i64 (u : Int))) none none).run Try.prog W = .ok (.slice A' q1.length (cq - u)) W := fun W => by
                have h := run_slice_l (P := Try.prog) W 22 Aq q.length cq Try.underlying22 .i64 (u : Int) (by omega) (by omega)
                rw [h, hA', show q1.length = q.length - u by (have := HQL.out; omega)]
                go_simp
              clear hA'
              go_wp2_with (go_at_call 18; refine (lit_Decode.calls k _ _ q 100 s (u : Int) 0 _ HCQ.out hqc HDL.out).mono ?_; rintro e w9 ⟨v12, rfl, ho, hb⟩; have HO9 := Aside0.mk ho; have HCQ9 := Aside0.mk (Kd.C_below HCQ.out (hb)); have HC9 := Aside0.mk (Kd.C_below HC.out hb); have HB9 := Aside0.mk (below_step HB.out hb); clear HB HCQ HC hb ho; have hcvA := Kd.C_string (P := Try.prog) (A := Ai) (c := ci) Try.underlying22 Try.underlying5 Try.underlying9 HC9.out; have hcvB := own_string (P := Try.prog) Try.underlying22 Try.underlying5 Try.underlying9 (Kd.own_of_R HO9.out))
              go_roundg (i - (j + 1))
              case measure => omega
              case rel => exact ⟨j + 1, A', cq - u, q1, rfl, by first | rfl | go_num, by omega, by omega, by (have h := HQL.out; omega), HQ1, ⟨by
                have h := Kd.C_drop (k := Kd.int .u8) (c := cq) (m := u) HCQ9.out (by omega) hqc
                rw [HQD.out] at h
                rw [HA.out]
                exact h⟩, HB9⟩
            · have hjz : ¬ (j : Int) < (i : Int) := by omega
              have hjd : decide ((j : Int) < (i : Int)) = false := decide_eq_false hjz
              have hq0 : q = [] := by rw [HQ.out, show i - j = 0 by omega]; rfl
              subst hq0
              go_wp2_with (go_at_call 13; refine (awake_calls _).mono ?_; rintro e w2 ⟨rfl, hb⟩; have HB2 := Aside0.mk (below_step HB.out hb); clear hb)
              go_ret
              exact ⟨rfl, HB2.out⟩
end Go.Proofs.Ythfildmldppihaa.Lr
