/- HuffOnce, by hand: the walk and its law. -/
import Derived.Test.YthfildmldppihaaRw
import Derived.Test.YthfildmldppihaaHc
import Derived.Test.YthfildmldppihaaEn
namespace Go.Proofs.Ythfildmldppihaa.Ho
open Go.RowKit Go.Proofs.Ythfildmldppihaa.Ga Go.Proofs.Ythfildmldppihaa.Gi Go.Proofs.Ythfildmldppihaa.Gj Go.Proofs.Ythfildmldppihaa.Gk Go.Proofs.Ythfildmldppihaa.Gl Go.Proofs.Ythfildmldppihaa.Gp Go.Proofs.Ythfildmldppihaa.Gs Go.Proofs.Ythfildmldppihaa.Gh Go.Proofs.Ythfildmldppihaa.Gv Go.Proofs.Ythfildmldppihaa.Nc Go.Proofs.Ythfildmldppihaa.En Go.Proofs.Ythfildmldppihaa.Rw Go.Proofs.YthfildmldppihaaW.PrintWords Go.Proofs.YthfildmldppihaaW.PrintLast Go.Proofs.YthfildmldppihaaW.PrintMore
/-- The coder ahead of the i-th round. -/
def Co (b i : Nat) (W : World) : Prop := if i = 0 then New b W else Md b W
theorem co_get {b i : Nat} {W : World} (h : Co b i W) (n : Nat) : Calls Try.prog 45 #[.pointer (some ⟨b, 0, none⟩)] (W.drewN n) fun e w' => e = .returned (.pointer (some ⟨b, 0, none⟩)) ∧ Md b w' ∧ Else b (W.drewN n) w' := by
  unfold Co at h
  split at h
  · exact get_new h n
  · exact get_made h n
theorem md_get {b : Nat} {W : World} (h : Md b W) : Calls Try.prog 45 #[.pointer (some ⟨b, 0, none⟩)] W fun e w' => e = .returned (.pointer (some ⟨b, 0, none⟩)) ∧ Md b w' ∧ Else b W w' :=
  (get_again b _ h).mono fun _ _ ⟨he, hb⟩ => ⟨he, h.keep hb, else_below hb⟩
theorem co_get0 {b i : Nat} {W : World} (h : Co b i W) : Calls Try.prog 45 #[.pointer (some ⟨b, 0, none⟩)] W fun e w' => e = .returned (.pointer (some ⟨b, 0, none⟩)) ∧ Md b w' ∧ Else b W w' := by
  unfold Co at h
  split at h
  · exact get_first b W h
  · exact md_get h
theorem md_made {b : Nat} {W : World} (h : Md b W) : Calls Try.prog 29 #[.pointer (some ⟨b, 0, none⟩)] W fun e w' => e = .returned (.int .i64 1) ∧ w' = W := made_calls b 1 W h.tb.made
set_option maxHeartbeats 64000000 in
set_option maxRecDepth 100000 in
theorem law_calls (A0 : Option Addr) (c0 : Nat) (xs : List (List Int)) (w : World) (hr : RowsAt w A0 xs) :
    Calls Try.prog 9 #[.slice A0 xs.length c0] w fun e w' => e = .returned (.bool true) ∧ Below w.heap.size w w' := by
  have mixed : Try.prog.follows .mixedOrders = true := by kernel_rfl
  have HR := Aside0.mk hr
  clear hr
  obtain ⟨b, hb⟩ : ∃ b, b = w.heap.size := ⟨_, rfl⟩
  have HBD := Aside0.mk hb
  have HN0 : Aside0 (Calls Try.prog 28 #[] w fun e w' => e = .returned (.pointer (some ⟨b, 0, none⟩)) ∧ New b w' ∧ Below w.heap.size w w') := ⟨(new_calls w).mono fun e w' ⟨he, hw⟩ => by
    rw [he, hw, hb]
    exact ⟨rfl, new_is w, (Below.refl _ w).alloc (Nat.le_refl _) _⟩⟩
  clear hb
  by_cases h20 : (20 : Int) < (xs.length : Int)
  · have hd : decide ((xs.length : Int) > 20) = true := decide_eq_true h20
    go_enter Try.func9, Try.ntmps9
    go_wp2_with (first | (go_at_call 28; refine HN0.out.mono ?_; rintro e w1 ⟨rfl, hn, hb⟩; have HB := Aside0.mk hb; clear hn hb) | (go_at_call 19; refine (Hc.awake_calls _).mono ?_; rintro e w2 ⟨rfl, hb⟩; have HB2 := Aside0.mk (below_step HB.out hb); clear hb))
    go_ret
    exact ⟨rfl, HB2.out⟩
  · have hd : decide ((xs.length : Int) > 20) = false := decide_eq_false h20
    obtain ⟨N, hN⟩ : ∃ N, N = xs.length := ⟨_, rfl⟩
    rw [← hN] at h20 hd ⊢
    have HN := Aside0.mk hN
    clear hN
    go_enter Try.func9, Try.ntmps9
    go_wp2_with (first | (go_at_call 28; refine HN0.out.mono ?_; rintro e w1 ⟨rfl, hn, hb⟩; have HNW := Aside0.mk hn; have HB := Aside0.mk hb; clear hn hb) | (go_at_call 29; refine (made_calls b 0 _ HNW.out.fr.made).mono ?_; rintro e w2 ⟨rfl, rfl⟩))
    go_loopg [34] N (fun g vi wr => ∃ i : Nat, vi = .int .i64 i ∧ i ≤ N ∧ N - i ≤ g ∧ Aside0 (Co b i wr) ∧ Aside0 (Below w.heap.size w wr))
    case atStart => exact ⟨0, rfl, by omega, by omega, ⟨by unfold Co; rw [if_pos rfl]; exact HNW.out⟩, HB⟩
    case round =>
      clear HNW HB
      obtain ⟨i, rfl, hi, hg, HCO, HB⟩ := hrel
      by_cases hlt : i < N
      · have hlz : (i : Int) < (N : Int) := by omega
        have hld : decide ((i : Int) < (N : Int)) = true := decide_eq_true hlz
        have hi0 : (0 : Int) ≤ (i : Int) := by omega
        obtain ⟨ad, Ai, ci, ead, hcell, hci, hC, hbyt⟩ := (HR.out.keep HB.out) i (by rw [← HN.out]; exact hlt)
        obtain ⟨_, Ai', ci', ead', hcell', _, hC0, _⟩ := HR.out i (by rw [← HN.out]; exact hlt)
        have hsame : Ai' = Ai ∧ ci' = ci := by
          rw [ead] at ead'
          obtain rfl := Option.some.inj ead'
          have h1 := HB.out.cell (World.block_lt_of_cell? w _ hcell')
          rw [hcell'] at h1
          rw [h1] at hcell
          injection hcell with hcell
          injection hcell with h2 h3 h4
          exact ⟨h2, h4⟩
        obtain ⟨rfl, rfl⟩ := hsame
        subst ead
        obtain ⟨s, hs⟩ : ∃ s, s = at' xs i := ⟨_, rfl⟩
        rw [← hs] at hcell hci hC0 hbyt
        have HC := Aside0.mk hC0
        have HBY := Aside0.mk hbyt
        clear hC hC0 hbyt hs ead' hcell'
        by_cases h100 : (100 : Int) < (s.length : Int)
        · have hsd : decide ((s.length : Int) > 100) = true := decide_eq_true h100
          go_wp2_with (go_at_call 19; refine (Hc.awake_calls _).mono ?_; rintro e w2 ⟨rfl, hb⟩; have HB2 := Aside0.mk (below_step HB.out hb); clear hb)
          go_ret
          exact ⟨rfl, HB2.out⟩
        · have hsd : decide ((s.length : Int) > 100) = false := decide_eq_false h100
          have hs100 : s.length ≤ 100000 := by omega
          have H8 := Aside0.mk (Pure.cond_byt HBY.out hs100).2
          obtain ⟨⟨r, er⟩, hre⟩ : ∃ p, p = Pt.rdec ((Pt.bitsOf s).length + 1) (Pt.bitsOf s) [] := ⟨_, rfl⟩
          have HD : Aside0 (dec s = some (r, er)) := ⟨(Pt.dec_eq s).trans (congrArg some hre.symm)⟩
          have HDF : Aside0 (huff_Decode.f s = some (r, er)) := ⟨(Pure.decode_ok HBY.out hs100).trans (congrArg some hre.symm)⟩
          have HEF : Aside0 (huff_Encode.f s = some (encL s 0 0 [])) := ⟨Pure.encode_ok HBY.out hs100⟩
          obtain ⟨E, hE⟩ : ∃ E, E = encL s 0 0 [] := ⟨_, rfl⟩
          rw [← hE] at HEF
          have HE := Aside0.mk hE
          clear hre hE
          have hi257 : i < 257 := by omega
          have HCD := Aside0.mk (code_calls b w wr (Nat.le_of_eq HBD.out.symm) HB.out (co_get HCO.out) i hi257)
          have HPC := Aside0.mk (fun W => pcode_in i hi257 W)
          obtain ⟨lc, hlc⟩ : ∃ lc, lc = L i := ⟨_, rfl⟩
          obtain ⟨cc, hcc⟩ : ∃ cc, cc = C i := ⟨_, rfl⟩
          rw [← hlc, ← hcc] at HCD HPC
          clear hlc hcc
          go_upto_region 15 with (first | (go_at_call 30; refine HCD.out.mono ?_; rintro e w1 ⟨rfl, hb, hm⟩; have HB1 := Aside0.mk hb; have HM := Aside0.mk hm; clear HB HCD hb hm; have HB := HB1; clear HB1) | (go_at_call 24; refine (HPC.out _).mono ?_; rintro e w2 ⟨rfl, hb⟩; have HB1 := Aside0.mk (below_step HB.out hb); have HM1 := Aside0.mk (HM.out.keep hb); clear HB HM hb; have HB := HB1; have HM := HM1; clear HB1 HM1) | (go_at_call 31; refine (decode_calls b w _ (Nat.le_of_eq HBD.out.symm) HB.out (md_get HM.out) _ _ s HC.out (by omega) H8.out r er HD.out).mono ?_; rintro e w3 ⟨⟨v12, rfl, ho⟩, hb, hm⟩; have HO12 := Aside0.mk ho; have HB1 := Aside0.mk hb; have HM1 := Aside0.mk hm; clear HB HM ho hb hm; have HB := HB1; have HM := HM1; clear HB1 HM1) | (go_at_call 20; refine (huff_Decode.calls _ _ s r er _ (Kd.C_below HC.out HB.out) hci HDF.out).mono ?_; rintro e w4 ⟨v14, rfl, ho, hb⟩; have HO14 := Aside0.mk ho; have HO1 := Aside0.mk (Kd.R_below HO12.out hb); have HB1 := Aside0.mk (below_step HB.out hb); have HM1 := Aside0.mk (HM.out.keep hb); clear HO12 HB HM ho hb; have HO12 := HO1; have HB := HB1; have HM := HM1; clear HO1 HB1 HM1))
          obtain ⟨A12, c12, e12⟩ := Kd.R_slice HO12.out
          obtain ⟨A14, c14, e14⟩ := Kd.R_slice HO14.out
          subst e12
          subst e14
          go_cut [106] (fun v106 wc => v106 = .bool false ∧ Aside0 (Md b wc) ∧ Aside0 (Below w.heap.size w wc))
          case first =>
            have HBd := Aside0.mk (below_drew1 HB.out)
            have HMd := Aside0.mk (HM.out.keep (below_drew1 (Below.refl _ _)))
            have HO12d := Aside0.mk (Kd.R_drew HO12.out)
            have HO14d := Aside0.mk (Kd.R_drew HO14.out)
            clear HB HM HO12 HO14
            have HB := HBd
            have HM := HMd
            have HO12 := HO12d
            have HO14 := HO14d
            clear HBd HMd HO12d HO14d
            go_region_held (fun w' => (convert 22 9 (.slice A12 r.length c12)).run Try.prog w' = .ok (.string (strOfNums r)) w' ∧ (convert 22 9 (.slice A14 r.length c14)).run Try.prog w' = .ok (.string (strOfNums r)) w') (exact ⟨(own_string (P := Try.prog) Try.underlying22 Try.underlying5 Try.underlying9 (Kd.own_of_R HO12.out)), (own_string (P := Try.prog) Try.underlying22 Try.underlying5 Try.underlying9 (Kd.own_of_R HO14.out))⟩) (first | (go_at_call 32; refine (encode_made b _ HM.out _ _ s (Kd.C_below HC.out HB.out) (by omega) H8.out).mono ?_; rintro e w9 ⟨⟨v69, rfl, ho⟩, hb, hm⟩; have HB1 := Aside0.mk (below_step HB.out hb); have HM1 := Aside0.mk (hm); have HO1 := Aside0.mk (Kd.R_below HO12.out hb); have HO2 := Aside0.mk (Kd.R_below HO14.out hb); clear HB HM HO12 HO14; have HB := HB1; have HM := HM1; have HO12 := HO1; have HO14 := HO2; clear HB1 HM1 HO1 HO2; rw [← HE.out] at ho; have HO69 := Aside0.mk ho; (try (have HOx := Aside0.mk (Kd.R_below HO72.out hb); clear HO72 hcv72; have HO72 := HOx; clear HOx; have hcv72 := (own_string (P := Try.prog) Try.underlying22 Try.underlying5 Try.underlying9 (Kd.own_of_R HO72.out)))); clear ho hb hm; obtain ⟨A69, c69, e69⟩ := Kd.R_slice HO69.out; subst e69; have hcv69 := (own_string (P := Try.prog) Try.underlying22 Try.underlying5 Try.underlying9 (Kd.own_of_R HO69.out))) | (go_at_call 23; refine (huff_Encode.calls _ _ s E _ (Kd.C_below HC.out HB.out) hci HEF.out).mono ?_; rintro e w10 ⟨v72, rfl, ho, hb⟩; have HB1 := Aside0.mk (below_step HB.out hb); have HM1 := Aside0.mk (HM.out.keep hb); have HO1 := Aside0.mk (Kd.R_below HO12.out hb); have HO2 := Aside0.mk (Kd.R_below HO14.out hb); clear HB HM HO12 HO14; have HB := HB1; have HM := HM1; have HO12 := HO1; have HO14 := HO2; clear HB1 HM1 HO1 HO2; have HO72 := Aside0.mk ho; (try (have HOx := Aside0.mk (Kd.R_below HO69.out hb); clear HO69 hcv69; have HO69 := HOx; clear HOx; have hcv69 := (own_string (P := Try.prog) Try.underlying22 Try.underlying5 Try.underlying9 (Kd.own_of_R HO69.out)))); clear ho hb; obtain ⟨A72, c72, e72⟩ := Kd.R_slice HO72.out; subst e72; have hcv72 := (own_string (P := Try.prog) Try.underlying22 Try.underlying5 Try.underlying9 (Kd.own_of_R HO72.out))) | (go_at_call 29; refine (md_made HM.out).mono ?_; rintro e w11 ⟨rfl, rfl⟩))
            all_goals go_wp2
            all_goals go_meet
            all_goals (case rel => exact ⟨rfl, HM, HB⟩)
          case rest =>
            clear HO12 HO14 HM HB
            obtain ⟨rfl, HM, HB⟩ := hcut
            go_wp2
            go_roundg (N - (i + 1))
            case measure => omega
            case rel => exact ⟨i + 1, by first | rfl | go_num, by omega, by omega, ⟨by unfold Co; rw [if_neg (by omega)]; exact HM.out⟩, HB⟩
      · have hlz : ¬ (i : Int) < (N : Int) := by omega
        have hld : decide ((i : Int) < (N : Int)) = false := decide_eq_false hlz
        go_wp2_with (first | (go_at_call 32; refine (encode_calls b w _ (Nat.le_of_eq HBD.out.symm) HB.out (co_get0 HCO.out) none 0 [] ⟨rfl, by decide, fun h => absurd h (by decide)⟩ (by decide) (fun i hi => absurd hi (by simp))).mono ?_; rintro e w8 ⟨⟨v, rfl, ho⟩, hb, hm⟩; have HB8 := Aside0.mk hb; have HM8 := Aside0.mk hm; clear HB ho hb hm; have HB := HB8; clear HB8) | (go_at_call 29; refine (md_made HM8.out).mono ?_; rintro e w2 ⟨rfl, rfl⟩) | (go_at_call 19; refine (Hc.awake_calls _).mono ?_; rintro e w2 ⟨rfl, hb⟩; have HB2 := Aside0.mk (below_step HB.out hb); clear hb))
        go_ret
        exact ⟨rfl, HB2.out⟩
end Go.Proofs.Ythfildmldppihaa.Ho
