/- LitEncodes, by hand: the walk and its law. -/
import Derived.Test.YthfildmldppihaaPe
namespace Go.Proofs.Ythfildmldppihaa.Le
open Go.RowKit Go.Proofs.Ythfildmldppihaa.Q Go.Proofs.Ythfildmldppihaa.Gv Go.Proofs.Ythfildmldppihaa.Pt Go.Proofs.Ythfildmldppihaa.Pure Go.Proofs.YthfildmldppihaaW.PrintWords Go.Proofs.YthfildmldppihaaW.PrintLast Go.Proofs.YthfildmldppihaaW.PrintMore
def nb (c : Bool) : Int := if c = true then 1 else 0
set_option maxHeartbeats 4000000 in
set_option maxRecDepth 100000 in
theorem number_calls (c : Bool) (w : World) : Calls Try.prog 34 #[.bool c] w fun e w' => e = .returned (.int .i64 (nb c)) ∧ w' = w := by
  cases c with
  | true =>
    go_enter Try.func34, Try.ntmps34
    go_wp2
    go_ret
    exact ⟨rfl, rfl⟩
  | false =>
    go_enter Try.func34, Try.ntmps34
    go_wp2
    go_ret
    exact ⟨rfl, rfl⟩
theorem awake_calls (w : World) : Calls Try.prog 13 #[] w fun e w' => e = .returned (.bool true) ∧ Below w.heap.size w w' := squintlaw04_awake.calls 20 true w awake4_at
set_option maxHeartbeats 32000000 in
set_option maxRecDepth 100000 in
theorem law_calls (A0 : Option Addr) (c0 : Nat) (l : List Int) (c : Bool) (hl : Byt l) (w : World) (hr0 : Kd.C (Kd.int .u8) w A0 l.length l) (hc0 : l.length ≤ c0) :
    Calls Try.prog 12 #[.slice A0 l.length c0, .bool c] w fun e w' => e = .returned (.bool true) ∧ Below w.heap.size w w' := by
  have mixed : Try.prog.follows .mixedOrders = true := by kernel_rfl
  have HR0 := Aside0.mk hr0
  have HC0 := Aside0.mk hc0
  clear hr0 hc0
  by_cases h300 : (300 : Int) < (l.length : Int)
  · have hd : decide ((l.length : Int) > 300) = true := decide_eq_true h300
    clear hl
    go_enter Try.func12, Try.ntmps12
    go_wp2_with (go_at_call 13; refine (awake_calls _).mono ?_; rintro e w2 ⟨rfl, hb⟩; have HB := Aside0.mk hb; clear hb)
    go_ret
    exact ⟨rfl, HB.out⟩
  · have hd : decide ((l.length : Int) > 300) = false := decide_eq_false h300
    have hn : l.length ≤ 4096 := by omega
    obtain ⟨k, hk⟩ : ∃ k, 200000 < k := ⟨200001, by omega⟩
    have h1 := encode_lit hl hn c (show 10 ≤ k by omega)
    have h2 := refencode_lit hl hn c hk
    have h3 : lit_Len.f k l c = some ((lenc l c).length : Int) := by unfold lit_Len.f; rw [h1]; rfl
    have hbb := lenc_byt hl hn c
    have hbl := lenc_len hl hn c
    have h4 : lit_Decode.f k (lenc l c) (l.length : Int) = some (l, ((lenc l c).length : Int), 0) := by
      rw [decode_lit hbb (by omega) _ (by omega)]
      have h := ldec_lenc hl hn c [] (l.length : Int)
      rw [List.append_nil] at h
      rw [h, if_neg (by omega)]
    obtain ⟨b, hb⟩ : ∃ b, b = lenc l c := ⟨_, rfl⟩
    rw [← hb] at h1 h2 h3 h4 hbl
    have H1 := Aside0.mk h1
    have H2 := Aside0.mk h2
    have H3 := Aside0.mk h3
    have H4 := Aside0.mk h4
    clear h1 h2 h3 h4 hb hbb hk hl
    go_enter Try.func12, Try.ntmps12
    go_upto_region 4 with (go_at_call 16; refine (lit_Encode.calls k _ _ l c b 0 _ HR0.out HC0.out H1.out).mono ?_; rintro e w1 ⟨v5, rfl, ho, hb⟩; have HO := Aside0.mk ho; have HB := Aside0.mk hb; clear ho hb)
    obtain ⟨A5, c5, e5⟩ := Kd.R_slice HO.out
    subst e5
    go_cut [39] (fun v39 wc => v39 = .bool false ∧ Aside0 (Kd.R (Kd.int .u8) 5 wc w.heap.size (fun _ => True) (.slice A5 b.length c5) b) ∧ Aside0 (Below w.heap.size w wc))
    case first =>
      have HBd := Aside0.mk (below_drew1 HB.out)
      have HOd := Aside0.mk (Kd.R_drew HO.out)
      clear HB HO
      have HB := HBd
      have HO := HOd
      clear HBd HOd
      go_region_held (fun w' => (convert 22 9 (.slice A0 l.length c0)).run Try.prog w' = .ok (.string (strOfNums l)) w' ∧ (convert 22 9 (.slice A5 b.length c5)).run Try.prog w' = .ok (.string (strOfNums b)) w') (exact ⟨(Kd.C_string (P := Try.prog) (A := A0) (c := c0) Try.underlying22 Try.underlying5 Try.underlying9 (Kd.C_below HR0.out HB.out)), (own_string (P := Try.prog) Try.underlying22 Try.underlying5 Try.underlying9 (Kd.own_of_R HO.out))⟩) (first | (go_at_call 34; refine (number_calls c _).mono ?_; rintro e w9 ⟨rfl, rfl⟩) | (go_at_call 14; refine (squintref04_Encode.calls k (strOfNums l) (nb c) (strOfNums b) _ H2.out).mono ?_; rintro e w9 ⟨rfl, hb⟩; have HB1 := Aside0.mk (below_step HB.out hb); have HO1 := Aside0.mk (Kd.R_below HO.out hb); clear HB HO hb; have HB := HB1; have HO := HO1; clear HB1 HO1) | (go_at_call 17; refine (lit_Len.calls k _ _ l c _ _ (Kd.C_below HR0.out HB.out) HC0.out H3.out).mono ?_; rintro e w9 ⟨rfl, hb⟩; have HB1 := Aside0.mk (below_step HB.out hb); have HO1 := Aside0.mk (Kd.R_below HO.out hb); clear HB HO hb; have HB := HB1; have HO := HO1; clear HB1 HO1))
      all_goals go_wp2
      all_goals go_meet
      all_goals (case rel => exact ⟨rfl, HO, HB⟩)
    case rest =>
      clear HO HB
      obtain ⟨rfl, HO, HB⟩ := hcut
      go_wp2_with (first | (go_at_call 18; refine (lit_Decode.calls k _ _ b (l.length : Int) l (b.length : Int) 0 _ (Kd.R_reads' HO.out).2.2 (Kd.R_reads' HO.out).2.1 H4.out).mono ?_; rintro e w10 ⟨v7, rfl, ho, hb⟩; have HB9 := Aside0.mk (below_step HB.out hb); have HO9 := Aside0.mk ho; clear HB HO hb ho; have HB := HB9; have HO := HO9; clear HB9 HO9; have hcvA := Kd.C_string (P := Try.prog) (A := A0) (c := c0) Try.underlying22 Try.underlying5 Try.underlying9 (Kd.C_below HR0.out HB.out); have hcvB := own_string (P := Try.prog) Try.underlying22 Try.underlying5 Try.underlying9 (Kd.own_of_R HO.out)) | (go_at_call 13; refine (awake_calls _).mono ?_; rintro e w2 ⟨rfl, hb⟩; have HB2 := Aside0.mk (below_step HB.out hb); clear hb))
      go_ret
      exact ⟨rfl, HB2.out⟩
theorem walk (a0 : Option Addr) (len0 cap0 : Nat) (z0 : List Int) (a1 : Bool) (w : World) (w0 : (a0 = none ∧ len0 = 0 ∧ cap0 = 0 ∧ z0 = []) ∨ ∃ x, a0 = some x ∧ len0 ≤ cap0 ∧ cap0 ≤ maxLen ∧ z0.length = cap0 ∧ (∀ i, i < z0.length → w.cell? (x.add i) = some (.int .u8 (z0.getD i 0))) ∧ ∀ n ∈ z0, (Lit.int .u8 n).wf = true) :
    Calls Try.prog 12 #[.slice a0 len0 cap0, .bool a1] w fun e w' => e = .returned (.bool true) ∧ Below w.heap.size w w' := by
  obtain ⟨l0, rfl, hr0, hm0, hw0, hc0⟩ := ReadsInt.ofRowC w0
  exact law_calls a0 cap0 l0 a1 (byt_wf hw0) w (Kd.C_of_reads (d := (0 : Int)) (h1 := fun _ => rfl) hr0) hc0
end Go.Proofs.Ythfildmldppihaa.Le
