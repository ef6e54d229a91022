/- bytes.Clone, huff.Code. A constant string's bytes: the mark that the run time lays behind such a row. -/
import Derived.Test.YthfildmldppihaaA4
import Derived.Lib.LazyBuf
import Derived.Lib.UnsafeStr
/- bytes.Clone, huff.Code. -/
namespace Go.Proofs.Ythfildmldppihaa.Gv
open Go.RowKit Go.Proofs.Ythfildmldppihaa.Ga Go.Proofs.Ythfildmldppihaa.Gi Go.Proofs.Ythfildmldppihaa.Gj Go.Proofs.Ythfildmldppihaa.Gk Go.Proofs.Ythfildmldppihaa.Gl Go.Proofs.Ythfildmldppihaa.Gp Go.Proofs.YthfildmldppihaaW.PrintWords Go.Proofs.YthfildmldppihaaW.PrintLast Go.Proofs.YthfildmldppihaaW.PrintMore
def bytes_Clone.f (l0 : List Int) : Option (List Int) := if l0.length ≤ 100000 then some l0 else none
set_option maxRecDepth 100000 in
set_option maxHeartbeats 2000000 in
theorem bytes_Clone.calls (A0 : Option Addr) (c0 : Nat) (l0 : List Int) (r : List Int) (w : World) (hr0 : Kd.C (Kd.int .u8) w A0 l0.length l0) (_hc0 : l0.length ≤ c0) (h : bytes_Clone.f l0 = some r) :
    Calls Try.prog 39 #[.slice A0 l0.length c0] w fun e w' => ∃ v0_ : Value, e = .returned v0_ ∧ Kd.R (Kd.int .u8) 5 w' w.heap.size (fun _ => True) v0_ r ∧ Below w.heap.size w w' := by
  unfold bytes_Clone.f at h
  split at h
  · rename_i hl
    obtain rfl := Option.some.inj h
    clear h
    have HB := Aside0.mk (Below.refl w.heap.size w)
    cases A0 with
    | none =>
      have hn : l0 = [] := by
        rcases l0 with _ | ⟨x, l⟩
        · rfl
        · obtain ⟨ad, h, _⟩ := hr0.2.2 (by simp)
          cases h
      subst hn
      have hq : ∀ W, (binOp .eql 22 (.slice none 0 c0) (.slice none 0 0)).run Try.prog W = .ok (.bool true) W := fun W => run_eql_slice_nil W _ _ _ _ _ Try.underlying22
      go_enter Try.func39, Try.ntmps39
      go_wp2
      go_ret
      exact ⟨_, rfl, Kd.R_nil _ _ _ _ _, HB.out⟩
    | some ad =>
      have HR0 := Aside0.mk hr0
      clear hr0
      have hq : ∀ W, (binOp .eql 22 (.slice (some ad) l0.length c0) (.slice none 0 0)).run Try.prog W = .ok (.bool false) W := fun W => run_eql_slice_nil W _ _ _ _ _ Try.underlying22
      go_enter Try.func39, Try.ntmps39
      go_wp2_with (first | ((with_reducible refine gate_dst (N := 5) rfl ?_); (try (refine gate_guard (by rfl) ?_; dsimp only)); refine Kd.R_lit (Kd.int .u8) _ 5 ?hg (N := 5) ?hd (xs := ([] : List Int)) (inner := []) (ok := fun _ => True) (okp := fun _ => True) ?hr ?hp (fun _ hk => hk) trivial (Below.refl _ _) (Nat.le_refl _) (by simp) ?_; (case hd => rfl); (case hg => rfl); (case hr => first | (go_simp; done) | (go_simp; rfl)); (case hp => exact (Reps.none _ _)); intro v124 w16 ho17 hb hg_ hnew_; clear hg_ hnew_; have HO := Aside0.mk (Kd.R_lower ho17 (below_size HB.out)); have n1_ := Aside0.mk (below_step HB.out hb); clear HB; have HB := n1_; clear n1_ hb ho17) | ((with_reducible refine gate_builtin (b := .append) (xs := #[.tmp 5, .tmp 6]) rfl ?_); (try (refine gate_guard (by rfl) ?_; dsimp only)); at_builtin; refine Kd.R_append_rows (Kd.int .u8) (w0 := w) w.heap.size rfl (.tmp 5) (.tmp 6) 22 5 (.int .u8 0) 1 rfl Try.underlying22 info5 rfl (by decide) (by omega) v124 [] l0 _ _ _ (fun _ => True) (fun _ => False) rfl rfl ?aO ?aR (fun _ _ h => h) (fun _ h => h.elim) ?aF ?aB ?aS ?aL ?_; (case aR => exact Kd.C_below HR0.out HB.out); (case aB => exact HB.out); (case aF => exact (fun _ _ => trivial)); (case aO => exact HO.out); (case aS => exact below_size HB.out); (case aL => simp; omega); intro v127 w18 ho hb hg hat; have HO8 := Aside0.mk ho; have HB8 := Aside0.mk hb; clear HO HB ho hb hg hat))
      go_ret
      exact ⟨_, rfl, HO8.out, HB8.out⟩
  · cases h
end Go.Proofs.Ythfildmldppihaa.Gv

/- A constant string's bytes: the mark that the run time lays behind such a row. -/
namespace Go.Proofs.Ythfildmldppihaa.Gv
open Go.RowKit Go.Proofs.YthfildmldppihaaW.PrintWords Go.Proofs.YthfildmldppihaaW.PrintLast Go.Proofs.YthfildmldppihaaW.PrintMore
theorem cell_freeze (w : World) (p : Addr) (n : Nat) (a : Addr) : (w.freeze p n).cell? a = w.cell? a := by
  unfold World.freeze
  split
  · rfl
  · unfold World.cell?
    simp only [Array.getElem?_modify]
    by_cases h : p.block = a.block
    · rw [if_pos h, ← h]
      cases hh : w.heap[p.block]? with
      | none => rfl
      | some o => cases o <;> rfl
    · rw [if_neg h]
theorem size_freeze (w : World) (p : Addr) (n : Nat) : (w.freeze p n).heap.size = w.heap.size := by
  unfold World.freeze
  split
  · rfl
  · simp
theorem underlying5 : Try.prog.underlying 5 = some (.int .u8) := by kernel_rfl
theorem mark_step {ops : Array Oper} {rest : List Oper} {o : Oper} {a : Act} {w0 W : World} {Q : Exit → Act → World → Prop} (base : Nat) (hgd : o.guard = none) (x : Operand) (ho : o.op = .convert 22 22 x)
    (A : Option Addr) (c : Nat) (xs : List Int) (hne : 0 < xs.length) (hx : a.eval x = .slice A xs.length c) (HO : Kd.R (Kd.int .u8) 5 W base (fun _ => True) (.slice A xs.length c) xs) (HB : Below base w0 W)
    (h : ∀ W1, Kd.C (Kd.int .u8) W1 A xs.length xs → xs.length ≤ c → Below base w0 W1 → wpList Try.prog ops Q rest (a.put o.dst (.slice A xs.length c)) W1) : wpList Try.prog ops Q (o :: rest) a W := by
  have hu := Try.underlying22
  have hC := (Kd.R_reads' HO).2.2
  have hc := (Kd.R_reads' HO).2.1
  obtain ⟨inner, hown⟩ := Kd.R_own HO
  rcases hown.2 with ⟨hv, _⟩ | ⟨g, cap, cur, hv, hg, hb, _⟩
  · injection hv with h1 h2 h3
    omega
  · injection hv with h1 h2 h3
    subst h1
    have hsh : W.shape? g = some (5, cur.size) := by unfold World.shape?; rw [hb]
    have hrun : (execOp a.eval o).run Try.prog W = .ok (.value (.slice (some ⟨g, 0, none⟩) xs.length c)) (W.freeze ⟨g, cur.size, none⟩ 1) := by
      unfold execOp
      simp only [ho, hx]
      simp [convert, run_underlying hu, run_underlying underlying5, go_sem, markStringish, hsh]
    refine Kd.event_run hgd hrun (h _ ⟨hC.1, hC.2.1, fun hn => ?_⟩ hc (Lib.below_freeze HB hg 1))
    obtain ⟨ad, e, hcell⟩ := hC.2.2 hn
    refine ⟨ad, e, fun j p hj => ?_⟩
    obtain ⟨cs, hs, hr, hi⟩ := hcell j p hj
    exact ⟨cs, hs, hr, fun i u hu => (cell_freeze _ _ _ _).trans (hi i u hu)⟩
end Go.Proofs.Ythfildmldppihaa.Gv
