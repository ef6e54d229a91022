/- A constant string's bytes: the mark that the run time lays behind such a row. -/
import Derived.Test.YthfildmldppihaaGu
import Derived.Lib.UnsafeStr
namespace Go.Proofs.Ythfildmldppihaa.Gv
open Go.RowKit Go.Proofs.YthfildmldppihaaW.PrintWords Go.Proofs.YthfildmldppihaaW.PrintLast Go.Proofs.YthfildmldppihaaW.PrintMore
theorem cell_freeze (w : World) (p : Addr) (n : Nat) (a : Addr) : (w.freeze p n).cell? a = w.cell? a := by
  unfold World.freeze
  split
  · rfl
  · unfold World.cell?
    simp only [Array.getElem?_modify]
    by_cases h : p.block = a.block
    · rw [if_pos h, ← h]
      cases hh : w.heap[p.block]? with
      | none => rfl
      | some o => cases o <;> rfl
    · rw [if_neg h]
theorem size_freeze (w : World) (p : Addr) (n : Nat) : (w.freeze p n).heap.size = w.heap.size := by
  unfold World.freeze
  split
  · rfl
  · simp
theorem underlying5 : Try.prog.underlying 5 = some (.int .u8) := by kernel_rfl
theorem mark_step {ops : Array Oper} {rest : List Oper} {o : Oper} {a : Act} {w0 W : World} {Q : Exit → Act → World → Prop} (base : Nat) (hgd : o.guard = none) (x : Operand) (ho : o.op = .convert 22 22 x)
    (A : Option Addr) (c : Nat) (xs : List Int) (hne : 0 < xs.length) (hx : a.eval x = .slice A xs.length c) (HO : Kd.R (Kd.int .u8) 5 W base (fun _ => True) (.slice A xs.length c) xs) (HB : Below base w0 W)
    (h : ∀ W1, Kd.C (Kd.int .u8) W1 A xs.length xs → xs.length ≤ c → Below base w0 W1 → wpList Try.prog ops Q rest (a.put o.dst (.slice A xs.length c)) W1) : wpList Try.prog ops Q (o :: rest) a W := by
  have hu := Try.underlying22
  have hC := (Kd.R_reads' HO).2.2
  have hc := (Kd.R_reads' HO).2.1
  obtain ⟨inner, hown⟩ := Kd.R_own HO
  rcases hown.2 with ⟨hv, _⟩ | ⟨g, cap, cur, hv, hg, hb, _⟩
  · injection hv with h1 h2 h3
    omega
  · injection hv with h1 h2 h3
    subst h1
    have hsh : W.shape? g = some (5, cur.size) := by unfold World.shape?; rw [hb]
    have hrun : (execOp a.eval o).run Try.prog W = .ok (.value (.slice (some ⟨g, 0, none⟩) xs.length c)) (W.freeze ⟨g, cur.size, none⟩ 1) := by
      unfold execOp
      simp only [ho, hx]
      simp [convert, run_underlying hu, run_underlying underlying5, go_sem, markStringish, hsh]
    refine Kd.event_run hgd hrun (h _ ⟨hC.1, hC.2.1, fun hn => ?_⟩ hc (Lib.below_freeze HB hg 1))
    obtain ⟨ad, e, hcell⟩ := hC.2.2 hn
    refine ⟨ad, e, fun j p hj => ?_⟩
    obtain ⟨cs, hs, hr, hi⟩ := hcell j p hj
    exact ⟨cs, hs, hr, fun i u hu => (cell_freeze _ _ _ _).trans (hi i u hu)⟩
end Go.Proofs.Ythfildmldppihaa.Gv
