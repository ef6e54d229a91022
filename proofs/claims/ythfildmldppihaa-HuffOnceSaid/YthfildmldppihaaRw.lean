/- How rows of rows of bytes, and rows of truths, that came in read as lists. -/
import Derived.Test.YthfildmldppihaaPc
import Derived.ProofKit
import Derived.OpenShut
import Derived.SizedLaws
import Derived.Deep.Slices
import Derived.Deep.Grids
namespace Go.Proofs.Ythfildmldppihaa.Rw
open Go.ChangeShapes Go.WideShapes Go.ChangeAt Go.RowKit Go.Deep Go.Proofs.Ythfildmldppihaa.Pt Go.Proofs.Ythfildmldppihaa.Pure Go.Proofs.YthfildmldppihaaW.PrintWords Go.Proofs.YthfildmldppihaaW.PrintLast Go.Proofs.YthfildmldppihaaW.PrintMore
/-- The i-th row. -/
def at' (xs : List (List Int)) (i : Nat) : List Int := xs.getD i []
/-- Rows of bytes lie behind a row of slices. -/
def RowsAt (W : World) (A : Option Addr) (xs : List (List Int)) : Prop :=
  ∀ i, i < xs.length → ∃ ad Ai ci, A = some ad ∧ W.cell? (ad.add i) = some (.slice Ai (at' xs i).length ci) ∧ (at' xs i).length ≤ ci ∧ Kd.C (Kd.int .u8) W Ai (at' xs i).length (at' xs i) ∧ Byt (at' xs i)
theorem RowsAt.keep {W W' : World} {A : Option Addr} {xs : List (List Int)} (h : RowsAt W A xs) (hb : Below W.heap.size W W') : RowsAt W' A xs := fun i hi => by
  obtain ⟨ad, Ai, ci, e, hc, hl, hC, hB⟩ := h i hi
  exact ⟨ad, Ai, ci, e, (hb.cell (World.block_lt_of_cell? W _ hc)).trans hc, hl, Kd.C_below hC hb, hB⟩
def BoolsAt (W : World) (A : Option Addr) (n : Nat) (B : Nat → Bool) : Prop := ∀ i, i < n → ∃ ad, A = some ad ∧ W.cell? (ad.add i) = some (.bool (B i))
theorem BoolsAt.keep {W W' : World} {A : Option Addr} {n : Nat} {B : Nat → Bool} (h : BoolsAt W A n B) (hb : Below W.heap.size W W') : BoolsAt W' A n B := fun i hi => by
  obtain ⟨ad, e, hc⟩ := h i hi
  exact ⟨ad, e, (hb.cell (World.block_lt_of_cell? W _ hc)).trans hc⟩
variable {H : Type} {enc : TypeId × Value → H} {W : World} {base : Nat} {held : Bool}
theorem one_row {x : Addr} {i n : Nat} {v : Value} {y : DataW H × List MemPlace} (hc : W.cell? (x.add i) = some v) (h : DataW.trod enc Try.prog W base (fun _ => true) held n 22 [v] = some y) :
    ∃ (r : List Int) (Ai : Option Addr) (ci : Nat), W.cell? (x.add i) = some (.slice Ai r.length ci) ∧ r.length ≤ ci ∧ Kd.C (Kd.int .u8) W Ai r.length r ∧ Byt r := by
  rcases open_ints Try.underlying22 Try.underlying5 (by kernel_rfl) h with ⟨hcs, _⟩ | ⟨a, l, c, zs, hcs, _, hl, hm, hz, _, hcell, hwz⟩
  · simp only [List.cons.injEq, and_true] at hcs
    subst hcs
    exact ⟨[], none, 0, hc, Nat.le_refl _, ⟨rfl, by decide, fun h => absurd h (by decide)⟩, fun z hz => by cases hz⟩
  · simp only [List.cons.injEq, and_true] at hcs
    subst hcs
    obtain ⟨l0, e0, hr0, hm0, hw0, hc0⟩ := ReadsInt.ofRowC (w := W) (a := some a) (len := l) (cap := c) (zs := zs) (k := .u8) (.inr ⟨a, rfl, hl, hm, by simpa using hz, hcell, hwz⟩)
    subst e0
    exact ⟨l0, some a, c, hc, hc0, Kd.C_of_reads (d := (0 : Int)) (h1 := fun _ => rfl) hr0, byt_wf hw0⟩
/-- A row of rows of bytes that came in. -/
theorem row46 {a : Option Addr} {len cap : Nat} {d : DataW H} {ps : List MemPlace} (h : DataW.Trod enc Try.prog W base (fun _ => true) held 46 (.slice a len cap) d ps) :
    ∃ xs : List (List Int), xs.length = len ∧ RowsAt W a xs := by
  obtain ⟨fuel, hf⟩ := h
  rcases open_slice1 Try.underlying46 (by kernel_rfl) hf with ⟨hcs, _⟩ | ⟨x, len', cap', m, n, V, D, Pl, hcs, _, hl, hc, hm, _, hel⟩
  · simp [Value.cells] at hcs
    obtain ⟨rfl, rfl, rfl⟩ := hcs
    exact ⟨[], rfl, fun i hi => absurd hi (by simp)⟩
  · simp [Value.cells] at hcs
    obtain ⟨rfl, rfl, rfl⟩ := hcs
    have hlm : len ≤ m := by rw [hm]; split <;> omega
    have each : ∀ i, i < len → ∃ r : List Int, ∃ (Ai : Option Addr) (ci : Nat), W.cell? (x.add i) = some (.slice Ai r.length ci) ∧ r.length ≤ ci ∧ Kd.C (Kd.int .u8) W Ai r.length r ∧ Byt r := fun i hi => by
      obtain ⟨h1, h2⟩ := hel i (by omega)
      exact one_row h1 h2
    obtain ⟨X, hX⟩ := choose_lt each
    have hlen : ((List.range len).map X).length = len := by rw [List.length_map, List.length_range]
    refine ⟨(List.range len).map X, hlen, fun i hi => ?_⟩
    rw [hlen] at hi
    have hxi : at' ((List.range len).map X) i = X i := by unfold at'; rw [List.getD_eq_getElem?_getD, List.getElem?_map, List.getElem?_range hi]; rfl
    obtain ⟨Ai, ci, h1, h2, h3, h4⟩ := hX i hi
    rw [hxi]
    exact ⟨x, Ai, ci, rfl, h1, h2, h3, h4⟩
/-- A row of truths that came in. -/
theorem row54 {a : Option Addr} {len cap : Nat} {d : DataW H} {ps : List MemPlace} (h : DataW.Trod enc Try.prog W base (fun _ => true) held 54 (.slice a len cap) d ps) :
    ∃ B : Nat → Bool, BoolsAt W a len B := by
  obtain ⟨fuel, hf⟩ := h
  rcases open_bools Try.underlying54 Try.underlying4 (by kernel_rfl) hf with ⟨hcs, _⟩ | ⟨x, len', cap', B, hcs, _, hl, hc, _, hel⟩
  · simp [Value.cells] at hcs
    obtain ⟨rfl, rfl, rfl⟩ := hcs
    exact ⟨fun _ => false, fun i hi => absurd hi (by omega)⟩
  · simp [Value.cells] at hcs
    obtain ⟨rfl, rfl, rfl⟩ := hcs
    exact ⟨B, fun i hi => ⟨x, rfl, hel i (by omega)⟩⟩
end Go.Proofs.Ythfildmldppihaa.Rw
