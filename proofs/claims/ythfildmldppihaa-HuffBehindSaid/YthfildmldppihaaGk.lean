/- The coder's codes, got: made the first time, and not again. -/
import Derived.Test.YthfildmldppihaaGj
namespace Go.Proofs.Ythfildmldppihaa.Gk
open Go.RowKit Go.Proofs.Ythfildmldppihaa.Ga Go.Proofs.Ythfildmldppihaa.Gb Go.Proofs.Ythfildmldppihaa.Gg Go.Proofs.Ythfildmldppihaa.Gh Go.Proofs.Ythfildmldppihaa.Gi Go.Proofs.Ythfildmldppihaa.Gj Go.Proofs.YthfildmldppihaaW.PrintWords Go.Proofs.YthfildmldppihaaW.PrintLast Go.Proofs.YthfildmldppihaaW.PrintMore

/-- A coder with no codes yet. -/
structure New (b : Nat) (W : World) : Prop where
  lt : b < W.heap.size
  c0 : W.cell? ⟨b, 0, none⟩ = some (.int .u32 0)
  c1 : W.cell? ⟨b, 1, none⟩ = some (.int .i32 0)
  fr : Fresh b W
/-- A coder with its codes. -/
structure Md (b : Nat) (W : World) : Prop where
  lt : b < W.heap.size
  c0 : W.cell? ⟨b, 0, none⟩ = some (.int .u32 1)
  tb : Tb' b 257 1 W
/-- No old block but b has turned. -/
structure Else (b : Nat) (w W : World) : Prop where
  os : W.os = w.os
  tape : W.tape = w.tape
  output : W.output = w.output
  size : w.heap.size ≤ W.heap.size
  block : ∀ k, k < w.heap.size → k ≠ b → W.heap[k]? = w.heap[k]?

theorem fresh_keep {b : Nat} {W W' : World} (h : Fresh b W) (hb : W'.heap[b]? = W.heap[b]?) : Fresh b W' :=
  ⟨fun k hk => (World.frozen?_of_block hb).trans (h.f k hk), (World.cell?_of_block hb).trans h.made, fun k hk => (World.cell?_of_block hb).trans (h.code k hk), fun k hk => (World.cell?_of_block hb).trans (h.order k hk),
   fun k hk => (World.cell?_of_block hb).trans (h.fst k hk), fun k hk => (World.cell?_of_block hb).trans (h.cnt k hk), fun k hk => (World.cell?_of_block hb).trans (h.beg k hk)⟩
theorem tb_keep {b i m : Nat} {W W' : World} (h : Tb' b i m W) (hc : ∀ q, 3 ≤ q → W'.cell? ⟨b, q, none⟩ = W.cell? ⟨b, q, none⟩) (hf : ∀ q, W'.frozen? ⟨b, q, none⟩ = W.frozen? ⟨b, q, none⟩) : Tb' b i m W' :=
  ⟨fun k hk => (hf k).trans (h.f k hk), (hc 3 (by decide)).trans h.made, fun k hk => (hc _ (by omega)).trans (h.code k hk), fun x hx => by rw [hc _ (by omega)]; exact h.code' x hx, fun k hk => (hc _ (by omega)).trans (h.order k hk),
   fun k hk => (hc _ (by omega)).trans (h.fst k hk), fun k hk => (hc _ (by omega)).trans (h.cnt k hk), fun k hk => (hc _ (by omega)).trans (h.beg k hk)⟩
theorem Md.keep {b : Nat} {W W' : World} (h : Md b W) (hb : Below W.heap.size W W') : Md b W' :=
  ⟨Nat.lt_of_lt_of_le h.lt hb.size, (World.cell?_of_block (hb.block b h.lt)).trans h.c0, tb_keep h.tb (fun _ _ => World.cell?_of_block (hb.block b h.lt)) (fun _ => World.frozen?_of_block (hb.block b h.lt))⟩

set_option maxRecDepth 100000 in
set_option maxHeartbeats 2000000 in
theorem get_again (b : Nat) (w : World) (H : Md b w) : Calls Try.prog 45 #[.pointer (some ⟨b, 0, none⟩)] w fun e w' => e = .returned (.pointer (some ⟨b, 0, none⟩)) ∧ Below w.heap.size w w' := by
  have hmf : ∀ (fn : Fn) (first cap : Array Value) (w : World), (Instr.makeFunc fn first cap).run Try.prog w = .ok (.func fn first cap) w := fun _ _ _ _ => rfl
  have hlt := H.lt
  have a0 : (w.alloc (.cells #[.pointer (some ⟨b, 0, none⟩)] 47)).cell? ⟨b, 0, none⟩ = some (.int .u32 1) := by rw [World.cell?_alloc_past _ _ _ hlt]; exact H.c0
  have hu84 := Try.underlying84
  clear H
  go_enter Try.func45, Try.ntmps45
  go_wp2_with (go_at_call 52; refine (do_done b _ _ a0).mono ?_; rintro e w' ⟨rfl, rfl⟩)
  go_ret
  exact ⟨rfl, (Below.refl _ w).alloc (Nat.le_refl _) _⟩

set_option maxRecDepth 100000 in
set_option maxHeartbeats 2000000 in
theorem get_first (b : Nat) (w : World) (H : New b w) : Calls Try.prog 45 #[.pointer (some ⟨b, 0, none⟩)] w fun e w' => e = .returned (.pointer (some ⟨b, 0, none⟩)) ∧ Md b w' ∧ Else b w w' := by
  have hmf : ∀ (fn : Fn) (first cap : Array Value) (w : World), (Instr.makeFunc fn first cap).run Try.prog w = .ok (.func fn first cap) w := fun _ _ _ _ => rfl
  have hlt := H.lt
  have hu84 := Try.underlying84
  obtain ⟨wa, hwa⟩ : ∃ wa, wa = w.alloc (.cells #[.pointer (some ⟨b, 0, none⟩)] 47) := ⟨_, rfl⟩
  have hba : wa.heap[b]? = w.heap[b]? := by rw [hwa]; exact Below.heap_alloc _ _ _ hlt
  have hpa : wa.cell? ⟨w.heap.size, 0, none⟩ = some (.pointer (some ⟨b, 0, none⟩)) := by rw [hwa]; simp
  have hza : wa.heap.size = w.heap.size + 1 := by rw [hwa]; simp
  have a0 : wa.cell? ⟨b, 0, none⟩ = some (.int .u32 0) := (World.cell?_of_block hba).trans H.c0
  have a1 : wa.cell? ⟨b, 1, none⟩ = some (.int .i32 0) := (World.cell?_of_block hba).trans H.c1
  have F := fresh_keep H.fr hba
  have hb1 : Below w.heap.size w wa := by rw [hwa]; exact (Below.refl _ w).alloc (Nat.le_refl _) _
  obtain ⟨w1, hw1⟩ : ∃ w1, w1 = wa.setCell ⟨b, 1, none⟩ (.int .i32 1) := ⟨_, rfl⟩
  have hc1 : ∀ q, q ≠ 1 → w1.cell? ⟨b, q, none⟩ = wa.cell? ⟨b, q, none⟩ := fun q hq => by rw [hw1]; exact World.cell?_setCell_other _ _ _ _ (by intro e; simp only [Addr.mk.injEq] at e; omega)
  have F1 : Fresh b w1 := ⟨fun k hk => by rw [hw1, World.frozen?_setCell]; exact F.f k hk, (hc1 3 (by decide)).trans F.made, fun k hk => (hc1 _ (by omega)).trans (F.code k hk), fun k hk => (hc1 _ (by omega)).trans (F.order k hk),
    fun k hk => (hc1 _ (by omega)).trans (F.fst k hk), fun k hk => (hc1 _ (by omega)).trans (F.cnt k hk), fun k hk => (hc1 _ (by omega)).trans (F.beg k hk)⟩
  have hp1 : w1.cell? ⟨w.heap.size, 0, none⟩ = some (.pointer (some ⟨b, 0, none⟩)) := by rw [hw1]; exact (World.cell?_setCell_other _ _ _ _ (by intro e; simp only [Addr.mk.injEq] at e; omega)).trans hpa
  have hM := make_calls b w.heap.size (by omega) w1 F1 hp1
  rw [hw1] at hM
  have HD := Aside0.mk (do_first b ⟨w.heap.size, 0, none⟩ wa (Done b (wa.setCell ⟨b, 1, none⟩ (.int .i32 1))) a0 a1 (F.f 1 (by decide)) hM (fun w' hD => by
    have c0 : (wa.setCell ⟨b, 1, none⟩ (.int .i32 1)).cell? ⟨b, 0, none⟩ = some (.int .u32 0) := (World.cell?_setCell_other _ _ _ _ (by intro e; simp only [Addr.mk.injEq] at e; omega)).trans a0
    exact ⟨(hD.ch.cell 0 (by omega)).trans c0, hD.tb.f 0 (by decide), (hD.ch.cell 1 (by omega)).trans (World.cell?_setCell_same _ _ _ a1), hD.tb.f 1 (by decide)⟩))
  clear hM F F1 a0 a1
  rw [← hw1] at HD
  have HH : Aside0 (∀ w2, Done b w1 w2 → ∀ w3, w3 = (w2.drew.setCell ⟨b, 0, none⟩ (.int .u32 1)).setCell ⟨b, 1, none⟩ (.int .i32 0) → w3.cell? ⟨w.heap.size, 0, none⟩ = some (.pointer (some ⟨b, 0, none⟩)) ∧ Md b w3 ∧ Else b w w3) := ⟨fun w2 hD w3 h3 => by
    have hsz : w3.heap.size = w.heap.size + 1 := by rw [h3]; simp; rw [hD.ch.size, hw1]; simp [hza]
    have hoth : ∀ k, k ≠ b → w3.heap[k]? = wa.heap[k]? := fun k hk => by
      rw [h3, Below.heap_setCell _ _ _ _ hk, Below.heap_setCell _ _ _ _ hk]
      exact (hD.ch.other k hk).trans (by rw [hw1]; exact Below.heap_setCell _ _ _ _ hk)
    have e0 : w2.cell? ⟨b, 0, none⟩ = wa.cell? ⟨b, 0, none⟩ := (hD.ch.cell 0 (by omega)).trans (hc1 0 (by decide))
    obtain ⟨v0, hv0⟩ : ∃ v, w2.cell? ⟨b, 0, none⟩ = some v := ⟨_, e0.trans ((World.cell?_of_block hba).trans H.c0)⟩
    refine ⟨(World.cell?_of_block (hoth w.heap.size (by omega))).trans hpa, ⟨by rw [hsz]; omega, ?_, ?_⟩, ⟨?_, ?_, ?_, by rw [hsz]; omega, fun k hk hkb => (hoth k hkb).trans (hb1.block k hk)⟩⟩
    · rw [h3, World.cell?_setCell_other _ _ _ _ (by intro e; simp only [Addr.mk.injEq] at e; omega)]
      exact World.cell?_setCell_same _ _ _ (show w2.drew.cell? _ = _ from hv0)
    · refine tb_keep hD.tb (fun q hq => ?_) (fun q => ?_)
      · rw [h3, World.cell?_setCell_other _ _ _ _ (by intro e; simp only [Addr.mk.injEq] at e; omega), World.cell?_setCell_other _ _ _ _ (by intro e; simp only [Addr.mk.injEq] at e; omega)]; rfl
      · rw [h3, World.frozen?_setCell, World.frozen?_setCell]; rfl
    · rw [h3]; exact (hD.ch.os.trans (by rw [hw1]; exact hb1.os))
    · rw [h3]; exact (hD.ch.tape.trans (by rw [hw1]; exact hb1.tape))
    · rw [h3]; exact (hD.ch.output.trans (by rw [hw1]; exact hb1.output))⟩
  clear hc1 hp1 hpa hba hb1 hza H hw1
  rw [hwa] at HD
  clear hwa
  go_enter Try.func45, Try.ntmps45
  go_wp2_with (go_at_call 52; refine HD.out.mono ?_; rintro e w3 ⟨rfl, w2, hD, hw3⟩; obtain ⟨hp3, hmd, hel⟩ := HH.out w2 hD w3 hw3; have HM := Aside0.mk hmd; have HE := Aside0.mk hel; clear hw3 hD hmd hel)
  go_ret
  exact ⟨rfl, HM.out, HE.out⟩
end Go.Proofs.Ythfildmldppihaa.Gk
