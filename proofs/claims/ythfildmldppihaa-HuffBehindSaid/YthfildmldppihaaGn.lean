/- The document's lengths. -/
import Derived.Test.YthfildmldppihaaGm
import Derived.Deep.MidRow
namespace Go.Proofs.Ythfildmldppihaa.Gn
open Go.RowKit Go.Proofs.Ythfildmldppihaa.Ga Go.Proofs.YthfildmldppihaaW.PrintWords Go.Proofs.YthfildmldppihaaW.PrintLast Go.Proofs.YthfildmldppihaaW.PrintMore
/-- The lengths as a row of values. -/
def lensV : List Value := Ga.lens.map (fun n : Nat => Value.int .i64 (n : Int))
theorem wp_build {P : Program} {op : Oper} {a : Act} {w : World} {K : Act → World → Prop} {Q : Exit → Act → World → Prop} (t : TypeId) (parts : Array (Nat × Operand)) (ho : op.op = .build t parts) (v : Value)
    (h : (Instr.build t (parts.map fun (i, x) => (i, a.eval x))).run P w = .ok v w) (hk : K (a.put op.dst v) w) : op.wp P a w K Q := by
  unfold Oper.wp execOp
  simp only [ho, Sem.run_bind, h, Result.andThen_ok, Sem.run_pure]
  exact hk
theorem wp_alloc80 {op : Oper} {a : Act} {w : World} {K : Act → World → Prop} {Q : Exit → Act → World → Prop} (ho : op.op = .alloc 80)
    (hk : K (a.put op.dst (.pointer (some ⟨w.heap.size, 0, none⟩))) (w.alloc (.cells Try.zeroCells80 80))) : op.wp Try.prog a w K Q := by
  unfold Oper.wp execOp
  simp only [ho]
  go_simp
  exact hk
theorem lensV_at (x : Nat) (hx : x < 257) : lensV[x]? = some (.int .i64 (L x : Nat)) := by
  unfold lensV
  rw [List.getElem?_map, List.getElem?_eq_getElem (by rw [lens_length]; exact hx)]
  unfold L
  rw [List.getD_eq_getElem?_getD, List.getElem?_eq_getElem (by rw [lens_length]; exact hx)]
  rfl
theorem lensV_len : lensV.length = 257 := by unfold lensV; rw [List.length_map, lens_length]
theorem zsize : Try.zeroCells80.size = 257 := by kernel_rfl
theorem below_sets {B b : Nat} {a : World} (hb : B ≤ b) : ∀ (vs : List Value) (o : Nat) (w : World), Below B a w → Below B a (w.setCells b o vs)
  | [], _, _, h => h
  | v :: r, o, _, h => below_sets hb r (o + 1) _ (h.setCell (p := ⟨b, o, none⟩) hb v)
theorem fill_eq (W : World) : (Instr.build 80 (Ga.lens.zipIdx.map (fun (n, i) => (i, Value.int .i64 (n : Int)))).toArray).run Try.prog W = .ok (.agg lensV.toArray) W := by
  have hz : (zeroValue 80).run Try.prog W = .ok (.agg Try.zeroCells80) W := by go_simp
  have hs : (Go.sizeOf 3).run Try.prog W = .ok 1 W := by go_simp
  have hu : (underlying 80).run Try.prog W = .ok (.array 257 3) W := run_underlying Try.underlying80 W
  have hf : Instr.fill (fun i => some (i * 1, 1)) Try.zeroCells80 (Ga.lens.zipIdx.map (fun (n, i) => (i, Value.int .i64 (n : Int)))).toArray.toList = some lensV.toArray := by kernel_rfl
  unfold Instr.build
  simp only [Sem.run_bind, hz, Result.andThen_ok, hu, hs, Value.cells, hf, Sem.run_pure]
set_option maxRecDepth 100000 in
set_option maxHeartbeats 4000000 in
theorem length_calls (x : Nat) (hx : x < 257) (w : World) : Calls Try.prog 41 #[.int .i64 x] w fun e w' => e = .returned (.int .i64 (L x)) ∧ Below w.heap.size w w' := by
  have hu80 := Try.underlying80
  go_enter Try.func41, Try.ntmps41
  generalize hp : ((List.toArray _ : Array (Nat × Operand))) = parts
  have hbd : ∀ (a : Act) W, (Instr.build 80 (parts.map fun (i, x) => (i, a.eval x))).run Try.prog W = .ok (.agg lensV.toArray) W := fun a W => by
    have hm : (parts.map fun (i, x) => (i, a.eval x)) = (Ga.lens.zipIdx.map (fun (n, i) => (i, Value.int .i64 (n : Int)))).toArray := by rw [← hp]; kernel_rfl
    rw [hm]
    exact fill_eq W
  have HBD := Aside0.mk hbd
  clear hp hbd
  go_upto_region 1 with fail
  refine wp_region_lit ?_
  refine wpList_plain rfl fun _ hK => wp_build 80 parts rfl _ (HBD.out _ _) (hK _ _ ?_)
  clear hK HBD
  refine wpList_plain rfl fun _ hK => wp_alloc80 rfl (hK _ _ ?_)
  clear hK
  have hb : (w.alloc (.cells Try.zeroCells80 80)).heap[w.heap.size]? = some (.cells Try.zeroCells80 80 (0, 0)) := heap_alloc_new w _
  have hth : (w.alloc (.cells Try.zeroCells80 80)).there w.heap.size 0 257 := fun j hj => ⟨by rw [Nat.zero_add, blk_cell hb j, Array.getElem?_eq_getElem (by rw [zsize]; exact hj)]; rfl, blk_frozen hb _⟩
  refine wpList_store_mid rfl 80 (.tmp 3) (.tmp 4) rfl w.heap.size 0 lensV.toArray rfl rfl (by rw [show lensV.toArray.size = 257 by rw [List.size_toArray, lensV_len]]; exact hth) (by rw [List.size_toArray, lensV_len]; kernel_rfl) (by kernel_rfl) ?_
  have hrg := World.rangeAt_setCells_same (w.alloc (.cells Try.zeroCells80 80)) w.heap.size 0 lensV (by rw [lensV_len]; exact hth)
  have hcell := hrg x _ (lensV_at x hx)
  rw [Nat.zero_add] at hcell
  have hbel : Aside0 (Below w.heap.size w ((w.alloc (.cells Try.zeroCells80 80)).setCells w.heap.size 0 lensV)) := ⟨below_sets (Nat.le_refl _) _ _ _ ((Below.refl _ w).alloc (Nat.le_refl _) _)⟩
  clear hrg hth hb
  simp only [Act.put, List.setIfInBounds_toArray, List.set_cons_zero, List.set_cons_succ]
  obtain ⟨w2, hw2⟩ : ∃ w2, w2 = (w.alloc (.cells Try.zeroCells80 80)).setCells w.heap.size 0 lensV := ⟨_, rfl⟩
  rw [← hw2] at hcell hbel ⊢
  clear hw2
  obtain ⟨lx, hlx⟩ : ∃ lx, lx = L x := ⟨_, rfl⟩
  rw [← hlx] at hcell
  have HLX := Aside0.mk hlx
  clear hlx
  have hxz : (x : Int) < 257 := by omega
  go_wp2
  go_ret
  exact ⟨by rw [← HLX.out]; rfl, hbel.out⟩
end Go.Proofs.Ythfildmldppihaa.Gn
