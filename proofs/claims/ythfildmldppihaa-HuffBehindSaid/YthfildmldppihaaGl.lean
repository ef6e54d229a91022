/- A new coder. -/
import Derived.Test.YthfildmldppihaaGk
namespace Go.Proofs.Ythfildmldppihaa.Gl
open Go.RowKit Go.Proofs.Ythfildmldppihaa.Ga Go.Proofs.Ythfildmldppihaa.Gb Go.Proofs.Ythfildmldppihaa.Gg Go.Proofs.Ythfildmldppihaa.Gh Go.Proofs.Ythfildmldppihaa.Gi Go.Proofs.Ythfildmldppihaa.Gj Go.Proofs.Ythfildmldppihaa.Gk Go.Proofs.YthfildmldppihaaW.PrintWords Go.Proofs.YthfildmldppihaaW.PrintLast Go.Proofs.YthfildmldppihaaW.PrintMore
def is32 : Option Value → Bool
  | some (.int .u32 0) => true
  | _ => false
def is64 : Option Value → Bool
  | some (.int .i64 0) => true
  | _ => false
theorem is32_eq {v : Option Value} (h : is32 v = true) : v = some (.int .u32 0) := by
  unfold is32 at h; split at h
  · rfl
  · cases h
theorem is64_eq {v : Option Value} (h : is64 v = true) : v = some (.int .i64 0) := by
  unfold is64 at h; split at h
  · rfl
  · cases h
theorem z0 : Try.zeroCells84[0]? = some (.int .u32 0) := by kernel_rfl
theorem z1 : Try.zeroCells84[1]? = some (.int .i32 0) := by kernel_rfl
theorem z3 : Try.zeroCells84[3]? = some (.int .i64 0) := by kernel_rfl
theorem zc : ∀ k, k < 257 → is32 Try.zeroCells84[4 + k]? = true := by decide +kernel
theorem zo : ∀ k, k < 257 → is64 Try.zeroCells84[261 + k]? = true := by decide +kernel
theorem zf : ∀ k, k < 31 → is32 Try.zeroCells84[518 + k]? = true := by decide +kernel
theorem zn : ∀ k, k < 31 → is64 Try.zeroCells84[549 + k]? = true := by decide +kernel
theorem zb : ∀ k, k < 31 → is64 Try.zeroCells84[580 + k]? = true := by decide +kernel
set_option maxRecDepth 100000 in
set_option maxHeartbeats 2000000 in
theorem new_calls (w : World) : Calls Try.prog 28 #[] w fun e w' => e = .returned (.pointer (some ⟨w.heap.size, 0, none⟩)) ∧ w' = w.alloc (.cells Try.zeroCells84 84) := by
  go_enter Try.func28, Try.ntmps28
  go_wp2
  go_ret
  exact ⟨rfl, rfl⟩
theorem new_is (w : World) : New w.heap.size (w.alloc (.cells Try.zeroCells84 84)) := by
  have hb : (w.alloc (.cells Try.zeroCells84 84)).heap[w.heap.size]? = some (.cells Try.zeroCells84 84 (0, 0)) := heap_alloc_new w _
  exact ⟨by simp, (blk_cell hb 0).trans z0, (blk_cell hb 1).trans z1, ⟨fun k hk => blk_frozen hb k, (blk_cell hb 3).trans z3, fun k hk => (blk_cell hb _).trans (is32_eq (zc k hk)), fun k hk => (blk_cell hb _).trans (is64_eq (zo k hk)),
    fun k hk => (blk_cell hb _).trans (is32_eq (zf k hk)), fun k hk => (blk_cell hb _).trans (is64_eq (zn k hk)), fun k hk => (blk_cell hb _).trans (is64_eq (zb k hk))⟩⟩
end Go.Proofs.Ythfildmldppihaa.Gl
