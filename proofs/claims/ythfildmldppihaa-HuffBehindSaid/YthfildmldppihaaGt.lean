/- huff.Decode, as the driver wants it. -/
import Derived.Test.YthfildmldppihaaGs
namespace Go.Proofs.Ythfildmldppihaa.Gv
open Go.RowKit Go.Proofs.Ythfildmldppihaa.Gk Go.Proofs.Ythfildmldppihaa.Gl Go.Proofs.Ythfildmldppihaa.Gp Go.Proofs.Ythfildmldppihaa.Gs Go.Proofs.YthfildmldppihaaW.PrintWords Go.Proofs.YthfildmldppihaaW.PrintLast Go.Proofs.YthfildmldppihaaW.PrintMore
def huff_Decode.f (l0 : List Int) : Option (List Int × Int) := if l0.length ≤ 100000 ∧ ∀ i : Nat, i < l0.length → 0 ≤ rd l0 i ∧ rd l0 i < 256 then dec l0 else none
set_option maxRecDepth 100000 in
set_option maxHeartbeats 2000000 in
theorem huff_Decode.calls (A0 : Option Addr) (c0 : Nat) (l0 : List Int) (r1 : List Int) (r2 : Int) (w : World) (hr0 : Kd.C (Kd.int .u8) w A0 l0.length l0) (_hc0 : l0.length ≤ c0) (h : huff_Decode.f l0 = some (r1, r2)) :
    Calls Try.prog 20 #[.slice A0 l0.length c0] w fun e w' => ∃ v0_ : Value, e = .returned (.tuple #[v0_, .int .i64 r2]) ∧ Kd.R (Kd.int .u8) 5 w' w.heap.size (fun _ => True) v0_ r1 ∧ Below w.heap.size w w' := by
  unfold huff_Decode.f at h
  split at h
  · rename_i hh
    obtain ⟨h1, h2⟩ := hh
    have HE := Aside0.mk (decode_calls w.heap.size w (w.alloc (.cells Try.zeroCells84 84)) (Nat.le_refl _) ((Below.refl _ w).alloc (Nat.le_refl _) _) (get_first _ _ (new_is w)) A0 c0 l0 hr0 h1 h2 r1 r2 h)
    clear hr0 h h2
    go_enter Try.func20, Try.ntmps20
    go_wp2_with (first | (go_at_call 28; refine (new_calls _).mono ?_; rintro e w1 ⟨rfl, rfl⟩) | (go_at_call 31; refine HE.out.mono ?_; rintro e w2 ⟨⟨v, rfl, ho⟩, hb, hm⟩; have HO := Aside0.mk ho; have HB := Aside0.mk hb; clear ho hb hm))
    go_ret2
    exact ⟨_, rfl, Kd.R_mono HO.out (fun _ _ => trivial), HB.out⟩
  · cases h
end Go.Proofs.Ythfildmldppihaa.Gv
