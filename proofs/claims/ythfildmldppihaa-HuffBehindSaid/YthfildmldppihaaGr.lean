/- huff.Encode, as the driver wants it. -/
import Derived.Test.YthfildmldppihaaGp
namespace Go.Proofs.Ythfildmldppihaa.Gv
open Go.RowKit Go.Proofs.Ythfildmldppihaa.Gk Go.Proofs.Ythfildmldppihaa.Gl Go.Proofs.Ythfildmldppihaa.Gp Go.Proofs.YthfildmldppihaaW.PrintWords Go.Proofs.YthfildmldppihaaW.PrintLast Go.Proofs.YthfildmldppihaaW.PrintMore
def huff_Encode.f (l0 : List Int) : Option (List Int) := if l0.length ≤ 100000 ∧ ∀ i : Nat, i < l0.length → 0 ≤ rd l0 i ∧ rd l0 i < 256 then some (encL l0 0 0 []) else none
set_option maxRecDepth 100000 in
set_option maxHeartbeats 2000000 in
theorem huff_Encode.calls (A0 : Option Addr) (c0 : Nat) (l0 : List Int) (r : List Int) (w : World) (hr0 : Kd.C (Kd.int .u8) w A0 l0.length l0) (_hc0 : l0.length ≤ c0) (h : huff_Encode.f l0 = some r) :
    Calls Try.prog 23 #[.slice A0 l0.length c0] w fun e w' => ∃ v0_ : Value, e = .returned v0_ ∧ Kd.R (Kd.int .u8) 5 w' w.heap.size (fun _ => True) v0_ r ∧ Below w.heap.size w w' := by
  unfold huff_Encode.f at h
  split at h
  · rename_i hh
    obtain ⟨h1, h2⟩ := hh
    obtain rfl := Option.some.inj h
    have HE := Aside0.mk (encode_calls w.heap.size w (w.alloc (.cells Try.zeroCells84 84)) (Nat.le_refl _) ((Below.refl _ w).alloc (Nat.le_refl _) _) (get_first _ _ (new_is w)) A0 c0 l0 hr0 h1 h2)
    clear hr0 h h2
    go_enter Try.func23, Try.ntmps23
    go_wp2_with (first | (go_at_call 28; refine (new_calls _).mono ?_; rintro e w1 ⟨rfl, rfl⟩) | (go_at_call 32; refine HE.out.mono ?_; rintro e w2 ⟨⟨v, rfl, ho⟩, hb, hm⟩; have HO := Aside0.mk ho; have HB := Aside0.mk hb; clear ho hb hm))
    go_ret
    exact ⟨_, rfl, Kd.R_mono HO.out (fun _ _ => trivial), HB.out⟩
  · cases h
def huff_long.f (a0 : Int) : Option Int := if 0 ≤ a0 ∧ a0 < 257 then some ((Ga.L a0.toNat : Nat) : Int) else none
theorem huff_long.calls (a0 : Int) (r : Int) (w : World) (h : huff_long.f a0 = some r) : Calls Try.prog 43 #[.int .i64 a0] w fun e w' => e = .returned (.int .i64 r) ∧ Drawn0 w w' := by
  unfold huff_long.f at h
  split at h
  · rename_i hh
    obtain rfl := Option.some.inj h
    have q := Ga.long_calls a0.toNat (by omega) w
    rw [show ((a0.toNat : Nat) : Int) = a0 by omega] at q
    exact q.mono fun e w' hw => ⟨hw.1, by rw [hw.2]; exact Drawn0.refl _⟩
  · cases h
end Go.Proofs.Ythfildmldppihaa.Gv
