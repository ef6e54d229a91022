/- Coder.Code, huff.Code. -/
import Derived.Test.YthfildmldppihaaA9
namespace Go.Proofs.Ythfildmldppihaa.Nc
open Go.RowKit Go.Proofs.Ythfildmldppihaa.Ga Go.Proofs.Ythfildmldppihaa.Gi Go.Proofs.Ythfildmldppihaa.Gj Go.Proofs.Ythfildmldppihaa.Gk Go.Proofs.Ythfildmldppihaa.Gl Go.Proofs.Ythfildmldppihaa.Gp Go.Proofs.YthfildmldppihaaW.PrintWords Go.Proofs.YthfildmldppihaaW.PrintLast Go.Proofs.YthfildmldppihaaW.PrintMore
set_option maxHeartbeats 8000000 in
set_option maxRecDepth 100000 in
theorem code_calls (b : Nat) (W0 W : World) (hbase : W0.heap.size ≤ b) (hB : Below W0.heap.size W0 W) (hget : ∀ n, Calls Try.prog 45 #[.pointer (some ⟨b, 0, none⟩)] (W.drewN n) fun e w' => e = .returned (.pointer (some ⟨b, 0, none⟩)) ∧ Md b w' ∧ Else b (W.drewN n) w')
    (x : Nat) (hx : x < 257) :
    Calls Try.prog 30 #[.pointer (some ⟨b, 0, none⟩), .int .i64 x] W fun e w' => e = .returned (.tuple #[.int .u32 (C x : Nat), .int .i64 (L x : Nat), .int .i64 0]) ∧ Below W0.heap.size W0 w' ∧ Md b w' := by
  have hu84 := Try.underlying84
  have hu79 := Try.underlying79
  have HG : Aside0 (∀ n, Calls Try.prog 45 #[.pointer (some ⟨b, 0, none⟩)] (W.drewN n) fun e w' => e = .returned (.pointer (some ⟨b, 0, none⟩)) ∧ Md b w' ∧ Below W0.heap.size W0 w') := ⟨fun n => (hget n).mono fun e w' ⟨he, hm, hel⟩ => ⟨he, hm, (pw_below_drewN hB n).trans ⟨hel.os, hel.tape, hel.output, hel.size, fun k hk => hel.block k (Nat.lt_of_lt_of_le hk (pw_below_drewN hB n).size) (by omega)⟩⟩⟩
  clear hget hB
  have hx1 : decide ((x : Int) < 0) = false := decide_eq_false (by omega)
  have hx2 : decide ((x : Int) ≥ 257) = false := decide_eq_false (by omega)
  have hx3 : (x : Int) < 257 := by omega
  have hl1 : ∀ w, Calls Try.prog 43 #[.int .i64 (x : Int)] w fun e w' => e = .returned (.int .i64 (L x)) ∧ w' = w := fun w => long_calls x hx w
  have HCO : Aside0 (∀ w, Md b w → w.cell? ⟨b, 4 + x, none⟩ = some (.int .u32 (C x : Nat))) := ⟨fun w hm => by
    obtain ⟨j, hj, rfl⟩ := rank_of x hx
    exact hm.tb.code j hj⟩
  obtain ⟨lc, hlc⟩ : ∃ lc, lc = L x := ⟨_, rfl⟩
  obtain ⟨cc, hcc⟩ : ∃ cc, cc = C x := ⟨_, rfl⟩
  rw [← hlc] at hl1
  rw [← hcc] at HCO
  rw [← hlc, ← hcc]
  clear hlc hcc
  have mixed : Try.prog.follows .mixedOrders = true := by kernel_rfl
  go_enter Try.func30, Try.ntmps30
  go_wp2
  go_region_with (first | (go_at_call 45; refine (HG.out 1).mono ?_; rintro e w1 ⟨rfl, hm, hb⟩; have hcell := HCO.out _ hm; have HM := Aside0.mk hm; have HB := Aside0.mk hb; clear hm hb) | (go_at_call 43; refine (hl1 _).mono ?_; rintro e w9 ⟨rfl, rfl⟩))
  all_goals go_wp2
  all_goals go_ret3
  all_goals exact ⟨rfl, HB.out, HM.out⟩
theorem new_drewN {b : Nat} {W : World} (h : New b W) (n : Nat) : New b (W.drewN n) := by
  have hb : (W.drewN n).heap[b]? = W.heap[b]? := (pw_below_drewN (Below.refl _ _) n).block b h.lt
  exact ⟨Nat.lt_of_lt_of_le h.lt (pw_below_drewN (Below.refl 0 W) n).size, (World.cell?_of_block hb).trans h.c0, (World.cell?_of_block hb).trans h.c1, fresh_keep h.fr hb⟩
/-- The codes are made at the first call, whatever has been drawn. -/
theorem get_new {b : Nat} {W : World} (h : New b W) (n : Nat) : Calls Try.prog 45 #[.pointer (some ⟨b, 0, none⟩)] (W.drewN n) fun e w' => e = .returned (.pointer (some ⟨b, 0, none⟩)) ∧ Md b w' ∧ Else b (W.drewN n) w' := get_first b _ (new_drewN h n)
theorem else_below {b : Nat} {W W' : World} (h : Below W.heap.size W W') : Else b W W' := ⟨h.os, h.tape, h.output, h.size, fun k hk _ => h.block k hk⟩
theorem get_made {b : Nat} {W : World} (h : Md b W) (n : Nat) : Calls Try.prog 45 #[.pointer (some ⟨b, 0, none⟩)] (W.drewN n) fun e w' => e = .returned (.pointer (some ⟨b, 0, none⟩)) ∧ Md b w' ∧ Else b (W.drewN n) w' := by
  have hm := h.keep (pw_below_drewN (Below.refl _ _) n)
  exact (get_again b _ hm).mono fun e w' ⟨he, hb⟩ => ⟨he, hm.keep hb, else_below hb⟩
set_option maxHeartbeats 8000000 in
set_option maxRecDepth 100000 in
theorem code_out (b : Nat) (W : World) (x : Int) (hx : x < 0 ∨ 256 < x) :
    Calls Try.prog 30 #[.pointer (some ⟨b, 0, none⟩), .int .i64 x] W fun e w' => e = .returned (.tuple #[.int .u32 0, .int .i64 0, .int .i64 11]) ∧ w' = W := by
  by_cases h0 : x < 0
  · have hx1 : decide (x < 0) = true := decide_eq_true h0
    go_enter Try.func30, Try.ntmps30
    go_wp2
    go_ret3
    exact ⟨rfl, rfl⟩
  · have hx1 : decide (x < 0) = false := decide_eq_false h0
    have hx3 : (257 : Int) ≤ x := by omega
    have hx2 : decide (x ≥ 257) = true := decide_eq_true hx3
    go_enter Try.func30, Try.ntmps30
    go_wp2
    go_ret3
    exact ⟨rfl, rfl⟩
set_option maxHeartbeats 8000000 in
set_option maxRecDepth 100000 in
theorem pcode_in (x : Nat) (hx : x < 257) (w : World) : Calls Try.prog 24 #[.int .i64 x] w fun e w' => e = .returned (.tuple #[.int .u32 (C x : Nat), .int .i64 (L x : Nat), .int .i64 0]) ∧ Below w.heap.size w w' := by
  have HE := Aside0.mk (code_calls w.heap.size w (w.alloc (.cells Try.zeroCells84 84)) (Nat.le_refl _) ((Below.refl _ w).alloc (Nat.le_refl _) _) (get_new (new_is w)) x hx)
  obtain ⟨lc, hlc⟩ : ∃ lc, lc = L x := ⟨_, rfl⟩
  obtain ⟨cc, hcc⟩ : ∃ cc, cc = C x := ⟨_, rfl⟩
  rw [← hlc, ← hcc] at HE ⊢
  clear hlc hcc
  go_enter Try.func24, Try.ntmps24
  go_wp2_with (first | (go_at_call 28; refine (new_calls _).mono ?_; rintro e w1 ⟨rfl, rfl⟩) | (go_at_call 30; refine HE.out.mono ?_; rintro e w2 ⟨rfl, hb, hm⟩; have HB := Aside0.mk hb; clear hb hm))
  go_ret3
  exact ⟨rfl, HB.out⟩
set_option maxHeartbeats 8000000 in
set_option maxRecDepth 100000 in
theorem pcode_out (x : Int) (hx : x < 0 ∨ 256 < x) (w : World) : Calls Try.prog 24 #[.int .i64 x] w fun e w' => e = .returned (.tuple #[.int .u32 0, .int .i64 0, .int .i64 11]) ∧ Below w.heap.size w w' := by
  have HE := Aside0.mk (fun W => code_out w.heap.size W x hx)
  clear hx
  go_enter Try.func24, Try.ntmps24
  go_wp2_with (first | (go_at_call 28; refine (new_calls _).mono ?_; rintro e w1 ⟨rfl, rfl⟩) | (go_at_call 30; refine (HE.out _).mono ?_; rintro e w2 ⟨rfl, rfl⟩))
  go_ret3
  exact ⟨rfl, (Below.refl _ w).alloc (Nat.le_refl _) _⟩
end Go.Proofs.Ythfildmldppihaa.Nc
