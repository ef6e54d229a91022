/- strings.ContainsAny at the three bytes that no value may have: its contract, for texts of at most 4096 bytes. -/
import Derived.Test.YthmdkkhcpdbdgaaGw
import Derived.Laws.RangeAny
import Derived.Lib.IndexAny
namespace Go.Proofs.Ythmdkkhcpdbdgaa.Gv
open Go.RowKit Go.Lib Go.Proofs.YthmdkkhcpdbdgaaW.PrintWords Go.Proofs.YthmdkkhcpdbdgaaW.PrintLast Go.Proofs.YthmdkkhcpdbdgaaW.PrintMore

def bad : ByteArray := ⟨#[0, 10, 13]⟩
theorem enc_high {c : Int} (h0 : 128 ≤ c) (h1 : Utf8.valid c = true) : (∃ x y : UInt8, Utf8.encode c = ⟨#[x, y]⟩ ∧ 128 ≤ y.toNat) ∨ (∃ x y z : UInt8, Utf8.encode c = ⟨#[x, y, z]⟩ ∧ 128 ≤ z.toNat) ∨ (∃ x y z u : UInt8, Utf8.encode c = ⟨#[x, y, z, u]⟩) := by
  unfold Utf8.encode
  simp only [h1, if_true]
  rw [if_neg (by omega)]
  have hb : ∀ n : Nat, n < 64 → 128 ≤ (UInt8.ofNat (0x80 + n)).toNat := fun n hn => by rw [UInt8.toNat_ofNat']; omega
  split
  · exact .inl ⟨_, _, rfl, hb _ (by omega)⟩
  · split
    · exact .inr (.inl ⟨_, _, _, rfl, hb _ (by omega)⟩)
    · exact .inr (.inr ⟨_, _, _, _, rfl⟩)

theorem none_last {y : UInt8} (hy : 128 ≤ y.toNat) : Lib.indexByte [13] y < 0 := by
  have : ¬ (13 : UInt8) = y := fun q => by subst q; revert hy; decide
  simp [Lib.indexByte, this]
theorem ne_two (x : UInt8) {y : UInt8} (hy : 128 ≤ y.toNat) : ((((⟨#[0, 10, 13]⟩ : ByteArray)[1]'(by decide)).toNat : Int) != (((⟨#[x, y]⟩ : ByteArray)[1]'(show 1 < 2 by decide)).toNat : Int)) = true := by
  show ((10 : Int) != (y.toNat : Int)) = true
  exact bne_iff_ne.2 (by omega)
theorem none_two (x : UInt8) {y : UInt8} (hy : 128 ≤ y.toNat) : Lib.indexByte [13] ((⟨#[x, y]⟩ : ByteArray)[1]'(show 1 < 2 by decide)) < 0 := none_last hy
set_option maxHeartbeats 2000000 in
set_option maxRecDepth 100000 in
theorem rune_two {c : Int} (h0 : 128 ≤ c) (hne : (c == 65533) = false) (hv : Lib.validRune c = true) (x y : UInt8) (he : Utf8.encode c = ⟨#[x, y]⟩) (hy : 128 ≤ y.toNat) (w : World) :
    Calls Try.prog 30 #[.string bad, .int .i32 c] w fun e w' => e = .returned (.int .i64 (-1)) ∧ Below w.heap.size w w' := by
  have hconv : ∀ w : World, (convert 21 9 (.int .i32 c)).run Try.prog w = .ok (.string ⟨#[x, y]⟩) w := fun w => by
    simp [convert, run_underlying Try.underlying21, run_underlying Try.underlying9, Conv.intToString, he, Result.andThen]
  unfold bad
  clear he
  have t1 := ne_two x hy
  have t2 := none_two x hy
  go_enter Try.func30, Try.ntmps30
  go_wp2_with (go_at_call 35; refine (Try.utf8_ValidRune _ _).mono ?_; rintro e w' ⟨rfl, hw⟩; rw [hw])
  go_step3
  go_wp2
  refine wp_loop_rounds 1 ?_
  rw [rounds_succ]
  go_wp2
  go_step3
  go_wp2
  go_quiet (fail)
  go_wp2_with fail
  have HB : Hid (Below w.heap.size w (w.drewN nq)) := pw_below_drewN (Below.refl _ _) _
  generalize w.drewN nq = w1 at HB ⊢
  have hw2 : IntKind.i64.wrap 2 = 2 := by decide
  go_quiet ((go_at_call 27; exact Calls.quiet_of_same (Try.strings_IndexByte _ _ _)))
  go_wp2
  rw [Exit.noGoto_ret]
  go_wp2
  rw [Exit.noGoto_ret]
  go_wp2
  go_ret
  exact ⟨rfl, pw_below_drewN HB.out _⟩

theorem ne_three (x y : UInt8) {z : UInt8} (hz : 128 ≤ z.toNat) : ((((⟨#[0, 10, 13]⟩ : ByteArray)[2]'(by decide)).toNat : Int) != (((⟨#[x, y, z]⟩ : ByteArray)[2]'(show 2 < 3 by decide)).toNat : Int)) = true := by
  show ((13 : Int) != (z.toNat : Int)) = true
  exact bne_iff_ne.2 (by omega)
set_option maxHeartbeats 2000000 in
set_option maxRecDepth 100000 in
theorem rune_three {c : Int} (h0 : 128 ≤ c) (hne : (c == 65533) = false) (hv : Lib.validRune c = true) (x y z : UInt8) (he : Utf8.encode c = ⟨#[x, y, z]⟩) (hz : 128 ≤ z.toNat) (w : World) :
    Calls Try.prog 30 #[.string bad, .int .i32 c] w fun e w' => e = .returned (.int .i64 (-1)) ∧ Below w.heap.size w w' := by
  have hconv : ∀ w : World, (convert 21 9 (.int .i32 c)).run Try.prog w = .ok (.string ⟨#[x, y, z]⟩) w := fun w => by
    simp [convert, run_underlying Try.underlying21, run_underlying Try.underlying9, Conv.intToString, he, Result.andThen]
  unfold bad
  clear he
  have t1 := ne_three x y hz
  have t2 : Lib.indexByte [] ((⟨#[x, y, z]⟩ : ByteArray)[2]'(show 2 < 3 by decide)) < 0 := by show (-1 : Int) < 0; decide
  go_enter Try.func30, Try.ntmps30
  go_wp2_with (go_at_call 35; refine (Try.utf8_ValidRune _ _).mono ?_; rintro e w' ⟨rfl, hw⟩; rw [hw])
  go_step3
  go_wp2
  refine wp_loop_rounds 1 ?_
  rw [rounds_succ]
  go_wp2
  go_step3
  go_wp2
  go_quiet (fail)
  go_wp2_with fail
  have HB : Hid (Below w.heap.size w (w.drewN nq)) := pw_below_drewN (Below.refl _ _) _
  generalize w.drewN nq = w1 at HB ⊢
  have hw2 : IntKind.i64.wrap 3 = 3 := by decide
  go_quiet ((go_at_call 27; exact Calls.quiet_of_same (Try.strings_IndexByte _ _ _)))
  go_wp2
  rw [Exit.noGoto_ret]
  go_wp2
  rw [Exit.noGoto_ret]
  go_wp2
  go_ret
  exact ⟨rfl, pw_below_drewN HB.out _⟩

set_option maxHeartbeats 2000000 in
set_option maxRecDepth 100000 in
theorem rune_four {c : Int} (h0 : 128 ≤ c) (hne : (c == 65533) = false) (hv : Lib.validRune c = true) (x y z u : UInt8) (he : Utf8.encode c = ⟨#[x, y, z, u]⟩) (w : World) :
    Calls Try.prog 30 #[.string bad, .int .i32 c] w fun e w' => e = .returned (.int .i64 (-1)) ∧ Below w.heap.size w w' := by
  have hconv : ∀ w : World, (convert 21 9 (.int .i32 c)).run Try.prog w = .ok (.string ⟨#[x, y, z, u]⟩) w := fun w => by
    simp [convert, run_underlying Try.underlying21, run_underlying Try.underlying9, Conv.intToString, he, Result.andThen]
  unfold bad
  clear he
  go_enter Try.func30, Try.ntmps30
  go_wp2_with (go_at_call 35; refine (Try.utf8_ValidRune _ _).mono ?_; rintro e w' ⟨rfl, hw⟩; rw [hw])
  go_step3
  go_wp2
  refine wp_loop_rounds 1 ?_
  rw [rounds_succ]
  go_wp2
  rw [Exit.noGoto_ret]
  go_wp2
  go_ret
  exact ⟨rfl, Below.refl _ _⟩

theorem below_iter (w : World) (s : ByteArray) (p : Nat) : Below w.heap.size w (w.iter s p) :=
  (Below.refl _ _).alloc (Nat.le_refl _) _
set_option maxHeartbeats 2000000 in
set_option maxRecDepth 100000 in
theorem rune_bad (w : World) :
    Calls Try.prog 30 #[.string bad, .int .i32 65533] w fun e w' => e = .returned (.int .i64 (-1)) ∧ Below w.heap.size w w' := by
  unfold bad
  have n0 := fun ty => run_next_ascii (P := Try.prog) w ⟨#[0, 10, 13]⟩ 0 ty (by decide) (by decide)
  have n1 := fun ty => run_next_ascii (P := Try.prog) w ⟨#[0, 10, 13]⟩ 1 ty (by decide) (by decide)
  have n2 := fun ty => run_next_ascii (P := Try.prog) w ⟨#[0, 10, 13]⟩ 2 ty (by decide) (by decide)
  have n3 := fun ty => run_next_end (P := Try.prog) w ⟨#[0, 10, 13]⟩ 3 ty (by decide)
  go_enter Try.func30, Try.ntmps30
  go_wp2
  go_loopg [5, 6] 3 (fun g _ _ wx => ∃ i : Nat, i + g = 3 ∧ wx = w.iter ⟨#[0, 10, 13]⟩ i)
  case atStart => exact ⟨0, by omega, rfl⟩
  case round =>
    obtain ⟨i, hig, rfl⟩ := hrel
    have hi : gk = 0 ∧ i = 3 ∨ gk = 1 ∧ i = 2 ∨ gk = 2 ∧ i = 1 ∨ gk = 3 ∧ i = 0 := by omega
    clear hig
    rcases hi with ⟨rfl, rfl⟩ | ⟨rfl, rfl⟩ | ⟨rfl, rfl⟩ | ⟨rfl, rfl⟩
    · go_wp2
      go_ret
      exact ⟨rfl, below_iter _ _ _⟩
    · go_wp2
      go_roundg 0
      case measure => omega
      case rel => exact ⟨3, by omega, rfl⟩
    · go_wp2
      go_roundg 1
      case measure => omega
      case rel => exact ⟨2, by omega, rfl⟩
    · go_wp2
      go_roundg 2
      case measure => omega
      case rel => exact ⟨1, by omega, rfl⟩
end Go.Proofs.Ythmdkkhcpdbdgaa.Gv
