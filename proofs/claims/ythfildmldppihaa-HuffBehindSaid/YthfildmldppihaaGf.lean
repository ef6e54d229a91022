/- The stable sort, whole. -/
import Derived.Test.YthfildmldppihaaGe
namespace Go.Proofs.Ythfildmldppihaa.Gf
open Go.RowKit Go.Proofs.Ythfildmldppihaa.Ga Go.Proofs.Ythfildmldppihaa.Gb Go.Proofs.Ythfildmldppihaa.Gc Go.Proofs.Ythfildmldppihaa.Gd Go.Proofs.Ythfildmldppihaa.Ge Go.Proofs.YthfildmldppihaaW.PrintWords Go.Proofs.YthfildmldppihaaW.PrintLast Go.Proofs.YthfildmldppihaaW.PrintMore

theorem sym_ok (w0 : World) (blk off : Nat) : ∀ f, SymOk w0 blk off f := by
  intro f
  induction f with
  | zero => intro a m b N w _ h1 h2 _ h4; omega
  | succ f ih =>
    intro a m b N w H h1 h2 h3 h4
    by_cases hA : m - a = 1
    · have := symA_calls w0 blk off a m b N w H (by omega) (by omega) h2 h3
      rw [sym, if_pos hA]
      exact this
    · by_cases hB : b - m = 1
      · have := symB_calls w0 blk off a m b N w H (by omega) (by omega) (by omega) h3
        rw [sym, if_neg hA, if_pos hB]
        exact this
      · by_cases hm : (a + b) / 2 < m
        · exact symCL w0 blk off f ih a m b _ N w H (by omega) (by omega) h3 h4 rfl hm
        · exact symCR w0 blk off f ih a m b _ N w H (by omega) (by omega) h3 h4 rfl hm

def blocks : Nat → Nat → Nat → Nat → Nat
  | 0, _, _, d => d
  | k + 1, a, b, d => if b ≤ 257 then blocks k b (b + 20) (ins d a b) else ins d a 257
def lev (bs : Nat) : Nat → Nat → Nat → Nat → Nat
  | 0, _, _, d => d
  | k + 1, a, b, d => if b ≤ 257 then lev bs k b (b + 2 * bs) (sym 300 a (a + bs) b d) else if a + bs < 257 then sym 300 a (a + bs) 257 d else d
def levels : Nat → Nat → Nat → Nat
  | 0, _, d => d
  | k + 1, bs, d => if bs < 257 then levels k (2 * bs) (lev bs 300 0 (2 * bs) d) else d
def stable (d : Nat) : Nat := levels 5 20 (blocks 20 0 20 d)
theorem levels_stop (k bs d : Nat) (h : ¬ bs < 257) : levels k bs d = d := by cases k <;> simp [levels, h]

set_option maxHeartbeats 8000000 in
set_option maxRecDepth 100000 in
theorem stable_calls (w0 : World) (blk off N : Nat) (w : World) (H : RW w0 blk off N w) :
    Calls Try.prog 60 #[.slice (some ⟨blk, off, none⟩) 257 257, .int .i64 257, .func (.func 55) #[] #[]] w fun e w' => e = .returned (.tuple #[]) ∧ RW w0 blk off (stable N) w' := by
  have S0 : Aside (RW w0 blk off N w) := H
  clear H
  go_enter Try.func60, Try.ntmps60
  go_wp2
  go_loopg [7, 8] 20 (fun g1 vi vj wr => ∃ (a d : Nat), vi = .int .i64 a ∧ vj = .int .i64 ((a + 20 : Nat) : Int) ∧ a ≤ 257 ∧ 280 ≤ a + 20 * g1 ∧ Aside (RW w0 blk off d wr) ∧ Hid (blocks g1 a (a + 20) d = blocks 20 0 20 N))
  case atStart => exact ⟨0, N, rfl, rfl, by omega, by omega, S0, rfl⟩
  case round =>
    clear S0
    obtain ⟨a, d, rfl, rfl, ha, hg, S, HI⟩ := hrel
    have zb : ((a + 20 : Nat) : Int) = (a : Int) + 20 := by omega
    obtain ⟨k, rfl⟩ : ∃ k, gk = k + 1 := ⟨gk - 1, by omega⟩
    by_cases hb : a + 20 ≤ 257
    · have hz : (a : Int) + 20 ≤ 257 := by omega
      have HC := Aside0.mk (insertion_calls w0 blk off a (a + 20) d wr S.out (by omega) hb)
      clear S
      go_wp2_with (go_at_call 67; refine HC.out.mono ?_; rintro e w' ⟨rfl, hw⟩; have S : Aside (RW w0 blk off (ins d a (a + 20)) w') := hw; clear hw HC)
      go_roundg k
      case measure => omega
      case rel => exact ⟨a + 20, _, by first | rfl | go_num | (congr 1; omega), by first | rfl | go_num | (congr 1; omega), by omega, by omega, S, (show _ = _ from by rw [← HI.out]; conv => rhs; rw [blocks, if_pos hb])⟩
    · have hz : ¬ (a : Int) + 20 ≤ 257 := by omega
      have HB : Aside0 (blocks 20 0 20 N = ins d a 257) := ⟨by rw [← HI.out, blocks, if_neg hb]⟩
      have HC := Aside0.mk (insertion_calls w0 blk off a 257 d wr S.out ha (by omega))
      clear S HI
      go_wp2_with (go_at_call 67; refine HC.out.mono ?_; rintro e w' ⟨rfl, hw⟩; have S : Aside (RW w0 blk off (blocks 20 0 20 N) w') := (by rw [HB.out]; exact hw); clear hw HC)
      go_loopg [6] 5 (fun g1 vi wr => ∃ (bs d : Nat), vi = .int .i64 bs ∧ ((bs = 20 ∧ g1 = 5) ∨ (bs = 40 ∧ g1 = 4) ∨ (bs = 80 ∧ g1 = 3) ∨ (bs = 160 ∧ g1 = 2) ∨ (bs = 320 ∧ g1 = 1)) ∧ Aside (RW w0 blk off d wr) ∧ Hid (levels g1 bs d = stable N))
      case atStart => exact ⟨20, _, rfl, .inl ⟨rfl, rfl⟩, S, rfl⟩
      case round =>
        clear S HB
        obtain ⟨bs, d, rfl, hbs, S, HL⟩ := hrel
        have HBS := Aside0.mk hbs
        have hb1 : 20 ≤ bs := by omega
        have hb2 : bs ≤ 320 := by omega
        by_cases hlt : bs < 257
        · have hlz : (bs : Int) < 257 := by omega
          obtain ⟨k, rfl⟩ : ∃ k, gk = k + 1 := ⟨gk - 1, by omega⟩
          clear hbs
          go_wp2
          go_loopg [7, 8] 300 (fun g2 vi vj wr => ∃ (a b d2 : Nat), vi = .int .i64 a ∧ vj = .int .i64 b ∧ a + 2 * bs ≤ b ∧ b ≤ a + 2 * bs ∧ a ≤ 257 ∧ 257 < a + g2 ∧ Aside (RW w0 blk off d2 wr) ∧ Hid (lev bs g2 a b d2 = lev bs 300 0 (2 * bs) d))
          case atStart => exact ⟨0, 2 * bs, d, rfl, by first | rfl | go_num | (congr 1; omega), by omega, by omega, by omega, by omega, S, rfl⟩
          case round =>
            clear S
            obtain ⟨a, b, d2, rfl, rfl, hab, hab2, ha, hg2, S, HV⟩ := hrel
            obtain ⟨k2, rfl⟩ : ∃ k, gk = k + 1 := ⟨gk - 1, by omega⟩
            by_cases hb : b ≤ 257
            · have hz : (b : Int) ≤ 257 := by omega
              obtain ⟨m, hm⟩ : ∃ m, m = a + bs := ⟨_, rfl⟩
              have zm : (a : Int) + (bs : Int) = (m : Int) := by omega
              have HC := Aside0.mk (sym_ok w0 blk off 300 a m b d2 wr S.out (by omega) (by omega) hb (by omega))
              have HM := Aside0.mk hm
              clear S hm
              go_wp2_with (go_at_call 68; refine HC.out.mono ?_; rintro e w' ⟨rfl, hw⟩; have S : Aside (RW w0 blk off (sym 300 a m b d2) w') := hw; clear hw HC)
              go_roundg k2
              case measure => omega
              case rel => exact ⟨b, b + 2 * bs, _, rfl, by first | rfl | go_num | (congr 1; omega), by omega, by omega, by omega, by omega, S, (show _ = _ from by rw [← HV.out, HM.out]; conv => rhs; rw [lev, if_pos hb])⟩
            · have hz : ¬ (b : Int) ≤ 257 := by omega
              obtain ⟨m, hm⟩ : ∃ m, m = a + bs := ⟨_, rfl⟩
              have zm : (a : Int) + (bs : Int) = (m : Int) := by omega
              by_cases hmn : m < 257
              · have hmz : (m : Int) < 257 := by omega
                have HC := Aside0.mk (sym_ok w0 blk off 300 a m 257 d2 wr S.out (by omega) (by omega) (by omega) (by omega))
                have HVV : Aside0 (lev bs 300 0 (2 * bs) d = sym 300 a m 257 d2) := ⟨by rw [← HV.out, lev, if_neg hb, ← hm, if_pos hmn]⟩
                clear S hm HV
                go_wp2_with (go_at_call 68; refine HC.out.mono ?_; rintro e w' ⟨rfl, hw⟩; have S : Aside (RW w0 blk off (lev bs 300 0 (2 * bs) d) w') := (by rw [HVV.out]; exact hw); clear hw HC)
                go_roundg k
                case measure => omega
                case rel => exact ⟨2 * bs, _, by first | rfl | go_num | (congr 1; omega), by have := HBS.out; omega, S, (show _ = _ from by rw [← HL.out]; conv => rhs; rw [levels, if_pos hlt])⟩
              · have hmz : ¬ (m : Int) < 257 := by omega
                have HVV : Aside0 (lev bs 300 0 (2 * bs) d = d2) := ⟨by rw [← HV.out, lev, if_neg hb, ← hm, if_neg hmn]⟩
                clear hm HV
                go_wp2
                go_roundg k
                case measure => omega
                case rel => exact ⟨2 * bs, _, by first | rfl | go_num | (congr 1; omega), by have := HBS.out; omega, S, (show _ = _ from by rw [← HL.out, ← HVV.out]; conv => rhs; rw [levels, if_pos hlt])⟩
        · have hlz : ¬ (bs : Int) < 257 := by omega
          clear hbs
          go_wp2
          go_end0
          exact ⟨rfl, by rw [← HL.out, levels_stop _ _ _ hlt]; exact S.out⟩

set_option maxHeartbeats 2000000 in
set_option maxRecDepth 100000 in
theorem sortStable_calls (w0 : World) (blk off N : Nat) (w : World) (H : RW w0 blk off N w) :
    Calls Try.prog 54 #[.slice (some ⟨blk, off, none⟩) 257 257, .func (.func 55) #[] #[]] w fun e w' => e = .returned (.tuple #[]) ∧ RW w0 blk off (stable N) w' := by
  have HC := Aside0.mk (stable_calls w0 blk off N w H)
  clear H
  go_enter Try.func54, Try.ntmps54
  go_wp2_with (go_at_call 60; refine HC.out.mono ?_; rintro e w' ⟨rfl, hw⟩)
  go_end0
  exact ⟨rfl, hw⟩
end Go.Proofs.Ythfildmldppihaa.Gf
