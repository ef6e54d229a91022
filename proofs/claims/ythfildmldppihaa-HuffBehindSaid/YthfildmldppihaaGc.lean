/- The stable sort's walks: rotate, insertion. -/
import Derived.Test.YthfildmldppihaaGb
namespace Go.Proofs.Ythfildmldppihaa.Gc
open Go.RowKit Go.Proofs.Ythfildmldppihaa.Ga Go.Proofs.Ythfildmldppihaa.Gb Go.Proofs.YthfildmldppihaaW.PrintWords Go.Proofs.YthfildmldppihaaW.PrintLast Go.Proofs.YthfildmldppihaaW.PrintMore

def rot (m : Nat) : Nat → Nat → Nat → Nat → Nat
  | 0, _, _, d => d
  | k + 1, i, j, d => if i = j then swr (m - i) m i 0 d else if j < i then rot m k (i - j) j (swr (m - i) m j 0 d) else rot m k i (j - i) (swr (m - i) (m + j - i) i 0 d)

set_option maxHeartbeats 4000000 in
set_option maxRecDepth 100000 in
theorem rotate_calls (w0 : World) (blk off a m b K N : Nat) (w : World) (H : RW w0 blk off N w) (ha : a < m) (hb : m < b) (hz : b ≤ 257) (hK : (m - a) + (b - m) ≤ K) :
    Calls Try.prog 73 #[.slice (some ⟨blk, off, none⟩) 257 257, .int .i64 a, .int .i64 m, .int .i64 b, .func (.func 55) #[] #[]] w fun e w' => e = .returned (.tuple #[]) ∧ RW w0 blk off (rot m K (m - a) (b - m) N) w' := by
  have S0 : Aside (RW w0 blk off N w) := H
  clear H
  go_enter Try.func73, Try.ntmps73
  go_wp2
  go_loopg [10, 11] K (fun g1 vi vj wr => ∃ (i j d : Nat), vi = .int .i64 i ∧ vj = .int .i64 j ∧ 0 < i ∧ 0 < j ∧ i ≤ m ∧ m + j ≤ 257 ∧ i + j ≤ g1 ∧ Aside (RW w0 blk off d wr) ∧ Hid (rot m g1 i j d = rot m K (m - a) (b - m) N))
  case atStart => exact ⟨m - a, b - m, N, by congr 1; omega, by congr 1; omega, by omega, by omega, by omega, by omega, hK, S0, rfl⟩
  case round =>
    clear S0
    obtain ⟨i, j, d, rfl, rfl, hi, hj, him, hmj, hg, S, HI⟩ := hrel
    obtain ⟨k, rfl⟩ : ∃ k, gk = k + 1 := ⟨gk - 1, by omega⟩
    by_cases hij : i = j
    · have e1 : ((i : Int) != (j : Int)) = false := bne_eq_false_iff_eq.mpr (by omega)
      have e2 : ((i : Int) == (j : Int)) = true := beq_iff_eq.mpr (by omega)
      have HIJ := Aside0.mk hij
      have HR : Aside0 (rot m (k + 1) i j d = swr (m - i) m i 0 d) := ⟨by rw [rot, if_pos hij]⟩
      have ez : (m : Int) - (i : Int) = ((m - i : Nat) : Int) := by omega
      have hC := swapRange_calls w0 blk off (m - i) m i d wr S.out (by omega) (by omega)
      clear hij
      generalize m - i = mi at hC HR ez
      go_wp2_with (go_at_call 82; refine hC.mono ?_; clear hC; rintro e w' ⟨rfl, hw⟩; have S2 : Aside _ := hw; clear hw)
      go_end0
      exact ⟨rfl, by rw [← HI.out, HR.out]; exact S2⟩
    · have e1 : ((i : Int) != (j : Int)) = true := bne_iff_ne.mpr (by omega)
      have e2 : ((i : Int) == (j : Int)) = false := beq_eq_false_iff_ne.mpr (by omega)
      by_cases hji : j < i
      · have e3 : decide ((i : Int) > (j : Int)) = true := decide_eq_true (by omega)
        have e4 : (j : Int) < (i : Int) := by omega
        have HR : Aside0 (rot m (k + 1) i j d = rot m k (i - j) j (swr (m - i) m j 0 d)) := ⟨by rw [rot, if_neg hij, if_pos hji]⟩
        have ez : (m : Int) - (i : Int) = ((m - i : Nat) : Int) := by omega
        have hC := swapRange_calls w0 blk off (m - i) m j d wr S.out (by omega) (by omega)
        have HIJ := Aside0.mk hij
        clear hij S
        generalize m - i = mi at hC HR ez
        go_wp2_with (go_at_call 82; refine hC.mono ?_; clear hC; rintro e w' ⟨rfl, hw⟩; have S2 : Aside (RW w0 blk off (swr mi m j 0 d) w') := hw; clear hw)
        go_roundg k
        case measure => omega
        case rel => exact ⟨i - j, j, _, by congr 1; omega, rfl, by omega, by omega, by omega, by omega, by omega, S2, (show _ = _ from by rw [← HI.out, HR.out])⟩
      · have e3 : decide ((i : Int) > (j : Int)) = false := decide_eq_false (by omega)
        have e4 : ¬ (j : Int) < (i : Int) := by omega
        have HR : Aside0 (rot m (k + 1) i j d = rot m k i (j - i) (swr (m - i) (m + j - i) i 0 d)) := ⟨by rw [rot, if_neg hij, if_neg hji]⟩
        have ez : (m : Int) - (i : Int) = ((m - i : Nat) : Int) := by omega
        have ey : (m : Int) + (j : Int) - (i : Int) = ((m + j - i : Nat) : Int) := by omega
        have hlt : i < j := by omega
        have hC := swapRange_calls w0 blk off (m - i) (m + j - i) i d wr S.out (by omega) (by omega)
        have HIJ := Aside0.mk hij
        clear hij S
        generalize m - i = mi at hC HR ez
        generalize m + j - i = mj at hC HR ey
        go_wp2_with (go_at_call 82; refine hC.mono ?_; clear hC; rintro e w' ⟨rfl, hw⟩; have S2 : Aside (RW w0 blk off (swr mi mj i 0 d) w') := hw; clear hw)
        go_roundg k
        case measure => omega
        case rel => exact ⟨i, j - i, _, rfl, by congr 1; omega, by omega, by omega, by omega, by omega, by omega, S2, (show _ = _ from by rw [← HI.out, HR.out])⟩

theorem insI_go (a j d : Nat) (h : a < j) (hl : lt (gt d j) (gt d (j - 1)) = true) : insI a j d = insI a (j - 1) (swp d j (j - 1)) := by
  obtain ⟨q, rfl⟩ : ∃ q, j = q + 1 := ⟨j - 1, by omega⟩
  rw [insI, if_pos (by simp only [Bool.and_eq_true, decide_eq_true_eq]; exact ⟨by omega, hl⟩)]; rfl
theorem insI_stop (a j d : Nat) (h : j ≤ a ∨ lt (gt d j) (gt d (j - 1)) = false) : insI a j d = d := by
  cases j with
  | zero => rfl
  | succ q =>
    rw [insI, if_neg]
    simp only [Bool.and_eq_true, decide_eq_true_eq, not_and, Bool.not_eq_true]
    intro h1
    rcases h with h | h
    · omega
    · exact h

set_option maxHeartbeats 8000000 in
set_option maxRecDepth 100000 in
theorem insertion_calls (w0 : World) (blk off a b N : Nat) (w : World) (H : RW w0 blk off N w) (hab : a ≤ b) (hb : b ≤ 257) :
    Calls Try.prog 67 #[.slice (some ⟨blk, off, none⟩) 257 257, .int .i64 a, .int .i64 b, .func (.func 55) #[] #[]] w fun e w' => e = .returned (.tuple #[]) ∧ RW w0 blk off (ins N a b) w' := by
  have S0 : Aside (RW w0 blk off N w) := H
  clear H
  go_enter Try.func67, Try.ntmps67
  go_wp2
  go_loopg [8] (b - a) (fun g1 vi wr => ∃ (i dk : Nat), vi = .int .i64 i ∧ a < i ∧ i ≤ b + 1 ∧ b + 1 - i ≤ g1 + 1 ∧ Aside (RW w0 blk off dk wr) ∧ Hid (insO a (b - i) i dk = insO a (b - (a + 1)) (a + 1) N))
  case atStart => exact ⟨a + 1, N, by go_num, by omega, by omega, by omega, S0, rfl⟩
  case round =>
    clear S0
    obtain ⟨i, dk, rfl, hai, hib, hg1, S1, HO⟩ := hrel
    by_cases hlt : i < b
    · have hltz : (i : Int) < (b : Int) := by omega
      go_wp2
      go_loopg [9] i (fun g2 vj wr2 => ∃ (j dj : Nat), vj = .int .i64 j ∧ a ≤ j ∧ j ≤ i ∧ j ≤ g2 ∧ Aside (RW w0 blk off dj wr2) ∧ Hid (insI a j dj = insI a i dk))
      case atStart => exact ⟨i, dk, rfl, by omega, Nat.le_refl _, Nat.le_refl _, S1, rfl⟩
      case round =>
        clear S1
        obtain ⟨j, dj, rfl, haj, hji, hg2, SJ, HI⟩ := hrel
        have OUT : Aside ((j ≤ a ∨ lt (gt dj j) (gt dj (j - 1)) = false) → Hid (insO a (b - (i + 1)) (i + 1) dj = insO a (b - (a + 1)) (a + 1) N)) := fun hs => by
          show _ = _
          rw [← HO.out, show b - i = (b - (i + 1)) + 1 by omega, insO, ← HI.out, insI_stop a j dj hs]
        by_cases hja : a < j
        · have hjaz : (a : Int) < (j : Int) := by omega
          obtain ⟨jp, hjp⟩ : ∃ q, q + 1 = j := ⟨j - 1, by omega⟩
          have zjp : (j : Int) = (jp : Int) + 1 := by omega
          have hjad : decide ((jp : Int) + 1 > (a : Int)) = true := decide_eq_true (by omega)
          have hjaz' : (a : Int) < (jp : Int) + 1 := by omega
          obtain ⟨iN, hiN⟩ : ∃ q, q = j := ⟨_, rfl⟩
          obtain ⟨jN, hjN⟩ : ∃ q, q = j - 1 := ⟨_, rfl⟩
          have ea : ((jp : Int) + 1).toNat = iN := by omega
          have pa : (0 : Int) ≤ (jp : Int) + 1 := by omega
          have ba : (jp : Int) + 1 < 257 := by omega
          have ra : IntKind.i64.wrap ((jp : Int) + 1) = (jp : Int) + 1 := by rw [IntKind.wrap_i64]; omega
          have ec : ((jp : Int)).toNat = jN := by omega
          have pc : (0 : Int) ≤ (jp : Int) := by omega
          have bc : (jp : Int) < 257 := by omega
          have rc : IntKind.i64.wrap ((jp : Int)) = (jp : Int) := by rw [IntKind.wrap_i64]; omega
          have hC : ∀ w, Calls Try.prog 55 #[.int .i64 (gt dj j : Nat), .int .i64 (gt dj (j - 1) : Nat)] w fun e w' => e = .returned (.int .i64 (cf (gt dj j) (gt dj (j - 1)))) ∧ w' = w := fun w => cmp_calls _ _ (SJ.out.v j (by omega)) (SJ.out.v (j - 1) (by omega)) w
          have ca : wr.cell? ⟨blk, off + iN, none⟩ = some (.int .i64 (gt dj j : Nat)) := by rw [hiN]; exact SJ.out.c j (by omega)
          have cb : wr.cell? ⟨blk, off + jN, none⟩ = some (.int .i64 (gt dj (j - 1) : Nat)) := by rw [hjN]; exact SJ.out.c (j - 1) (by omega)
          have hlt' : lt (gt dj j) (gt dj (j - 1)) = decide (cf (gt dj j) (gt dj (j - 1)) < 0) := rfl
          have hl2 : lt (gt dj j) (gt dj (j - 1)) = decide (cf (gt dj j) (gt dj (j - 1)) < 0) := rfl
          clear hlt'
          obtain ⟨lv, hlv⟩ : ∃ lv, lv = lt (gt dj j) (gt dj (j - 1)) := ⟨_, rfl⟩
          rw [← hlv] at hl2
          have HLV := Aside0.mk hlv
          clear hlv
          have HIN := Aside0.mk hiN
          have HJN := Aside0.mk hjN
          clear hiN hjN
          generalize cf (gt dj j) (gt dj (j - 1)) = cv at hC hl2
          obtain ⟨x, hx⟩ : ∃ x, x = gt dj j := ⟨_, rfl⟩
          obtain ⟨y, hy⟩ : ∃ y, y = gt dj (j - 1) := ⟨_, rfl⟩
          rw [← hx] at hC ca
          rw [← hy] at hC cb
          clear hx hy
          cases lv with
          | true =>
            have hlt2 : decide (cv < 0) = true := hl2.symm
            have hlt3 : cv < 0 := of_decide_eq_true hlt2
            clear hl2
            go_wp2_with fail
            go_quiet (first | (go_at_call 55; exact (hC _).mono (by rintro e w' ⟨rfl, rfl⟩; exact ⟨rfl, _, rfl⟩)))
            have S2 : Aside (RW w0 blk off dj (wr.drewN nq)) := SJ.out.drewN nq
            clear SJ ca cb hC
            generalize wr.drewN nq = w2 at S2 ⊢
            go_wp2_with fail
            have S3 : Aside (RW w0 blk off (swp dj j (j - 1)) ((((w2).setCell ⟨blk, off + iN, none⟩ (.int .i64 (gt dj (j - 1) : Nat))).setCell ⟨blk, off + jN, none⟩ (.int .i64 (gt dj j : Nat)))).drew) := by
              rw [HIN.out, HJN.out]; exact S2.out.swp j (j - 1) (by omega) (by omega)
            have ca : w2.cell? ⟨blk, off + iN, none⟩ = some (.int .i64 (gt dj j : Nat)) := by rw [HIN.out]; exact S2.out.c j (by omega)
            have cb : w2.cell? ⟨blk, off + jN, none⟩ = some (.int .i64 (gt dj (j - 1) : Nat)) := by rw [HJN.out]; exact S2.out.c (j - 1) (by omega)
            have fa : w2.frozen? ⟨blk, off + iN, none⟩ = false := by rw [HIN.out]; exact S2.out.f j (by omega)
            have fb : w2.frozen? ⟨blk, off + jN, none⟩ = false := by rw [HJN.out]; exact S2.out.f (j - 1) (by omega)
            obtain ⟨u, cc⟩ : ∃ u, (w2.setCell ⟨blk, off + iN, none⟩ (.int .i64 (gt dj (j - 1) : Nat))).cell? ⟨blk, off + jN, none⟩ = some u := by
              rw [HIN.out, HJN.out]; exact S2.out.c2 j (j - 1) (by omega) (by omega) _
            clear S2
            obtain ⟨x, hx⟩ : ∃ x, x = gt dj j := ⟨_, rfl⟩
            obtain ⟨y, hy⟩ : ∃ y, y = gt dj (j - 1) := ⟨_, rfl⟩
            rw [← hx] at S3 ca
            rw [← hy] at S3 cb cc
            clear hx hy
            go_big_region
            generalize ((w2.setCell ⟨blk, off + iN, none⟩ (.int .i64 (y : Nat))).setCell ⟨blk, off + jN, none⟩ (.int .i64 (x : Nat))).drew = w3 at S3 ⊢
            clear ea ec ca cb fa fb cc
            go_wp2
            go_roundg (j - 1)
            case measure => omega
            case rel => exact ⟨j - 1, swp dj j (j - 1), by first | rfl | go_num | (congr 1; omega), by omega, by omega, Nat.le_refl _, S3, (show Hid _ from by rw [← HI.out, insI_go a j dj hja HLV.out.symm]; exact rfl)⟩
          | false =>
            have hlt2 : decide (cv < 0) = false := hl2.symm
            have hlt3 : ¬ cv < 0 := of_decide_eq_false hlt2
            clear hl2
            go_wp2_with fail
            go_quiet (first | (go_at_call 55; exact (hC _).mono (by rintro e w' ⟨rfl, rfl⟩; exact ⟨rfl, _, rfl⟩)))
            have S2 : Aside (RW w0 blk off dj (wr.drewN nq)) := SJ.out.drewN nq
            clear SJ ca cb hC
            generalize wr.drewN nq = w2 at S2 ⊢
            go_wp2
            go_roundg (b - (i + 1))
            case measure => omega
            case rel => exact ⟨i + 1, dj, by go_num, by omega, by omega, by omega, S2, OUT.out (Or.inr HLV.out.symm)⟩
        · have hjaz : decide ((j : Int) > (a : Int)) = false := decide_eq_false (by omega)
          have hjaz' : ¬ (a : Int) < (j : Int) := by omega
          go_wp2_with fail
          go_quiet (fail)
          have S2 : Aside (RW w0 blk off dj (wr.drewN nq)) := SJ.out.drewN nq
          clear SJ
          generalize wr.drewN nq = w2 at S2 ⊢
          go_wp2
          go_roundg (b - (i + 1))
          case measure => omega
          case rel => exact ⟨i + 1, dj, by go_num, by omega, by omega, by omega, S2, OUT.out (Or.inl (by omega))⟩
    · have hltz : ¬ (i : Int) < (b : Int) := by omega
      go_wp2
      go_end0
      exact ⟨rfl, by unfold ins; rw [← HO.out, show b - i = 0 by omega]; exact S1.out⟩
end Go.Proofs.Ythfildmldppihaa.Gc
