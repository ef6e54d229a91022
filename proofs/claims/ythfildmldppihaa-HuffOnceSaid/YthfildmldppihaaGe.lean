/- The stable sort's walks: symMerge, whole; the levels; the sort. -/
import Derived.Test.YthfildmldppihaaGd
namespace Go.Proofs.Ythfildmldppihaa.Ge
open Go.RowKit Go.Proofs.Ythfildmldppihaa.Ga Go.Proofs.Ythfildmldppihaa.Gb Go.Proofs.Ythfildmldppihaa.Gc Go.Proofs.Ythfildmldppihaa.Gd Go.Proofs.YthfildmldppihaaW.PrintWords Go.Proofs.YthfildmldppihaaW.PrintLast Go.Proofs.YthfildmldppihaaW.PrintMore

theorem sym_eq (f a m b d mid s d1 d2 : Nat) (h1 : m - a ≠ 1) (h2 : b - m ≠ 1) (hmid : (a + b) / 2 = mid) (hs : bsC d (mid + m - 1) 300 (if mid < m then mid + m - b else a) (if mid < m then mid else m) = s)
    (hd1 : (if s < m ∧ m < mid + m - s then rot m 600 (m - s) (mid + m - s - m) d else d) = d1) (hd2 : (if a < s ∧ s < mid then sym f a s mid d1 else d1) = d2) :
    sym (f + 1) a m b d = if mid < mid + m - s ∧ mid + m - s < b then sym f mid (mid + m - s) b d2 else d2 := by
  subst hmid hs hd1 hd2
  rw [sym, if_neg h1, if_neg h2]

/-- What symMerge is called with, and what comes of it. -/
def SymOk (w0 : World) (blk off f : Nat) : Prop := ∀ (a m b N : Nat) (w : World), RW w0 blk off N w → a < m → m < b → b ≤ 257 → b - a ≤ f →
  Calls Try.prog 68 #[.slice (some ⟨blk, off, none⟩) 257 257, .int .i64 a, .int .i64 m, .int .i64 b, .func (.func 55) #[] #[]] w fun e w' => e = .returned (.tuple #[]) ∧ RW w0 blk off (sym f a m b N) w'

set_option maxHeartbeats 8000000 in
set_option maxRecDepth 100000 in
theorem symCL (w0 : World) (blk off f : Nat) (IH0 : SymOk w0 blk off f) (a m b mid N : Nat) (w : World) (H : RW w0 blk off N w) (ham : a + 1 < m) (hmb : m + 1 < b) (hb : b ≤ 257) (hf : b - a ≤ f + 1) (hmid : (a + b) / 2 = mid) (hmm : mid < m) :
    Calls Try.prog 68 #[.slice (some ⟨blk, off, none⟩) 257 257, .int .i64 a, .int .i64 m, .int .i64 b, .func (.func 55) #[] #[]] w fun e w' => e = .returned (.tuple #[]) ∧ RW w0 blk off (sym (f + 1) a m b N) w' := by
  have S0 : Aside (RW w0 blk off N w) := H
  have IH := Aside0.mk IH0
  have e1 : ((m : Int) - (a : Int) == 1) = false := beq_eq_false_iff_ne.mpr (by omega)
  have e2 : ((b : Int) - (m : Int) == 1) = false := beq_eq_false_iff_ne.mpr (by omega)
  have zmid : ((a : Int) + (b : Int)) / 2 = (mid : Int) := by omega
  have hm1 : 2 * mid ≤ a + b := by omega
  have hm2 : a + b ≤ 2 * mid + 1 := by omega
  have zmm : (mid : Int) < (m : Int) := by omega
  have zmm' : decide ((m : Int) > (mid : Int)) = true := decide_eq_true (by omega)
  have HMID := Aside0.mk hmid
  clear H IH0 hmid
  go_enter Try.func68, Try.ntmps68
  go_wp2
  go_loopg [20, 21] 300 (fun g1 vi vj wr => ∃ (i j : Nat), vi = .int .i64 i ∧ vj = .int .i64 j ∧ mid + m - b ≤ i ∧ i ≤ j ∧ j ≤ mid ∧ j - i ≤ g1 ∧ Aside (RW w0 blk off N wr) ∧ Hid (bsC N (mid + m - 1) g1 i j = bsC N (mid + m - 1) 300 (mid + m - b) (mid)))
  case atStart => exact ⟨mid + m - b, mid, by first | rfl | (congr 1; omega), by first | rfl | (congr 1; omega), by omega, by omega, by omega, by omega, S0, rfl⟩
  case round =>
    clear S0
    obtain ⟨i, j, rfl, rfl, hai, hij, hjb, hg, S, HI⟩ := hrel
    by_cases hlt : i < j
    · have hlz : (i : Int) < (j : Int) := by omega
      obtain ⟨k, rfl⟩ : ∃ k, gk = k + 1 := ⟨gk - 1, by omega⟩
      obtain ⟨pq, hq⟩ : ∃ q, q = mid + m - 1 - (i + j) / 2 := ⟨_, rfl⟩
      have zq : (mid : Int) + (m : Int) - 1 - ((i : Int) + (j : Int)) / 2 = (pq : Int) := by omega
      have hq1 : pq < 257 := by omega
      have HQ := Aside0.mk hq
      clear hq
      go_wp2
      obtain ⟨iN, hiN⟩ : ∃ q, q = pq := ⟨_, rfl⟩
      obtain ⟨jN, hjN⟩ : ∃ q, q = (i + j) / 2 := ⟨_, rfl⟩
      have ea : ((pq : Int)).toNat = iN := by omega
      have pa : (0 : Int) ≤ (pq : Int) := by omega
      have ba : (pq : Int) < 257 := by omega
      have ra : IntKind.i64.wrap ((pq : Int)) = (pq : Int) := by rw [IntKind.wrap_i64]; omega
      have ec : (((i : Int) + (j : Int)) / 2).toNat = jN := by omega
      have pc : (0 : Int) ≤ ((i : Int) + (j : Int)) / 2 := by omega
      have bc : ((i : Int) + (j : Int)) / 2 < 257 := by omega
      have rc : IntKind.i64.wrap (((i : Int) + (j : Int)) / 2) = ((i : Int) + (j : Int)) / 2 := by rw [IntKind.wrap_i64]; omega
      have hC : ∀ w, Calls Try.prog 55 #[.int .i64 (gt N (pq) : Nat), .int .i64 (gt N ((i + j) / 2) : Nat)] w fun e w' => e = .returned (.int .i64 (cf (gt N (pq)) (gt N ((i + j) / 2)))) ∧ w' = w := fun w => cmp_calls _ _ (S.out.v (pq) (by omega)) (S.out.v ((i + j) / 2) (by omega)) w
      have ca : wr.cell? ⟨blk, off + iN, none⟩ = some (.int .i64 (gt N (pq) : Nat)) := by rw [hiN]; exact S.out.c (pq) (by omega)
      have cb : wr.cell? ⟨blk, off + jN, none⟩ = some (.int .i64 (gt N ((i + j) / 2) : Nat)) := by rw [hjN]; exact S.out.c ((i + j) / 2) (by omega)
      have hl2 : lt (gt N (pq)) (gt N ((i + j) / 2)) = decide (cf (gt N (pq)) (gt N ((i + j) / 2)) < 0) := rfl
      obtain ⟨lv, hlv⟩ : ∃ lv, lv = lt (gt N (pq)) (gt N ((i + j) / 2)) := ⟨_, rfl⟩
      rw [← hlv] at hl2
      have HLV := Aside0.mk hlv
      clear hlv
      have HIN := Aside0.mk hiN
      have HJN := Aside0.mk hjN
      clear hiN hjN
      generalize cf (gt N (pq)) (gt N ((i + j) / 2)) = cv at hC hl2
      obtain ⟨x, hx⟩ : ∃ x, x = gt N (pq) := ⟨_, rfl⟩
      obtain ⟨y, hy⟩ : ∃ y, y = gt N ((i + j) / 2) := ⟨_, rfl⟩
      rw [← hx] at hC ca
      rw [← hy] at hC cb
      clear hx hy
      cases lv with
      | true =>
        have hlt2 : decide (cv < 0) = true := hl2.symm
        have hlt3 : cv < 0 := of_decide_eq_true hlt2
        clear hl2
        go_wp2_with fail
        go_quiet (first | (go_at_call 55; exact (hC _).mono (by rintro e w' ⟨rfl, rfl⟩; exact ⟨rfl, _, rfl⟩)))
        have S2 : Aside (RW w0 blk off N (wr.drewN nq)) := S.out.drewN nq
        clear S ca cb hC
        generalize wr.drewN nq = w2 at S2 ⊢
        clear ea ec pa ba ra pc bc rc
        go_wp2
        go_roundg k
        case measure => omega
        case rel => exact ⟨i, (i + j) / 2, rfl, by first | rfl | go_num | (congr 1; omega), by omega, by omega, by omega, by omega, S2, (show _ = _ from by rw [← HI.out, bsC, if_pos hlt, if_pos (by rw [← HQ.out]; exact HLV.out.symm)])⟩
      | false =>
        have hlt2 : decide (cv < 0) = false := hl2.symm
        have hlt3 : ¬ cv < 0 := of_decide_eq_false hlt2
        clear hl2
        go_wp2_with fail
        go_quiet (first | (go_at_call 55; exact (hC _).mono (by rintro e w' ⟨rfl, rfl⟩; exact ⟨rfl, _, rfl⟩)))
        have S2 : Aside (RW w0 blk off N (wr.drewN nq)) := S.out.drewN nq
        clear S ca cb hC
        generalize wr.drewN nq = w2 at S2 ⊢
        clear ea ec pa ba ra pc bc rc
        go_wp2
        go_roundg k
        case measure => omega
        case rel => exact ⟨(i + j) / 2 + 1, j, by first | rfl | go_num | (congr 1; omega), rfl, by omega, by omega, by omega, by omega, S2, (show _ = _ from by rw [← HI.out, bsC, if_pos hlt, if_neg (by rw [← HQ.out, ← HLV.out]; decide)])⟩
    · have hlz : ¬ (i : Int) < (j : Int) := by omega
      have HE : Aside0 (bsC N (mid + m - 1) 300 (if mid < m then mid + m - b else a) (if mid < m then mid else m) = i) := ⟨by rw [if_pos hmm, if_pos hmm, ← HI.out, bsC_stop _ _ _ _ _ hlt]⟩
      obtain ⟨en, hen⟩ : ∃ en, en = mid + m - i := ⟨_, rfl⟩
      have zen : (mid : Int) + (m : Int) - (i : Int) = (en : Int) := by omega
      have hi1 : a ≤ i := by omega
      have hi2 : i ≤ m := by omega
      have hi3 : i ≤ mid := by omega
      have he1 : m ≤ en := by omega
      have he2 : en ≤ b := by omega
      have he3 : mid ≤ en := by omega
      have HEN := Aside0.mk hen
      clear hen HI hai hij hjb hlt hg
      by_cases g1 : i < m
      · have z1 : (i : Int) < (m : Int) := by omega
        by_cases g2 : m < en
        · have z2 : (m : Int) < (en : Int) := by omega
          by_cases g3 : a < i
          · have z3 : (a : Int) < (i : Int) := by omega
            by_cases g4 : i < mid
            · have z4 : (i : Int) < (mid : Int) := by omega
              by_cases g5 : mid < en
              · have z5 : (mid : Int) < (en : Int) := by omega
                by_cases g6 : en < b
                · have z6 : (en : Int) < (b : Int) := by omega
                  go_wp2_with (first | (go_at_call 73; refine (rotate_calls w0 blk off i m en 600 N _ S.out (by omega) (by omega) (by omega) (by omega)).mono ?_; rintro e w' ⟨rfl, hw⟩; have SS := Aside0.mk hw; clear S hw; have S : Aside (RW w0 blk off (rot m 600 (m - i) (en - m) N) w') := SS.out; clear SS) | (go_at_call 68; refine (IH.out a i mid (rot m 600 (m - i) (en - m) N) _ S.out (by omega) (by omega) (by omega) (by omega)).mono ?_; rintro e w' ⟨rfl, hw⟩; have SS := Aside0.mk hw; clear S hw; have S : Aside (RW w0 blk off (sym f a i mid (rot m 600 (m - i) (en - m) N)) w') := SS.out; clear SS) | (go_at_call 68; refine (IH.out mid en b (sym f a i mid (rot m 600 (m - i) (en - m) N)) _ S.out (by omega) (by omega) (by omega) (by omega)).mono ?_; rintro e w' ⟨rfl, hw⟩; have SS := Aside0.mk hw; clear S hw; have S : Aside (RW w0 blk off (sym f mid en b (sym f a i mid (rot m 600 (m - i) (en - m) N))) w') := SS.out; clear SS))
                  first | go_end0 | refine bodyPost_ret (results_none rfl _ _ _) rfl ?_
                  refine ⟨rfl, ?_⟩
                  have q := sym_eq f a m b N mid i (rot m 600 (m - i) (en - m) N) (sym f a i mid (rot m 600 (m - i) (en - m) N)) (by omega) (by omega) HMID.out HE.out (by rw [← HEN.out]; exact if_pos ⟨g1, g2⟩) (if_pos ⟨g3, g4⟩)
                  rw [← HEN.out] at q
                  rw [q, if_pos ⟨g5, g6⟩]
                  exact S.out
                · have z6 : ¬ (en : Int) < (b : Int) := by omega
                  have gN3 : ¬ (mid < en ∧ en < b) := fun q => g6 q.2
                  go_wp2_with (first | (go_at_call 73; refine (rotate_calls w0 blk off i m en 600 N _ S.out (by omega) (by omega) (by omega) (by omega)).mono ?_; rintro e w' ⟨rfl, hw⟩; have SS := Aside0.mk hw; clear S hw; have S : Aside (RW w0 blk off (rot m 600 (m - i) (en - m) N) w') := SS.out; clear SS) | (go_at_call 68; refine (IH.out a i mid (rot m 600 (m - i) (en - m) N) _ S.out (by omega) (by omega) (by omega) (by omega)).mono ?_; rintro e w' ⟨rfl, hw⟩; have SS := Aside0.mk hw; clear S hw; have S : Aside (RW w0 blk off (sym f a i mid (rot m 600 (m - i) (en - m) N)) w') := SS.out; clear SS))
                  first | go_end0 | refine bodyPost_ret (results_none rfl _ _ _) rfl ?_
                  refine ⟨rfl, ?_⟩
                  have q := sym_eq f a m b N mid i (rot m 600 (m - i) (en - m) N) (sym f a i mid (rot m 600 (m - i) (en - m) N)) (by omega) (by omega) HMID.out HE.out (by rw [← HEN.out]; exact if_pos ⟨g1, g2⟩) (if_pos ⟨g3, g4⟩)
                  rw [← HEN.out] at q
                  rw [q, if_neg gN3]
                  exact S.out
              · have z5 : ¬ (mid : Int) < (en : Int) := by omega
                have gN3 : ¬ (mid < en ∧ en < b) := fun q => g5 q.1
                go_wp2_with (first | (go_at_call 73; refine (rotate_calls w0 blk off i m en 600 N _ S.out (by omega) (by omega) (by omega) (by omega)).mono ?_; rintro e w' ⟨rfl, hw⟩; have SS := Aside0.mk hw; clear S hw; have S : Aside (RW w0 blk off (rot m 600 (m - i) (en - m) N) w') := SS.out; clear SS) | (go_at_call 68; refine (IH.out a i mid (rot m 600 (m - i) (en - m) N) _ S.out (by omega) (by omega) (by omega) (by omega)).mono ?_; rintro e w' ⟨rfl, hw⟩; have SS := Aside0.mk hw; clear S hw; have S : Aside (RW w0 blk off (sym f a i mid (rot m 600 (m - i) (en - m) N)) w') := SS.out; clear SS))
                first | go_end0 | refine bodyPost_ret (results_none rfl _ _ _) rfl ?_
                refine ⟨rfl, ?_⟩
                have q := sym_eq f a m b N mid i (rot m 600 (m - i) (en - m) N) (sym f a i mid (rot m 600 (m - i) (en - m) N)) (by omega) (by omega) HMID.out HE.out (by rw [← HEN.out]; exact if_pos ⟨g1, g2⟩) (if_pos ⟨g3, g4⟩)
                rw [← HEN.out] at q
                rw [q, if_neg gN3]
                exact S.out
            · have z4 : ¬ (i : Int) < (mid : Int) := by omega
              have gN2 : ¬ (a < i ∧ i < mid) := fun q => g4 q.2
              by_cases g5 : mid < en
              · have z5 : (mid : Int) < (en : Int) := by omega
                by_cases g6 : en < b
                · have z6 : (en : Int) < (b : Int) := by omega
                  go_wp2_with (first | (go_at_call 73; refine (rotate_calls w0 blk off i m en 600 N _ S.out (by omega) (by omega) (by omega) (by omega)).mono ?_; rintro e w' ⟨rfl, hw⟩; have SS := Aside0.mk hw; clear S hw; have S : Aside (RW w0 blk off (rot m 600 (m - i) (en - m) N) w') := SS.out; clear SS) | (go_at_call 68; refine (IH.out mid en b (rot m 600 (m - i) (en - m) N) _ S.out (by omega) (by omega) (by omega) (by omega)).mono ?_; rintro e w' ⟨rfl, hw⟩; have SS := Aside0.mk hw; clear S hw; have S : Aside (RW w0 blk off (sym f mid en b (rot m 600 (m - i) (en - m) N)) w') := SS.out; clear SS))
                  first | go_end0 | refine bodyPost_ret (results_none rfl _ _ _) rfl ?_
                  refine ⟨rfl, ?_⟩
                  have q := sym_eq f a m b N mid i (rot m 600 (m - i) (en - m) N) (rot m 600 (m - i) (en - m) N) (by omega) (by omega) HMID.out HE.out (by rw [← HEN.out]; exact if_pos ⟨g1, g2⟩) (if_neg gN2)
                  rw [← HEN.out] at q
                  rw [q, if_pos ⟨g5, g6⟩]
                  exact S.out
                · have z6 : ¬ (en : Int) < (b : Int) := by omega
                  have gN3 : ¬ (mid < en ∧ en < b) := fun q => g6 q.2
                  go_wp2_with (first | (go_at_call 73; refine (rotate_calls w0 blk off i m en 600 N _ S.out (by omega) (by omega) (by omega) (by omega)).mono ?_; rintro e w' ⟨rfl, hw⟩; have SS := Aside0.mk hw; clear S hw; have S : Aside (RW w0 blk off (rot m 600 (m - i) (en - m) N) w') := SS.out; clear SS))
                  first | go_end0 | refine bodyPost_ret (results_none rfl _ _ _) rfl ?_
                  refine ⟨rfl, ?_⟩
                  have q := sym_eq f a m b N mid i (rot m 600 (m - i) (en - m) N) (rot m 600 (m - i) (en - m) N) (by omega) (by omega) HMID.out HE.out (by rw [← HEN.out]; exact if_pos ⟨g1, g2⟩) (if_neg gN2)
                  rw [← HEN.out] at q
                  rw [q, if_neg gN3]
                  exact S.out
              · have z5 : ¬ (mid : Int) < (en : Int) := by omega
                have gN3 : ¬ (mid < en ∧ en < b) := fun q => g5 q.1
                go_wp2_with (first | (go_at_call 73; refine (rotate_calls w0 blk off i m en 600 N _ S.out (by omega) (by omega) (by omega) (by omega)).mono ?_; rintro e w' ⟨rfl, hw⟩; have SS := Aside0.mk hw; clear S hw; have S : Aside (RW w0 blk off (rot m 600 (m - i) (en - m) N) w') := SS.out; clear SS))
                first | go_end0 | refine bodyPost_ret (results_none rfl _ _ _) rfl ?_
                refine ⟨rfl, ?_⟩
                have q := sym_eq f a m b N mid i (rot m 600 (m - i) (en - m) N) (rot m 600 (m - i) (en - m) N) (by omega) (by omega) HMID.out HE.out (by rw [← HEN.out]; exact if_pos ⟨g1, g2⟩) (if_neg gN2)
                rw [← HEN.out] at q
                rw [q, if_neg gN3]
                exact S.out
          · have z3 : ¬ (a : Int) < (i : Int) := by omega
            have gN2 : ¬ (a < i ∧ i < mid) := fun q => g3 q.1
            by_cases g5 : mid < en
            · have z5 : (mid : Int) < (en : Int) := by omega
              by_cases g6 : en < b
              · have z6 : (en : Int) < (b : Int) := by omega
                go_wp2_with (first | (go_at_call 73; refine (rotate_calls w0 blk off i m en 600 N _ S.out (by omega) (by omega) (by omega) (by omega)).mono ?_; rintro e w' ⟨rfl, hw⟩; have SS := Aside0.mk hw; clear S hw; have S : Aside (RW w0 blk off (rot m 600 (m - i) (en - m) N) w') := SS.out; clear SS) | (go_at_call 68; refine (IH.out mid en b (rot m 600 (m - i) (en - m) N) _ S.out (by omega) (by omega) (by omega) (by omega)).mono ?_; rintro e w' ⟨rfl, hw⟩; have SS := Aside0.mk hw; clear S hw; have S : Aside (RW w0 blk off (sym f mid en b (rot m 600 (m - i) (en - m) N)) w') := SS.out; clear SS))
                first | go_end0 | refine bodyPost_ret (results_none rfl _ _ _) rfl ?_
                refine ⟨rfl, ?_⟩
                have q := sym_eq f a m b N mid i (rot m 600 (m - i) (en - m) N) (rot m 600 (m - i) (en - m) N) (by omega) (by omega) HMID.out HE.out (by rw [← HEN.out]; exact if_pos ⟨g1, g2⟩) (if_neg gN2)
                rw [← HEN.out] at q
                rw [q, if_pos ⟨g5, g6⟩]
                exact S.out
              · have z6 : ¬ (en : Int) < (b : Int) := by omega
                have gN3 : ¬ (mid < en ∧ en < b) := fun q => g6 q.2
                go_wp2_with (first | (go_at_call 73; refine (rotate_calls w0 blk off i m en 600 N _ S.out (by omega) (by omega) (by omega) (by omega)).mono ?_; rintro e w' ⟨rfl, hw⟩; have SS := Aside0.mk hw; clear S hw; have S : Aside (RW w0 blk off (rot m 600 (m - i) (en - m) N) w') := SS.out; clear SS))
                first | go_end0 | refine bodyPost_ret (results_none rfl _ _ _) rfl ?_
                refine ⟨rfl, ?_⟩
                have q := sym_eq f a m b N mid i (rot m 600 (m - i) (en - m) N) (rot m 600 (m - i) (en - m) N) (by omega) (by omega) HMID.out HE.out (by rw [← HEN.out]; exact if_pos ⟨g1, g2⟩) (if_neg gN2)
                rw [← HEN.out] at q
                rw [q, if_neg gN3]
                exact S.out
            · have z5 : ¬ (mid : Int) < (en : Int) := by omega
              have gN3 : ¬ (mid < en ∧ en < b) := fun q => g5 q.1
              go_wp2_with (first | (go_at_call 73; refine (rotate_calls w0 blk off i m en 600 N _ S.out (by omega) (by omega) (by omega) (by omega)).mono ?_; rintro e w' ⟨rfl, hw⟩; have SS := Aside0.mk hw; clear S hw; have S : Aside (RW w0 blk off (rot m 600 (m - i) (en - m) N) w') := SS.out; clear SS))
              first | go_end0 | refine bodyPost_ret (results_none rfl _ _ _) rfl ?_
              refine ⟨rfl, ?_⟩
              have q := sym_eq f a m b N mid i (rot m 600 (m - i) (en - m) N) (rot m 600 (m - i) (en - m) N) (by omega) (by omega) HMID.out HE.out (by rw [← HEN.out]; exact if_pos ⟨g1, g2⟩) (if_neg gN2)
              rw [← HEN.out] at q
              rw [q, if_neg gN3]
              exact S.out
        · have z2 : ¬ (m : Int) < (en : Int) := by omega
          have gN1 : ¬ (i < m ∧ m < en) := fun q => g2 q.2
          by_cases g3 : a < i
          · have z3 : (a : Int) < (i : Int) := by omega
            by_cases g4 : i < mid
            · have z4 : (i : Int) < (mid : Int) := by omega
              by_cases g5 : mid < en
              · have z5 : (mid : Int) < (en : Int) := by omega
                by_cases g6 : en < b
                · have z6 : (en : Int) < (b : Int) := by omega
                  go_wp2_with (first | (go_at_call 68; refine (IH.out a i mid N _ S.out (by omega) (by omega) (by omega) (by omega)).mono ?_; rintro e w' ⟨rfl, hw⟩; have SS := Aside0.mk hw; clear S hw; have S : Aside (RW w0 blk off (sym f a i mid N) w') := SS.out; clear SS) | (go_at_call 68; refine (IH.out mid en b (sym f a i mid N) _ S.out (by omega) (by omega) (by omega) (by omega)).mono ?_; rintro e w' ⟨rfl, hw⟩; have SS := Aside0.mk hw; clear S hw; have S : Aside (RW w0 blk off (sym f mid en b (sym f a i mid N)) w') := SS.out; clear SS))
                  first | go_end0 | refine bodyPost_ret (results_none rfl _ _ _) rfl ?_
                  refine ⟨rfl, ?_⟩
                  have q := sym_eq f a m b N mid i N (sym f a i mid N) (by omega) (by omega) HMID.out HE.out (by rw [← HEN.out]; exact if_neg gN1) (if_pos ⟨g3, g4⟩)
                  rw [← HEN.out] at q
                  rw [q, if_pos ⟨g5, g6⟩]
                  exact S.out
                · have z6 : ¬ (en : Int) < (b : Int) := by omega
                  have gN3 : ¬ (mid < en ∧ en < b) := fun q => g6 q.2
                  go_wp2_with (first | (go_at_call 68; refine (IH.out a i mid N _ S.out (by omega) (by omega) (by omega) (by omega)).mono ?_; rintro e w' ⟨rfl, hw⟩; have SS := Aside0.mk hw; clear S hw; have S : Aside (RW w0 blk off (sym f a i mid N) w') := SS.out; clear SS))
                  first | go_end0 | refine bodyPost_ret (results_none rfl _ _ _) rfl ?_
                  refine ⟨rfl, ?_⟩
                  have q := sym_eq f a m b N mid i N (sym f a i mid N) (by omega) (by omega) HMID.out HE.out (by rw [← HEN.out]; exact if_neg gN1) (if_pos ⟨g3, g4⟩)
                  rw [← HEN.out] at q
                  rw [q, if_neg gN3]
                  exact S.out
              · have z5 : ¬ (mid : Int) < (en : Int) := by omega
                have gN3 : ¬ (mid < en ∧ en < b) := fun q => g5 q.1
                go_wp2_with (first | (go_at_call 68; refine (IH.out a i mid N _ S.out (by omega) (by omega) (by omega) (by omega)).mono ?_; rintro e w' ⟨rfl, hw⟩; have SS := Aside0.mk hw; clear S hw; have S : Aside (RW w0 blk off (sym f a i mid N) w') := SS.out; clear SS))
                first | go_end0 | refine bodyPost_ret (results_none rfl _ _ _) rfl ?_
                refine ⟨rfl, ?_⟩
                have q := sym_eq f a m b N mid i N (sym f a i mid N) (by omega) (by omega) HMID.out HE.out (by rw [← HEN.out]; exact if_neg gN1) (if_pos ⟨g3, g4⟩)
                rw [← HEN.out] at q
                rw [q, if_neg gN3]
                exact S.out
            · have z4 : ¬ (i : Int) < (mid : Int) := by omega
              have gN2 : ¬ (a < i ∧ i < mid) := fun q => g4 q.2
              by_cases g5 : mid < en
              · have z5 : (mid : Int) < (en : Int) := by omega
                by_cases g6 : en < b
                · have z6 : (en : Int) < (b : Int) := by omega
                  go_wp2_with (first | (go_at_call 68; refine (IH.out mid en b N _ S.out (by omega) (by omega) (by omega) (by omega)).mono ?_; rintro e w' ⟨rfl, hw⟩; have SS := Aside0.mk hw; clear S hw; have S : Aside (RW w0 blk off (sym f mid en b N) w') := SS.out; clear SS))
                  first | go_end0 | refine bodyPost_ret (results_none rfl _ _ _) rfl ?_
                  refine ⟨rfl, ?_⟩
                  have q := sym_eq f a m b N mid i N N (by omega) (by omega) HMID.out HE.out (by rw [← HEN.out]; exact if_neg gN1) (if_neg gN2)
                  rw [← HEN.out] at q
                  rw [q, if_pos ⟨g5, g6⟩]
                  exact S.out
                · have z6 : ¬ (en : Int) < (b : Int) := by omega
                  have gN3 : ¬ (mid < en ∧ en < b) := fun q => g6 q.2
                  go_wp2
                  first | go_end0 | refine bodyPost_ret (results_none rfl _ _ _) rfl ?_
                  refine ⟨rfl, ?_⟩
                  have q := sym_eq f a m b N mid i N N (by omega) (by omega) HMID.out HE.out (by rw [← HEN.out]; exact if_neg gN1) (if_neg gN2)
                  rw [← HEN.out] at q
                  rw [q, if_neg gN3]
                  exact S.out
              · have z5 : ¬ (mid : Int) < (en : Int) := by omega
                have gN3 : ¬ (mid < en ∧ en < b) := fun q => g5 q.1
                go_wp2
                first | go_end0 | refine bodyPost_ret (results_none rfl _ _ _) rfl ?_
                refine ⟨rfl, ?_⟩
                have q := sym_eq f a m b N mid i N N (by omega) (by omega) HMID.out HE.out (by rw [← HEN.out]; exact if_neg gN1) (if_neg gN2)
                rw [← HEN.out] at q
                rw [q, if_neg gN3]
                exact S.out
          · have z3 : ¬ (a : Int) < (i : Int) := by omega
            have gN2 : ¬ (a < i ∧ i < mid) := fun q => g3 q.1
            by_cases g5 : mid < en
            · have z5 : (mid : Int) < (en : Int) := by omega
              by_cases g6 : en < b
              · have z6 : (en : Int) < (b : Int) := by omega
                go_wp2_with (first | (go_at_call 68; refine (IH.out mid en b N _ S.out (by omega) (by omega) (by omega) (by omega)).mono ?_; rintro e w' ⟨rfl, hw⟩; have SS := Aside0.mk hw; clear S hw; have S : Aside (RW w0 blk off (sym f mid en b N) w') := SS.out; clear SS))
                first | go_end0 | refine bodyPost_ret (results_none rfl _ _ _) rfl ?_
                refine ⟨rfl, ?_⟩
                have q := sym_eq f a m b N mid i N N (by omega) (by omega) HMID.out HE.out (by rw [← HEN.out]; exact if_neg gN1) (if_neg gN2)
                rw [← HEN.out] at q
                rw [q, if_pos ⟨g5, g6⟩]
                exact S.out
              · have z6 : ¬ (en : Int) < (b : Int) := by omega
                have gN3 : ¬ (mid < en ∧ en < b) := fun q => g6 q.2
                go_wp2
                first | go_end0 | refine bodyPost_ret (results_none rfl _ _ _) rfl ?_
                refine ⟨rfl, ?_⟩
                have q := sym_eq f a m b N mid i N N (by omega) (by omega) HMID.out HE.out (by rw [← HEN.out]; exact if_neg gN1) (if_neg gN2)
                rw [← HEN.out] at q
                rw [q, if_neg gN3]
                exact S.out
            · have z5 : ¬ (mid : Int) < (en : Int) := by omega
              have gN3 : ¬ (mid < en ∧ en < b) := fun q => g5 q.1
              go_wp2
              first | go_end0 | refine bodyPost_ret (results_none rfl _ _ _) rfl ?_
              refine ⟨rfl, ?_⟩
              have q := sym_eq f a m b N mid i N N (by omega) (by omega) HMID.out HE.out (by rw [← HEN.out]; exact if_neg gN1) (if_neg gN2)
              rw [← HEN.out] at q
              rw [q, if_neg gN3]
              exact S.out
      · have z1 : ¬ (i : Int) < (m : Int) := by omega
        have gN1 : ¬ (i < m ∧ m < en) := fun q => g1 q.1
        by_cases g3 : a < i
        · have z3 : (a : Int) < (i : Int) := by omega
          by_cases g4 : i < mid
          · have z4 : (i : Int) < (mid : Int) := by omega
            by_cases g5 : mid < en
            · have z5 : (mid : Int) < (en : Int) := by omega
              by_cases g6 : en < b
              · have z6 : (en : Int) < (b : Int) := by omega
                go_wp2_with (first | (go_at_call 68; refine (IH.out a i mid N _ S.out (by omega) (by omega) (by omega) (by omega)).mono ?_; rintro e w' ⟨rfl, hw⟩; have SS := Aside0.mk hw; clear S hw; have S : Aside (RW w0 blk off (sym f a i mid N) w') := SS.out; clear SS) | (go_at_call 68; refine (IH.out mid en b (sym f a i mid N) _ S.out (by omega) (by omega) (by omega) (by omega)).mono ?_; rintro e w' ⟨rfl, hw⟩; have SS := Aside0.mk hw; clear S hw; have S : Aside (RW w0 blk off (sym f mid en b (sym f a i mid N)) w') := SS.out; clear SS))
                first | go_end0 | refine bodyPost_ret (results_none rfl _ _ _) rfl ?_
                refine ⟨rfl, ?_⟩
                have q := sym_eq f a m b N mid i N (sym f a i mid N) (by omega) (by omega) HMID.out HE.out (by rw [← HEN.out]; exact if_neg gN1) (if_pos ⟨g3, g4⟩)
                rw [← HEN.out] at q
                rw [q, if_pos ⟨g5, g6⟩]
                exact S.out
              · have z6 : ¬ (en : Int) < (b : Int) := by omega
                have gN3 : ¬ (mid < en ∧ en < b) := fun q => g6 q.2
                go_wp2_with (first | (go_at_call 68; refine (IH.out a i mid N _ S.out (by omega) (by omega) (by omega) (by omega)).mono ?_; rintro e w' ⟨rfl, hw⟩; have SS := Aside0.mk hw; clear S hw; have S : Aside (RW w0 blk off (sym f a i mid N) w') := SS.out; clear SS))
                first | go_end0 | refine bodyPost_ret (results_none rfl _ _ _) rfl ?_
                refine ⟨rfl, ?_⟩
                have q := sym_eq f a m b N mid i N (sym f a i mid N) (by omega) (by omega) HMID.out HE.out (by rw [← HEN.out]; exact if_neg gN1) (if_pos ⟨g3, g4⟩)
                rw [← HEN.out] at q
                rw [q, if_neg gN3]
                exact S.out
            · have z5 : ¬ (mid : Int) < (en : Int) := by omega
              have gN3 : ¬ (mid < en ∧ en < b) := fun q => g5 q.1
              go_wp2_with (first | (go_at_call 68; refine (IH.out a i mid N _ S.out (by omega) (by omega) (by omega) (by omega)).mono ?_; rintro e w' ⟨rfl, hw⟩; have SS := Aside0.mk hw; clear S hw; have S : Aside (RW w0 blk off (sym f a i mid N) w') := SS.out; clear SS))
              first | go_end0 | refine bodyPost_ret (results_none rfl _ _ _) rfl ?_
              refine ⟨rfl, ?_⟩
              have q := sym_eq f a m b N mid i N (sym f a i mid N) (by omega) (by omega) HMID.out HE.out (by rw [← HEN.out]; exact if_neg gN1) (if_pos ⟨g3, g4⟩)
              rw [← HEN.out] at q
              rw [q, if_neg gN3]
              exact S.out
          · have z4 : ¬ (i : Int) < (mid : Int) := by omega
            have gN2 : ¬ (a < i ∧ i < mid) := fun q => g4 q.2
            by_cases g5 : mid < en
            · have z5 : (mid : Int) < (en : Int) := by omega
              by_cases g6 : en < b
              · have z6 : (en : Int) < (b : Int) := by omega
                go_wp2_with (first | (go_at_call 68; refine (IH.out mid en b N _ S.out (by omega) (by omega) (by omega) (by omega)).mono ?_; rintro e w' ⟨rfl, hw⟩; have SS := Aside0.mk hw; clear S hw; have S : Aside (RW w0 blk off (sym f mid en b N) w') := SS.out; clear SS))
                first | go_end0 | refine bodyPost_ret (results_none rfl _ _ _) rfl ?_
                refine ⟨rfl, ?_⟩
                have q := sym_eq f a m b N mid i N N (by omega) (by omega) HMID.out HE.out (by rw [← HEN.out]; exact if_neg gN1) (if_neg gN2)
                rw [← HEN.out] at q
                rw [q, if_pos ⟨g5, g6⟩]
                exact S.out
              · have z6 : ¬ (en : Int) < (b : Int) := by omega
                have gN3 : ¬ (mid < en ∧ en < b) := fun q => g6 q.2
                go_wp2
                first | go_end0 | refine bodyPost_ret (results_none rfl _ _ _) rfl ?_
                refine ⟨rfl, ?_⟩
                have q := sym_eq f a m b N mid i N N (by omega) (by omega) HMID.out HE.out (by rw [← HEN.out]; exact if_neg gN1) (if_neg gN2)
                rw [← HEN.out] at q
                rw [q, if_neg gN3]
                exact S.out
            · have z5 : ¬ (mid : Int) < (en : Int) := by omega
              have gN3 : ¬ (mid < en ∧ en < b) := fun q => g5 q.1
              go_wp2
              first | go_end0 | refine bodyPost_ret (results_none rfl _ _ _) rfl ?_
              refine ⟨rfl, ?_⟩
              have q := sym_eq f a m b N mid i N N (by omega) (by omega) HMID.out HE.out (by rw [← HEN.out]; exact if_neg gN1) (if_neg gN2)
              rw [← HEN.out] at q
              rw [q, if_neg gN3]
              exact S.out
        · have z3 : ¬ (a : Int) < (i : Int) := by omega
          have gN2 : ¬ (a < i ∧ i < mid) := fun q => g3 q.1
          by_cases g5 : mid < en
          · have z5 : (mid : Int) < (en : Int) := by omega
            by_cases g6 : en < b
            · have z6 : (en : Int) < (b : Int) := by omega
              go_wp2_with (first | (go_at_call 68; refine (IH.out mid en b N _ S.out (by omega) (by omega) (by omega) (by omega)).mono ?_; rintro e w' ⟨rfl, hw⟩; have SS := Aside0.mk hw; clear S hw; have S : Aside (RW w0 blk off (sym f mid en b N) w') := SS.out; clear SS))
              first | go_end0 | refine bodyPost_ret (results_none rfl _ _ _) rfl ?_
              refine ⟨rfl, ?_⟩
              have q := sym_eq f a m b N mid i N N (by omega) (by omega) HMID.out HE.out (by rw [← HEN.out]; exact if_neg gN1) (if_neg gN2)
              rw [← HEN.out] at q
              rw [q, if_pos ⟨g5, g6⟩]
              exact S.out
            · have z6 : ¬ (en : Int) < (b : Int) := by omega
              have gN3 : ¬ (mid < en ∧ en < b) := fun q => g6 q.2
              go_wp2
              first | go_end0 | refine bodyPost_ret (results_none rfl _ _ _) rfl ?_
              refine ⟨rfl, ?_⟩
              have q := sym_eq f a m b N mid i N N (by omega) (by omega) HMID.out HE.out (by rw [← HEN.out]; exact if_neg gN1) (if_neg gN2)
              rw [← HEN.out] at q
              rw [q, if_neg gN3]
              exact S.out
          · have z5 : ¬ (mid : Int) < (en : Int) := by omega
            have gN3 : ¬ (mid < en ∧ en < b) := fun q => g5 q.1
            go_wp2
            first | go_end0 | refine bodyPost_ret (results_none rfl _ _ _) rfl ?_
            refine ⟨rfl, ?_⟩
            have q := sym_eq f a m b N mid i N N (by omega) (by omega) HMID.out HE.out (by rw [← HEN.out]; exact if_neg gN1) (if_neg gN2)
            rw [← HEN.out] at q
            rw [q, if_neg gN3]
            exact S.out

set_option maxHeartbeats 8000000 in
set_option maxRecDepth 100000 in
theorem symCR (w0 : World) (blk off f : Nat) (IH0 : SymOk w0 blk off f) (a m b mid N : Nat) (w : World) (H : RW w0 blk off N w) (ham : a + 1 < m) (hmb : m + 1 < b) (hb : b ≤ 257) (hf : b - a ≤ f + 1) (hmid : (a + b) / 2 = mid) (hmm : ¬ mid < m) :
    Calls Try.prog 68 #[.slice (some ⟨blk, off, none⟩) 257 257, .int .i64 a, .int .i64 m, .int .i64 b, .func (.func 55) #[] #[]] w fun e w' => e = .returned (.tuple #[]) ∧ RW w0 blk off (sym (f + 1) a m b N) w' := by
  have S0 : Aside (RW w0 blk off N w) := H
  have IH := Aside0.mk IH0
  have e1 : ((m : Int) - (a : Int) == 1) = false := beq_eq_false_iff_ne.mpr (by omega)
  have e2 : ((b : Int) - (m : Int) == 1) = false := beq_eq_false_iff_ne.mpr (by omega)
  have zmid : ((a : Int) + (b : Int)) / 2 = (mid : Int) := by omega
  have hm1 : 2 * mid ≤ a + b := by omega
  have hm2 : a + b ≤ 2 * mid + 1 := by omega
  have zmm : ¬ (mid : Int) < (m : Int) := by omega
  have zmm' : decide ((m : Int) > (mid : Int)) = false := decide_eq_false (by omega)
  have HMID := Aside0.mk hmid
  clear H IH0 hmid
  go_enter Try.func68, Try.ntmps68
  go_wp2
  go_loopg [20, 21] 300 (fun g1 vi vj wr => ∃ (i j : Nat), vi = .int .i64 i ∧ vj = .int .i64 j ∧ a ≤ i ∧ i ≤ j ∧ j ≤ m ∧ j - i ≤ g1 ∧ Aside (RW w0 blk off N wr) ∧ Hid (bsC N (mid + m - 1) g1 i j = bsC N (mid + m - 1) 300 (a) (m)))
  case atStart => exact ⟨a, m, by first | rfl | (congr 1; omega), by first | rfl | (congr 1; omega), by omega, by omega, by omega, by omega, S0, rfl⟩
  case round =>
    clear S0
    obtain ⟨i, j, rfl, rfl, hai, hij, hjb, hg, S, HI⟩ := hrel
    by_cases hlt : i < j
    · have hlz : (i : Int) < (j : Int) := by omega
      obtain ⟨k, rfl⟩ : ∃ k, gk = k + 1 := ⟨gk - 1, by omega⟩
      obtain ⟨pq, hq⟩ : ∃ q, q = mid + m - 1 - (i + j) / 2 := ⟨_, rfl⟩
      have zq : (mid : Int) + (m : Int) - 1 - ((i : Int) + (j : Int)) / 2 = (pq : Int) := by omega
      have hq1 : pq < 257 := by omega
      have HQ := Aside0.mk hq
      clear hq
      go_wp2
      obtain ⟨iN, hiN⟩ : ∃ q, q = pq := ⟨_, rfl⟩
      obtain ⟨jN, hjN⟩ : ∃ q, q = (i + j) / 2 := ⟨_, rfl⟩
      have ea : ((pq : Int)).toNat = iN := by omega
      have pa : (0 : Int) ≤ (pq : Int) := by omega
      have ba : (pq : Int) < 257 := by omega
      have ra : IntKind.i64.wrap ((pq : Int)) = (pq : Int) := by rw [IntKind.wrap_i64]; omega
      have ec : (((i : Int) + (j : Int)) / 2).toNat = jN := by omega
      have pc : (0 : Int) ≤ ((i : Int) + (j : Int)) / 2 := by omega
      have bc : ((i : Int) + (j : Int)) / 2 < 257 := by omega
      have rc : IntKind.i64.wrap (((i : Int) + (j : Int)) / 2) = ((i : Int) + (j : Int)) / 2 := by rw [IntKind.wrap_i64]; omega
      have hC : ∀ w, Calls Try.prog 55 #[.int .i64 (gt N (pq) : Nat), .int .i64 (gt N ((i + j) / 2) : Nat)] w fun e w' => e = .returned (.int .i64 (cf (gt N (pq)) (gt N ((i + j) / 2)))) ∧ w' = w := fun w => cmp_calls _ _ (S.out.v (pq) (by omega)) (S.out.v ((i + j) / 2) (by omega)) w
      have ca : wr.cell? ⟨blk, off + iN, none⟩ = some (.int .i64 (gt N (pq) : Nat)) := by rw [hiN]; exact S.out.c (pq) (by omega)
      have cb : wr.cell? ⟨blk, off + jN, none⟩ = some (.int .i64 (gt N ((i + j) / 2) : Nat)) := by rw [hjN]; exact S.out.c ((i + j) / 2) (by omega)
      have hl2 : lt (gt N (pq)) (gt N ((i + j) / 2)) = decide (cf (gt N (pq)) (gt N ((i + j) / 2)) < 0) := rfl
      obtain ⟨lv, hlv⟩ : ∃ lv, lv = lt (gt N (pq)) (gt N ((i + j) / 2)) := ⟨_, rfl⟩
      rw [← hlv] at hl2
      have HLV := Aside0.mk hlv
      clear hlv
      have HIN := Aside0.mk hiN
      have HJN := Aside0.mk hjN
      clear hiN hjN
      generalize cf (gt N (pq)) (gt N ((i + j) / 2)) = cv at hC hl2
      obtain ⟨x, hx⟩ : ∃ x, x = gt N (pq) := ⟨_, rfl⟩
      obtain ⟨y, hy⟩ : ∃ y, y = gt N ((i + j) / 2) := ⟨_, rfl⟩
      rw [← hx] at hC ca
      rw [← hy] at hC cb
      clear hx hy
      cases lv with
      | true =>
        have hlt2 : decide (cv < 0) = true := hl2.symm
        have hlt3 : cv < 0 := of_decide_eq_true hlt2
        clear hl2
        go_wp2_with fail
        go_quiet (first | (go_at_call 55; exact (hC _).mono (by rintro e w' ⟨rfl, rfl⟩; exact ⟨rfl, _, rfl⟩)))
        have S2 : Aside (RW w0 blk off N (wr.drewN nq)) := S.out.drewN nq
        clear S ca cb hC
        generalize wr.drewN nq = w2 at S2 ⊢
        clear ea ec pa ba ra pc bc rc
        go_wp2
        go_roundg k
        case measure => omega
        case rel => exact ⟨i, (i + j) / 2, rfl, by first | rfl | go_num | (congr 1; omega), by omega, by omega, by omega, by omega, S2, (show _ = _ from by rw [← HI.out, bsC, if_pos hlt, if_pos (by rw [← HQ.out]; exact HLV.out.symm)])⟩
      | false =>
        have hlt2 : decide (cv < 0) = false := hl2.symm
        have hlt3 : ¬ cv < 0 := of_decide_eq_false hlt2
        clear hl2
        go_wp2_with fail
        go_quiet (first | (go_at_call 55; exact (hC _).mono (by rintro e w' ⟨rfl, rfl⟩; exact ⟨rfl, _, rfl⟩)))
        have S2 : Aside (RW w0 blk off N (wr.drewN nq)) := S.out.drewN nq
        clear S ca cb hC
        generalize wr.drewN nq = w2 at S2 ⊢
        clear ea ec pa ba ra pc bc rc
        go_wp2
        go_roundg k
        case measure => omega
        case rel => exact ⟨(i + j) / 2 + 1, j, by first | rfl | go_num | (congr 1; omega), rfl, by omega, by omega, by omega, by omega, S2, (show _ = _ from by rw [← HI.out, bsC, if_pos hlt, if_neg (by rw [← HQ.out, ← HLV.out]; decide)])⟩
    · have hlz : ¬ (i : Int) < (j : Int) := by omega
      have HE : Aside0 (bsC N (mid + m - 1) 300 (if mid < m then mid + m - b else a) (if mid < m then mid else m) = i) := ⟨by rw [if_neg hmm, if_neg hmm, ← HI.out, bsC_stop _ _ _ _ _ hlt]⟩
      obtain ⟨en, hen⟩ : ∃ en, en = mid + m - i := ⟨_, rfl⟩
      have zen : (mid : Int) + (m : Int) - (i : Int) = (en : Int) := by omega
      have hi1 : a ≤ i := by omega
      have hi2 : i ≤ m := by omega
      have hi3 : i ≤ mid := by omega
      have he1 : m ≤ en := by omega
      have he2 : en ≤ b := by omega
      have he3 : mid ≤ en := by omega
      have HEN := Aside0.mk hen
      clear hen HI hai hij hjb hlt hg
      by_cases g1 : i < m
      · have z1 : (i : Int) < (m : Int) := by omega
        by_cases g2 : m < en
        · have z2 : (m : Int) < (en : Int) := by omega
          by_cases g3 : a < i
          · have z3 : (a : Int) < (i : Int) := by omega
            by_cases g4 : i < mid
            · have z4 : (i : Int) < (mid : Int) := by omega
              by_cases g5 : mid < en
              · have z5 : (mid : Int) < (en : Int) := by omega
                by_cases g6 : en < b
                · have z6 : (en : Int) < (b : Int) := by omega
                  go_wp2_with (first | (go_at_call 73; refine (rotate_calls w0 blk off i m en 600 N _ S.out (by omega) (by omega) (by omega) (by omega)).mono ?_; rintro e w' ⟨rfl, hw⟩; have SS := Aside0.mk hw; clear S hw; have S : Aside (RW w0 blk off (rot m 600 (m - i) (en - m) N) w') := SS.out; clear SS) | (go_at_call 68; refine (IH.out a i mid (rot m 600 (m - i) (en - m) N) _ S.out (by omega) (by omega) (by omega) (by omega)).mono ?_; rintro e w' ⟨rfl, hw⟩; have SS := Aside0.mk hw; clear S hw; have S : Aside (RW w0 blk off (sym f a i mid (rot m 600 (m - i) (en - m) N)) w') := SS.out; clear SS) | (go_at_call 68; refine (IH.out mid en b (sym f a i mid (rot m 600 (m - i) (en - m) N)) _ S.out (by omega) (by omega) (by omega) (by omega)).mono ?_; rintro e w' ⟨rfl, hw⟩; have SS := Aside0.mk hw; clear S hw; have S : Aside (RW w0 blk off (sym f mid en b (sym f a i mid (rot m 600 (m - i) (en - m) N))) w') := SS.out; clear SS))
                  first | go_end0 | refine bodyPost_ret (results_none rfl _ _ _) rfl ?_
                  refine ⟨rfl, ?_⟩
                  have q := sym_eq f a m b N mid i (rot m 600 (m - i) (en - m) N) (sym f a i mid (rot m 600 (m - i) (en - m) N)) (by omega) (by omega) HMID.out HE.out (by rw [← HEN.out]; exact if_pos ⟨g1, g2⟩) (if_pos ⟨g3, g4⟩)
                  rw [← HEN.out] at q
                  rw [q, if_pos ⟨g5, g6⟩]
                  exact S.out
                · have z6 : ¬ (en : Int) < (b : Int) := by omega
                  have gN3 : ¬ (mid < en ∧ en < b) := fun q => g6 q.2
                  go_wp2_with (first | (go_at_call 73; refine (rotate_calls w0 blk off i m en 600 N _ S.out (by omega) (by omega) (by omega) (by omega)).mono ?_; rintro e w' ⟨rfl, hw⟩; have SS := Aside0.mk hw; clear S hw; have S : Aside (RW w0 blk off (rot m 600 (m - i) (en - m) N) w') := SS.out; clear SS) | (go_at_call 68; refine (IH.out a i mid (rot m 600 (m - i) (en - m) N) _ S.out (by omega) (by omega) (by omega) (by omega)).mono ?_; rintro e w' ⟨rfl, hw⟩; have SS := Aside0.mk hw; clear S hw; have S : Aside (RW w0 blk off (sym f a i mid (rot m 600 (m - i) (en - m) N)) w') := SS.out; clear SS))
                  first | go_end0 | refine bodyPost_ret (results_none rfl _ _ _) rfl ?_
                  refine ⟨rfl, ?_⟩
                  have q := sym_eq f a m b N mid i (rot m 600 (m - i) (en - m) N) (sym f a i mid (rot m 600 (m - i) (en - m) N)) (by omega) (by omega) HMID.out HE.out (by rw [← HEN.out]; exact if_pos ⟨g1, g2⟩) (if_pos ⟨g3, g4⟩)
                  rw [← HEN.out] at q
                  rw [q, if_neg gN3]
                  exact S.out
              · have z5 : ¬ (mid : Int) < (en : Int) := by omega
                have gN3 : ¬ (mid < en ∧ en < b) := fun q => g5 q.1
                go_wp2_with (first | (go_at_call 73; refine (rotate_calls w0 blk off i m en 600 N _ S.out (by omega) (by omega) (by omega) (by omega)).mono ?_; rintro e w' ⟨rfl, hw⟩; have SS := Aside0.mk hw; clear S hw; have S : Aside (RW w0 blk off (rot m 600 (m - i) (en - m) N) w') := SS.out; clear SS) | (go_at_call 68; refine (IH.out a i mid (rot m 600 (m - i) (en - m) N) _ S.out (by omega) (by omega) (by omega) (by omega)).mono ?_; rintro e w' ⟨rfl, hw⟩; have SS := Aside0.mk hw; clear S hw; have S : Aside (RW w0 blk off (sym f a i mid (rot m 600 (m - i) (en - m) N)) w') := SS.out; clear SS))
                first | go_end0 | refine bodyPost_ret (results_none rfl _ _ _) rfl ?_
                refine ⟨rfl, ?_⟩
                have q := sym_eq f a m b N mid i (rot m 600 (m - i) (en - m) N) (sym f a i mid (rot m 600 (m - i) (en - m) N)) (by omega) (by omega) HMID.out HE.out (by rw [← HEN.out]; exact if_pos ⟨g1, g2⟩) (if_pos ⟨g3, g4⟩)
                rw [← HEN.out] at q
                rw [q, if_neg gN3]
                exact S.out
            · have z4 : ¬ (i : Int) < (mid : Int) := by omega
              have gN2 : ¬ (a < i ∧ i < mid) := fun q => g4 q.2
              by_cases g5 : mid < en
              · have z5 : (mid : Int) < (en : Int) := by omega
                by_cases g6 : en < b
                · have z6 : (en : Int) < (b : Int) := by omega
                  go_wp2_with (first | (go_at_call 73; refine (rotate_calls w0 blk off i m en 600 N _ S.out (by omega) (by omega) (by omega) (by omega)).mono ?_; rintro e w' ⟨rfl, hw⟩; have SS := Aside0.mk hw; clear S hw; have S : Aside (RW w0 blk off (rot m 600 (m - i) (en - m) N) w') := SS.out; clear SS) | (go_at_call 68; refine (IH.out mid en b (rot m 600 (m - i) (en - m) N) _ S.out (by omega) (by omega) (by omega) (by omega)).mono ?_; rintro e w' ⟨rfl, hw⟩; have SS := Aside0.mk hw; clear S hw; have S : Aside (RW w0 blk off (sym f mid en b (rot m 600 (m - i) (en - m) N)) w') := SS.out; clear SS))
                  first | go_end0 | refine bodyPost_ret (results_none rfl _ _ _) rfl ?_
                  refine ⟨rfl, ?_⟩
                  have q := sym_eq f a m b N mid i (rot m 600 (m - i) (en - m) N) (rot m 600 (m - i) (en - m) N) (by omega) (by omega) HMID.out HE.out (by rw [← HEN.out]; exact if_pos ⟨g1, g2⟩) (if_neg gN2)
                  rw [← HEN.out] at q
                  rw [q, if_pos ⟨g5, g6⟩]
                  exact S.out
                · have z6 : ¬ (en : Int) < (b : Int) := by omega
                  have gN3 : ¬ (mid < en ∧ en < b) := fun q => g6 q.2
                  go_wp2_with (first | (go_at_call 73; refine (rotate_calls w0 blk off i m en 600 N _ S.out (by omega) (by omega) (by omega) (by omega)).mono ?_; rintro e w' ⟨rfl, hw⟩; have SS := Aside0.mk hw; clear S hw; have S : Aside (RW w0 blk off (rot m 600 (m - i) (en - m) N) w') := SS.out; clear SS))
                  first | go_end0 | refine bodyPost_ret (results_none rfl _ _ _) rfl ?_
                  refine ⟨rfl, ?_⟩
                  have q := sym_eq f a m b N mid i (rot m 600 (m - i) (en - m) N) (rot m 600 (m - i) (en - m) N) (by omega) (by omega) HMID.out HE.out (by rw [← HEN.out]; exact if_pos ⟨g1, g2⟩) (if_neg gN2)
                  rw [← HEN.out] at q
                  rw [q, if_neg gN3]
                  exact S.out
              · have z5 : ¬ (mid : Int) < (en : Int) := by omega
                have gN3 : ¬ (mid < en ∧ en < b) := fun q => g5 q.1
                go_wp2_with (first | (go_at_call 73; refine (rotate_calls w0 blk off i m en 600 N _ S.out (by omega) (by omega) (by omega) (by omega)).mono ?_; rintro e w' ⟨rfl, hw⟩; have SS := Aside0.mk hw; clear S hw; have S : Aside (RW w0 blk off (rot m 600 (m - i) (en - m) N) w') := SS.out; clear SS))
                first | go_end0 | refine bodyPost_ret (results_none rfl _ _ _) rfl ?_
                refine ⟨rfl, ?_⟩
                have q := sym_eq f a m b N mid i (rot m 600 (m - i) (en - m) N) (rot m 600 (m - i) (en - m) N) (by omega) (by omega) HMID.out HE.out (by rw [← HEN.out]; exact if_pos ⟨g1, g2⟩) (if_neg gN2)
                rw [← HEN.out] at q
                rw [q, if_neg gN3]
                exact S.out
          · have z3 : ¬ (a : Int) < (i : Int) := by omega
            have gN2 : ¬ (a < i ∧ i < mid) := fun q => g3 q.1
            by_cases g5 : mid < en
            · have z5 : (mid : Int) < (en : Int) := by omega
              by_cases g6 : en < b
              · have z6 : (en : Int) < (b : Int) := by omega
                go_wp2_with (first | (go_at_call 73; refine (rotate_calls w0 blk off i m en 600 N _ S.out (by omega) (by omega) (by omega) (by omega)).mono ?_; rintro e w' ⟨rfl, hw⟩; have SS := Aside0.mk hw; clear S hw; have S : Aside (RW w0 blk off (rot m 600 (m - i) (en - m) N) w') := SS.out; clear SS) | (go_at_call 68; refine (IH.out mid en b (rot m 600 (m - i) (en - m) N) _ S.out (by omega) (by omega) (by omega) (by omega)).mono ?_; rintro e w' ⟨rfl, hw⟩; have SS := Aside0.mk hw; clear S hw; have S : Aside (RW w0 blk off (sym f mid en b (rot m 600 (m - i) (en - m) N)) w') := SS.out; clear SS))
                first | go_end0 | refine bodyPost_ret (results_none rfl _ _ _) rfl ?_
                refine ⟨rfl, ?_⟩
                have q := sym_eq f a m b N mid i (rot m 600 (m - i) (en - m) N) (rot m 600 (m - i) (en - m) N) (by omega) (by omega) HMID.out HE.out (by rw [← HEN.out]; exact if_pos ⟨g1, g2⟩) (if_neg gN2)
                rw [← HEN.out] at q
                rw [q, if_pos ⟨g5, g6⟩]
                exact S.out
              · have z6 : ¬ (en : Int) < (b : Int) := by omega
                have gN3 : ¬ (mid < en ∧ en < b) := fun q => g6 q.2
                go_wp2_with (first | (go_at_call 73; refine (rotate_calls w0 blk off i m en 600 N _ S.out (by omega) (by omega) (by omega) (by omega)).mono ?_; rintro e w' ⟨rfl, hw⟩; have SS := Aside0.mk hw; clear S hw; have S : Aside (RW w0 blk off (rot m 600 (m - i) (en - m) N) w') := SS.out; clear SS))
                first | go_end0 | refine bodyPost_ret (results_none rfl _ _ _) rfl ?_
                refine ⟨rfl, ?_⟩
                have q := sym_eq f a m b N mid i (rot m 600 (m - i) (en - m) N) (rot m 600 (m - i) (en - m) N) (by omega) (by omega) HMID.out HE.out (by rw [← HEN.out]; exact if_pos ⟨g1, g2⟩) (if_neg gN2)
                rw [← HEN.out] at q
                rw [q, if_neg gN3]
                exact S.out
            · have z5 : ¬ (mid : Int) < (en : Int) := by omega
              have gN3 : ¬ (mid < en ∧ en < b) := fun q => g5 q.1
              go_wp2_with (first | (go_at_call 73; refine (rotate_calls w0 blk off i m en 600 N _ S.out (by omega) (by omega) (by omega) (by omega)).mono ?_; rintro e w' ⟨rfl, hw⟩; have SS := Aside0.mk hw; clear S hw; have S : Aside (RW w0 blk off (rot m 600 (m - i) (en - m) N) w') := SS.out; clear SS))
              first | go_end0 | refine bodyPost_ret (results_none rfl _ _ _) rfl ?_
              refine ⟨rfl, ?_⟩
              have q := sym_eq f a m b N mid i (rot m 600 (m - i) (en - m) N) (rot m 600 (m - i) (en - m) N) (by omega) (by omega) HMID.out HE.out (by rw [← HEN.out]; exact if_pos ⟨g1, g2⟩) (if_neg gN2)
              rw [← HEN.out] at q
              rw [q, if_neg gN3]
              exact S.out
        · have z2 : ¬ (m : Int) < (en : Int) := by omega
          have gN1 : ¬ (i < m ∧ m < en) := fun q => g2 q.2
          by_cases g3 : a < i
          · have z3 : (a : Int) < (i : Int) := by omega
            by_cases g4 : i < mid
            · have z4 : (i : Int) < (mid : Int) := by omega
              by_cases g5 : mid < en
              · have z5 : (mid : Int) < (en : Int) := by omega
                by_cases g6 : en < b
                · have z6 : (en : Int) < (b : Int) := by omega
                  go_wp2_with (first | (go_at_call 68; refine (IH.out a i mid N _ S.out (by omega) (by omega) (by omega) (by omega)).mono ?_; rintro e w' ⟨rfl, hw⟩; have SS := Aside0.mk hw; clear S hw; have S : Aside (RW w0 blk off (sym f a i mid N) w') := SS.out; clear SS) | (go_at_call 68; refine (IH.out mid en b (sym f a i mid N) _ S.out (by omega) (by omega) (by omega) (by omega)).mono ?_; rintro e w' ⟨rfl, hw⟩; have SS := Aside0.mk hw; clear S hw; have S : Aside (RW w0 blk off (sym f mid en b (sym f a i mid N)) w') := SS.out; clear SS))
                  first | go_end0 | refine bodyPost_ret (results_none rfl _ _ _) rfl ?_
                  refine ⟨rfl, ?_⟩
                  have q := sym_eq f a m b N mid i N (sym f a i mid N) (by omega) (by omega) HMID.out HE.out (by rw [← HEN.out]; exact if_neg gN1) (if_pos ⟨g3, g4⟩)
                  rw [← HEN.out] at q
                  rw [q, if_pos ⟨g5, g6⟩]
                  exact S.out
                · have z6 : ¬ (en : Int) < (b : Int) := by omega
                  have gN3 : ¬ (mid < en ∧ en < b) := fun q => g6 q.2
                  go_wp2_with (first | (go_at_call 68; refine (IH.out a i mid N _ S.out (by omega) (by omega) (by omega) (by omega)).mono ?_; rintro e w' ⟨rfl, hw⟩; have SS := Aside0.mk hw; clear S hw; have S : Aside (RW w0 blk off (sym f a i mid N) w') := SS.out; clear SS))
                  first | go_end0 | refine bodyPost_ret (results_none rfl _ _ _) rfl ?_
                  refine ⟨rfl, ?_⟩
                  have q := sym_eq f a m b N mid i N (sym f a i mid N) (by omega) (by omega) HMID.out HE.out (by rw [← HEN.out]; exact if_neg gN1) (if_pos ⟨g3, g4⟩)
                  rw [← HEN.out] at q
                  rw [q, if_neg gN3]
                  exact S.out
              · have z5 : ¬ (mid : Int) < (en : Int) := by omega
                have gN3 : ¬ (mid < en ∧ en < b) := fun q => g5 q.1
                go_wp2_with (first | (go_at_call 68; refine (IH.out a i mid N _ S.out (by omega) (by omega) (by omega) (by omega)).mono ?_; rintro e w' ⟨rfl, hw⟩; have SS := Aside0.mk hw; clear S hw; have S : Aside (RW w0 blk off (sym f a i mid N) w') := SS.out; clear SS))
                first | go_end0 | refine bodyPost_ret (results_none rfl _ _ _) rfl ?_
                refine ⟨rfl, ?_⟩
                have q := sym_eq f a m b N mid i N (sym f a i mid N) (by omega) (by omega) HMID.out HE.out (by rw [← HEN.out]; exact if_neg gN1) (if_pos ⟨g3, g4⟩)
                rw [← HEN.out] at q
                rw [q, if_neg gN3]
                exact S.out
            · have z4 : ¬ (i : Int) < (mid : Int) := by omega
              have gN2 : ¬ (a < i ∧ i < mid) := fun q => g4 q.2
              by_cases g5 : mid < en
              · have z5 : (mid : Int) < (en : Int) := by omega
                by_cases g6 : en < b
                · have z6 : (en : Int) < (b : Int) := by omega
                  go_wp2_with (first | (go_at_call 68; refine (IH.out mid en b N _ S.out (by omega) (by omega) (by omega) (by omega)).mono ?_; rintro e w' ⟨rfl, hw⟩; have SS := Aside0.mk hw; clear S hw; have S : Aside (RW w0 blk off (sym f mid en b N) w') := SS.out; clear SS))
                  first | go_end0 | refine bodyPost_ret (results_none rfl _ _ _) rfl ?_
                  refine ⟨rfl, ?_⟩
                  have q := sym_eq f a m b N mid i N N (by omega) (by omega) HMID.out HE.out (by rw [← HEN.out]; exact if_neg gN1) (if_neg gN2)
                  rw [← HEN.out] at q
                  rw [q, if_pos ⟨g5, g6⟩]
                  exact S.out
                · have z6 : ¬ (en : Int) < (b : Int) := by omega
                  have gN3 : ¬ (mid < en ∧ en < b) := fun q => g6 q.2
                  go_wp2
                  first | go_end0 | refine bodyPost_ret (results_none rfl _ _ _) rfl ?_
                  refine ⟨rfl, ?_⟩
                  have q := sym_eq f a m b N mid i N N (by omega) (by omega) HMID.out HE.out (by rw [← HEN.out]; exact if_neg gN1) (if_neg gN2)
                  rw [← HEN.out] at q
                  rw [q, if_neg gN3]
                  exact S.out
              · have z5 : ¬ (mid : Int) < (en : Int) := by omega
                have gN3 : ¬ (mid < en ∧ en < b) := fun q => g5 q.1
                go_wp2
                first | go_end0 | refine bodyPost_ret (results_none rfl _ _ _) rfl ?_
                refine ⟨rfl, ?_⟩
                have q := sym_eq f a m b N mid i N N (by omega) (by omega) HMID.out HE.out (by rw [← HEN.out]; exact if_neg gN1) (if_neg gN2)
                rw [← HEN.out] at q
                rw [q, if_neg gN3]
                exact S.out
          · have z3 : ¬ (a : Int) < (i : Int) := by omega
            have gN2 : ¬ (a < i ∧ i < mid) := fun q => g3 q.1
            by_cases g5 : mid < en
            · have z5 : (mid : Int) < (en : Int) := by omega
              by_cases g6 : en < b
              · have z6 : (en : Int) < (b : Int) := by omega
                go_wp2_with (first | (go_at_call 68; refine (IH.out mid en b N _ S.out (by omega) (by omega) (by omega) (by omega)).mono ?_; rintro e w' ⟨rfl, hw⟩; have SS := Aside0.mk hw; clear S hw; have S : Aside (RW w0 blk off (sym f mid en b N) w') := SS.out; clear SS))
                first | go_end0 | refine bodyPost_ret (results_none rfl _ _ _) rfl ?_
                refine ⟨rfl, ?_⟩
                have q := sym_eq f a m b N mid i N N (by omega) (by omega) HMID.out HE.out (by rw [← HEN.out]; exact if_neg gN1) (if_neg gN2)
                rw [← HEN.out] at q
                rw [q, if_pos ⟨g5, g6⟩]
                exact S.out
              · have z6 : ¬ (en : Int) < (b : Int) := by omega
                have gN3 : ¬ (mid < en ∧ en < b) := fun q => g6 q.2
                go_wp2
                first | go_end0 | refine bodyPost_ret (results_none rfl _ _ _) rfl ?_
                refine ⟨rfl, ?_⟩
                have q := sym_eq f a m b N mid i N N (by omega) (by omega) HMID.out HE.out (by rw [← HEN.out]; exact if_neg gN1) (if_neg gN2)
                rw [← HEN.out] at q
                rw [q, if_neg gN3]
                exact S.out
            · have z5 : ¬ (mid : Int) < (en : Int) := by omega
              have gN3 : ¬ (mid < en ∧ en < b) := fun q => g5 q.1
              go_wp2
              first | go_end0 | refine bodyPost_ret (results_none rfl _ _ _) rfl ?_
              refine ⟨rfl, ?_⟩
              have q := sym_eq f a m b N mid i N N (by omega) (by omega) HMID.out HE.out (by rw [← HEN.out]; exact if_neg gN1) (if_neg gN2)
              rw [← HEN.out] at q
              rw [q, if_neg gN3]
              exact S.out
      · have z1 : ¬ (i : Int) < (m : Int) := by omega
        have gN1 : ¬ (i < m ∧ m < en) := fun q => g1 q.1
        by_cases g3 : a < i
        · have z3 : (a : Int) < (i : Int) := by omega
          by_cases g4 : i < mid
          · have z4 : (i : Int) < (mid : Int) := by omega
            by_cases g5 : mid < en
            · have z5 : (mid : Int) < (en : Int) := by omega
              by_cases g6 : en < b
              · have z6 : (en : Int) < (b : Int) := by omega
                go_wp2_with (first | (go_at_call 68; refine (IH.out a i mid N _ S.out (by omega) (by omega) (by omega) (by omega)).mono ?_; rintro e w' ⟨rfl, hw⟩; have SS := Aside0.mk hw; clear S hw; have S : Aside (RW w0 blk off (sym f a i mid N) w') := SS.out; clear SS) | (go_at_call 68; refine (IH.out mid en b (sym f a i mid N) _ S.out (by omega) (by omega) (by omega) (by omega)).mono ?_; rintro e w' ⟨rfl, hw⟩; have SS := Aside0.mk hw; clear S hw; have S : Aside (RW w0 blk off (sym f mid en b (sym f a i mid N)) w') := SS.out; clear SS))
                first | go_end0 | refine bodyPost_ret (results_none rfl _ _ _) rfl ?_
                refine ⟨rfl, ?_⟩
                have q := sym_eq f a m b N mid i N (sym f a i mid N) (by omega) (by omega) HMID.out HE.out (by rw [← HEN.out]; exact if_neg gN1) (if_pos ⟨g3, g4⟩)
                rw [← HEN.out] at q
                rw [q, if_pos ⟨g5, g6⟩]
                exact S.out
              · have z6 : ¬ (en : Int) < (b : Int) := by omega
                have gN3 : ¬ (mid < en ∧ en < b) := fun q => g6 q.2
                go_wp2_with (first | (go_at_call 68; refine (IH.out a i mid N _ S.out (by omega) (by omega) (by omega) (by omega)).mono ?_; rintro e w' ⟨rfl, hw⟩; have SS := Aside0.mk hw; clear S hw; have S : Aside (RW w0 blk off (sym f a i mid N) w') := SS.out; clear SS))
                first | go_end0 | refine bodyPost_ret (results_none rfl _ _ _) rfl ?_
                refine ⟨rfl, ?_⟩
                have q := sym_eq f a m b N mid i N (sym f a i mid N) (by omega) (by omega) HMID.out HE.out (by rw [← HEN.out]; exact if_neg gN1) (if_pos ⟨g3, g4⟩)
                rw [← HEN.out] at q
                rw [q, if_neg gN3]
                exact S.out
            · have z5 : ¬ (mid : Int) < (en : Int) := by omega
              have gN3 : ¬ (mid < en ∧ en < b) := fun q => g5 q.1
              go_wp2_with (first | (go_at_call 68; refine (IH.out a i mid N _ S.out (by omega) (by omega) (by omega) (by omega)).mono ?_; rintro e w' ⟨rfl, hw⟩; have SS := Aside0.mk hw; clear S hw; have S : Aside (RW w0 blk off (sym f a i mid N) w') := SS.out; clear SS))
              first | go_end0 | refine bodyPost_ret (results_none rfl _ _ _) rfl ?_
              refine ⟨rfl, ?_⟩
              have q := sym_eq f a m b N mid i N (sym f a i mid N) (by omega) (by omega) HMID.out HE.out (by rw [← HEN.out]; exact if_neg gN1) (if_pos ⟨g3, g4⟩)
              rw [← HEN.out] at q
              rw [q, if_neg gN3]
              exact S.out
          · have z4 : ¬ (i : Int) < (mid : Int) := by omega
            have gN2 : ¬ (a < i ∧ i < mid) := fun q => g4 q.2
            by_cases g5 : mid < en
            · have z5 : (mid : Int) < (en : Int) := by omega
              by_cases g6 : en < b
              · have z6 : (en : Int) < (b : Int) := by omega
                go_wp2_with (first | (go_at_call 68; refine (IH.out mid en b N _ S.out (by omega) (by omega) (by omega) (by omega)).mono ?_; rintro e w' ⟨rfl, hw⟩; have SS := Aside0.mk hw; clear S hw; have S : Aside (RW w0 blk off (sym f mid en b N) w') := SS.out; clear SS))
                first | go_end0 | refine bodyPost_ret (results_none rfl _ _ _) rfl ?_
                refine ⟨rfl, ?_⟩
                have q := sym_eq f a m b N mid i N N (by omega) (by omega) HMID.out HE.out (by rw [← HEN.out]; exact if_neg gN1) (if_neg gN2)
                rw [← HEN.out] at q
                rw [q, if_pos ⟨g5, g6⟩]
                exact S.out
              · have z6 : ¬ (en : Int) < (b : Int) := by omega
                have gN3 : ¬ (mid < en ∧ en < b) := fun q => g6 q.2
                go_wp2
                first | go_end0 | refine bodyPost_ret (results_none rfl _ _ _) rfl ?_
                refine ⟨rfl, ?_⟩
                have q := sym_eq f a m b N mid i N N (by omega) (by omega) HMID.out HE.out (by rw [← HEN.out]; exact if_neg gN1) (if_neg gN2)
                rw [← HEN.out] at q
                rw [q, if_neg gN3]
                exact S.out
            · have z5 : ¬ (mid : Int) < (en : Int) := by omega
              have gN3 : ¬ (mid < en ∧ en < b) := fun q => g5 q.1
              go_wp2
              first | go_end0 | refine bodyPost_ret (results_none rfl _ _ _) rfl ?_
              refine ⟨rfl, ?_⟩
              have q := sym_eq f a m b N mid i N N (by omega) (by omega) HMID.out HE.out (by rw [← HEN.out]; exact if_neg gN1) (if_neg gN2)
              rw [← HEN.out] at q
              rw [q, if_neg gN3]
              exact S.out
        · have z3 : ¬ (a : Int) < (i : Int) := by omega
          have gN2 : ¬ (a < i ∧ i < mid) := fun q => g3 q.1
          by_cases g5 : mid < en
          · have z5 : (mid : Int) < (en : Int) := by omega
            by_cases g6 : en < b
            · have z6 : (en : Int) < (b : Int) := by omega
              go_wp2_with (first | (go_at_call 68; refine (IH.out mid en b N _ S.out (by omega) (by omega) (by omega) (by omega)).mono ?_; rintro e w' ⟨rfl, hw⟩; have SS := Aside0.mk hw; clear S hw; have S : Aside (RW w0 blk off (sym f mid en b N) w') := SS.out; clear SS))
              first | go_end0 | refine bodyPost_ret (results_none rfl _ _ _) rfl ?_
              refine ⟨rfl, ?_⟩
              have q := sym_eq f a m b N mid i N N (by omega) (by omega) HMID.out HE.out (by rw [← HEN.out]; exact if_neg gN1) (if_neg gN2)
              rw [← HEN.out] at q
              rw [q, if_pos ⟨g5, g6⟩]
              exact S.out
            · have z6 : ¬ (en : Int) < (b : Int) := by omega
              have gN3 : ¬ (mid < en ∧ en < b) := fun q => g6 q.2
              go_wp2
              first | go_end0 | refine bodyPost_ret (results_none rfl _ _ _) rfl ?_
              refine ⟨rfl, ?_⟩
              have q := sym_eq f a m b N mid i N N (by omega) (by omega) HMID.out HE.out (by rw [← HEN.out]; exact if_neg gN1) (if_neg gN2)
              rw [← HEN.out] at q
              rw [q, if_neg gN3]
              exact S.out
          · have z5 : ¬ (mid : Int) < (en : Int) := by omega
            have gN3 : ¬ (mid < en ∧ en < b) := fun q => g5 q.1
            go_wp2
            first | go_end0 | refine bodyPost_ret (results_none rfl _ _ _) rfl ?_
            refine ⟨rfl, ?_⟩
            have q := sym_eq f a m b N mid i N N (by omega) (by omega) HMID.out HE.out (by rw [← HEN.out]; exact if_neg gN1) (if_neg gN2)
            rw [← HEN.out] at q
            rw [q, if_neg gN3]
            exact S.out

end Go.Proofs.Ythfildmldppihaa.Ge
