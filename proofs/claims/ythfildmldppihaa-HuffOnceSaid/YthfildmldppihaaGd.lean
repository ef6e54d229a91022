/- The stable sort's walks: symMerge. -/
import Derived.Test.YthfildmldppihaaA1
namespace Go.Proofs.Ythfildmldppihaa.Gd
open Go.RowKit Go.Proofs.Ythfildmldppihaa.Ga Go.Proofs.Ythfildmldppihaa.Gb Go.Proofs.Ythfildmldppihaa.Gc Go.Proofs.YthfildmldppihaaW.PrintWords Go.Proofs.YthfildmldppihaaW.PrintLast Go.Proofs.YthfildmldppihaaW.PrintMore

def bsA (d a : Nat) : Nat → Nat → Nat → Nat
  | 0, i, _ => i
  | k + 1, i, j => if i < j then (if lt (gt d ((i + j) / 2)) (gt d a) then bsA d a k ((i + j) / 2 + 1) j else bsA d a k i ((i + j) / 2)) else i
def bsB (d m : Nat) : Nat → Nat → Nat → Nat
  | 0, i, _ => i
  | k + 1, i, j => if i < j then (if lt (gt d m) (gt d ((i + j) / 2)) then bsB d m k i ((i + j) / 2) else bsB d m k ((i + j) / 2 + 1) j) else i
def bsC (d p : Nat) : Nat → Nat → Nat → Nat
  | 0, i, _ => i
  | k + 1, i, j => if i < j then (if lt (gt d (p - (i + j) / 2)) (gt d ((i + j) / 2)) then bsC d p k i ((i + j) / 2) else bsC d p k ((i + j) / 2 + 1) j) else i
def upF : Nat → Nat → Nat → Nat
  | 0, _, d => d
  | r + 1, k, d => upF r (k + 1) (swp d k (k + 1))
def dnF : Nat → Nat → Nat → Nat
  | 0, _, d => d
  | r + 1, k, d => dnF r (k - 1) (swp d k (k - 1))
def sym : Nat → Nat → Nat → Nat → Nat → Nat
  | 0, _, _, _, d => d
  | f + 1, a, m, b, d =>
    if m - a = 1 then upF (bsA d a 300 m b - 1 - a) a d
    else if b - m = 1 then dnF (m - bsB d m 300 a m) m d
    else
      let mid := (a + b) / 2
      let n := mid + m
      let s := bsC d (n - 1) 300 (if mid < m then n - b else a) (if mid < m then mid else m)
      let d1 := if s < m ∧ m < n - s then rot m 600 (m - s) (n - s - m) d else d
      let d2 := if a < s ∧ s < mid then sym f a s mid d1 else d1
      if mid < n - s ∧ n - s < b then sym f mid (n - s) b d2 else d2
theorem bsA_stop (d a k i j : Nat) (h : ¬ i < j) : bsA d a k i j = i := by cases k <;> simp [bsA, h]
theorem bsB_stop (d a k i j : Nat) (h : ¬ i < j) : bsB d a k i j = i := by cases k <;> simp [bsB, h]
theorem bsC_stop (d a k i j : Nat) (h : ¬ i < j) : bsC d a k i j = i := by cases k <;> simp [bsC, h]

set_option maxHeartbeats 8000000 in
set_option maxRecDepth 100000 in
theorem symA_calls (w0 : World) (blk off a m b N : Nat) (w : World) (H : RW w0 blk off N w) (hm1 : m ≤ a + 1) (hm2 : a + 1 ≤ m) (hab : m < b) (hb : b ≤ 257) :
    Calls Try.prog 68 #[.slice (some ⟨blk, off, none⟩) 257 257, .int .i64 a, .int .i64 m, .int .i64 b, .func (.func 55) #[] #[]] w fun e w' => e = .returned (.tuple #[]) ∧ RW w0 blk off (upF (bsA N a 300 m b - 1 - a) a N) w' := by
  have S0 : Aside (RW w0 blk off N w) := H
  have e1 : ((m : Int) - (a : Int) == 1) = true := beq_iff_eq.mpr (by omega)
  clear H
  go_enter Try.func68, Try.ntmps68
  go_wp2
  go_loopg [10, 11] 300 (fun g1 vi vj wr => ∃ (i j : Nat), vi = .int .i64 i ∧ vj = .int .i64 j ∧ m ≤ i ∧ i ≤ j ∧ j ≤ b ∧ j - i ≤ g1 ∧ Aside (RW w0 blk off N wr) ∧ Hid (bsA N a g1 i j = bsA N a 300 m b))
  case atStart => exact ⟨m, b, rfl, rfl, by omega, by omega, by omega, by omega, S0, rfl⟩
  case round =>
    clear S0
    obtain ⟨i, j, rfl, rfl, hai, hij, hjb, hg, S, HI⟩ := hrel
    by_cases hlt : i < j
    · have hlz : (i : Int) < (j : Int) := by omega
      obtain ⟨k, rfl⟩ : ∃ k, gk = k + 1 := ⟨gk - 1, by omega⟩
      go_wp2
      obtain ⟨iN, hiN⟩ : ∃ q, q = (i + j) / 2 := ⟨_, rfl⟩
      obtain ⟨jN, hjN⟩ : ∃ q, q = a := ⟨_, rfl⟩
      have ea : (((i : Int) + (j : Int)) / 2).toNat = iN := by omega
      have pa : (0 : Int) ≤ ((i : Int) + (j : Int)) / 2 := by omega
      have ba : ((i : Int) + (j : Int)) / 2 < 257 := by omega
      have ra : IntKind.i64.wrap (((i : Int) + (j : Int)) / 2) = ((i : Int) + (j : Int)) / 2 := by rw [IntKind.wrap_i64]; omega
      have ec : ((a : Int)).toNat = jN := by omega
      have pc : (0 : Int) ≤ (a : Int) := by omega
      have bc : (a : Int) < 257 := by omega
      have rc : IntKind.i64.wrap ((a : Int)) = (a : Int) := by rw [IntKind.wrap_i64]; omega
      have hC : ∀ w, Calls Try.prog 55 #[.int .i64 (gt N ((i + j) / 2) : Nat), .int .i64 (gt N (a) : Nat)] w fun e w' => e = .returned (.int .i64 (cf (gt N ((i + j) / 2)) (gt N (a)))) ∧ w' = w := fun w => cmp_calls _ _ (S.out.v ((i + j) / 2) (by omega)) (S.out.v (a) (by omega)) w
      have ca : wr.cell? ⟨blk, off + iN, none⟩ = some (.int .i64 (gt N ((i + j) / 2) : Nat)) := by rw [hiN]; exact S.out.c ((i + j) / 2) (by omega)
      have cb : wr.cell? ⟨blk, off + jN, none⟩ = some (.int .i64 (gt N (a) : Nat)) := by rw [hjN]; exact S.out.c (a) (by omega)
      have hl2 : lt (gt N ((i + j) / 2)) (gt N (a)) = decide (cf (gt N ((i + j) / 2)) (gt N (a)) < 0) := rfl
      obtain ⟨lv, hlv⟩ : ∃ lv, lv = lt (gt N ((i + j) / 2)) (gt N (a)) := ⟨_, rfl⟩
      rw [← hlv] at hl2
      have HLV := Aside0.mk hlv
      clear hlv
      have HIN := Aside0.mk hiN
      have HJN := Aside0.mk hjN
      clear hiN hjN
      generalize cf (gt N ((i + j) / 2)) (gt N (a)) = cv at hC hl2
      obtain ⟨x, hx⟩ : ∃ x, x = gt N ((i + j) / 2) := ⟨_, rfl⟩
      obtain ⟨y, hy⟩ : ∃ y, y = gt N (a) := ⟨_, rfl⟩
      rw [← hx] at hC ca
      rw [← hy] at hC cb
      clear hx hy
      cases lv with
      | true =>
        have hlt2 : decide (cv < 0) = true := hl2.symm
        have hlt3 : cv < 0 := of_decide_eq_true hlt2
        clear hl2
        go_wp2_with fail
        go_quiet (first | (go_at_call 55; exact (hC _).mono (by rintro e w' ⟨rfl, rfl⟩; exact ⟨rfl, _, rfl⟩)))
        have S2 : Aside (RW w0 blk off N (wr.drewN nq)) := S.out.drewN nq
        clear S ca cb hC
        generalize wr.drewN nq = w2 at S2 ⊢
        clear ea ec pa ba ra pc bc rc
        go_wp2
        go_roundg k
        case measure => omega
        case rel => exact ⟨(i + j) / 2 + 1, j, by first | rfl | go_num | (congr 1; omega), rfl, by omega, by omega, by omega, by omega, S2, (show _ = _ from by rw [← HI.out, bsA, if_pos hlt, if_pos HLV.out.symm])⟩
      | false =>
        have hlt2 : decide (cv < 0) = false := hl2.symm
        have hlt3 : ¬ cv < 0 := of_decide_eq_false hlt2
        clear hl2
        go_wp2_with fail
        go_quiet (first | (go_at_call 55; exact (hC _).mono (by rintro e w' ⟨rfl, rfl⟩; exact ⟨rfl, _, rfl⟩)))
        have S2 : Aside (RW w0 blk off N (wr.drewN nq)) := S.out.drewN nq
        clear S ca cb hC
        generalize wr.drewN nq = w2 at S2 ⊢
        clear ea ec pa ba ra pc bc rc
        go_wp2
        go_roundg k
        case measure => omega
        case rel => exact ⟨i, (i + j) / 2, rfl, by first | rfl | go_num | (congr 1; omega), by omega, by omega, by omega, by omega, S2, (show _ = _ from by rw [← HI.out, bsA, if_pos hlt, if_neg (by rw [← HLV.out]; decide)])⟩
    · have hlz : ¬ (i : Int) < (j : Int) := by omega
      have HE : Aside0 (bsA N a 300 m b = i) := ⟨by rw [← HI.out, bsA_stop _ _ _ _ _ hlt]⟩
      have hi1 : a + 1 ≤ i := by omega
      have hi2 : i ≤ b := by omega
      clear HI
      go_wp2
      go_loopg [13] 300 (fun g2 vk wr => ∃ (k d : Nat), vk = .int .i64 k ∧ a ≤ k ∧ k ≤ i - 1 ∧ i - 1 - k ≤ g2 ∧ Aside (RW w0 blk off d wr) ∧ Hid (upF (i - 1 - k) k d = upF (i - 1 - a) a N))
      case atStart => exact ⟨a, N, rfl, by omega, by omega, by omega, S, rfl⟩
      case round =>
        clear S
        obtain ⟨k, d, rfl, hak, hki, hg2, S, HU⟩ := hrel
        by_cases hkl : k < i - 1
        · have hkz : (k : Int) < (i : Int) - 1 := by omega
          obtain ⟨iN, hiN⟩ : ∃ q, q = k := ⟨_, rfl⟩
          obtain ⟨jN, hjN⟩ : ∃ q, q = k + 1 := ⟨_, rfl⟩
          have ea : ((k : Int)).toNat = iN := by omega
          have pa : (0 : Int) ≤ (k : Int) := by omega
          have ba : (k : Int) < 257 := by omega
          have ra : IntKind.i64.wrap ((k : Int)) = (k : Int) := by rw [IntKind.wrap_i64]; omega
          have ec : ((k : Int) + 1).toNat = jN := by omega
          have pc : (0 : Int) ≤ (k : Int) + 1 := by omega
          have bc : (k : Int) + 1 < 257 := by omega
          have rc : IntKind.i64.wrap ((k : Int) + 1) = (k : Int) + 1 := by rw [IntKind.wrap_i64]; omega
          have S3 : Aside (RW w0 blk off (swp d (k) (k + 1)) ((((wr).setCell ⟨blk, off + iN, none⟩ (.int .i64 (gt d (k + 1) : Nat))).setCell ⟨blk, off + jN, none⟩ (.int .i64 (gt d (k) : Nat)))).drew) := by
            rw [hiN, hjN]; exact S.out.swp (k) (k + 1) (by omega) (by omega)
          have ca : wr.cell? ⟨blk, off + iN, none⟩ = some (.int .i64 (gt d (k) : Nat)) := by rw [hiN]; exact S.out.c (k) (by omega)
          have cb : wr.cell? ⟨blk, off + jN, none⟩ = some (.int .i64 (gt d (k + 1) : Nat)) := by rw [hjN]; exact S.out.c (k + 1) (by omega)
          have fa : wr.frozen? ⟨blk, off + iN, none⟩ = false := by rw [hiN]; exact S.out.f (k) (by omega)
          have fb : wr.frozen? ⟨blk, off + jN, none⟩ = false := by rw [hjN]; exact S.out.f (k + 1) (by omega)
          obtain ⟨u, cc⟩ : ∃ u, (wr.setCell ⟨blk, off + iN, none⟩ (.int .i64 (gt d (k + 1) : Nat))).cell? ⟨blk, off + jN, none⟩ = some u := by
            rw [hiN, hjN]; exact S.out.c2 (k) (k + 1) (by omega) (by omega) _
          clear S
          obtain ⟨x, hx⟩ : ∃ x, x = gt d (k) := ⟨_, rfl⟩
          obtain ⟨y, hy⟩ : ∃ y, y = gt d (k + 1) := ⟨_, rfl⟩
          rw [← hx] at S3 ca
          rw [← hy] at S3 cb cc
          clear hx hy hiN hjN
          go_wp2_with fail
          go_big_region
          generalize ((wr.setCell ⟨blk, off + iN, none⟩ (.int .i64 (y : Nat))).setCell ⟨blk, off + jN, none⟩ (.int .i64 (x : Nat))).drew = w3 at S3 ⊢
          clear ea ec pa ba ra pc bc rc ca cb fa fb cc
          go_wp2
          go_roundg (i - 1 - (k + 1))
          case measure => omega
          case rel => exact ⟨k + 1, swp d k (k + 1), by go_num, by omega, by omega, by omega, S3, (show _ = _ from by rw [← HU.out, show i - 1 - k = (i - 1 - (k + 1)) + 1 by omega]; rfl)⟩
        · have hkz : ¬ (k : Int) < (i : Int) - 1 := by omega
          go_wp2
          first | go_end0 | refine bodyPost_ret (results_none rfl _ _ _) rfl ?_
          exact ⟨rfl, by rw [HE.out, ← HU.out, show i - 1 - k = 0 by omega]; exact S.out⟩

set_option maxHeartbeats 8000000 in
set_option maxRecDepth 100000 in
theorem symB_calls (w0 : World) (blk off a m b N : Nat) (w : World) (H : RW w0 blk off N w) (ham : a + 1 < m) (hb1 : m + 1 ≤ b) (hb2 : b ≤ m + 1) (hb : b ≤ 257) :
    Calls Try.prog 68 #[.slice (some ⟨blk, off, none⟩) 257 257, .int .i64 a, .int .i64 m, .int .i64 b, .func (.func 55) #[] #[]] w fun e w' => e = .returned (.tuple #[]) ∧ RW w0 blk off (dnF (m - bsB N m 300 a m) m N) w' := by
  have S0 : Aside (RW w0 blk off N w) := H
  have e1 : ((m : Int) - (a : Int) == 1) = false := beq_eq_false_iff_ne.mpr (by omega)
  have e2 : ((b : Int) - (m : Int) == 1) = true := beq_iff_eq.mpr (by omega)
  clear H
  go_enter Try.func68, Try.ntmps68
  go_wp2
  go_loopg [14, 15] 300 (fun g1 vi vj wr => ∃ (i j : Nat), vi = .int .i64 i ∧ vj = .int .i64 j ∧ a ≤ i ∧ i ≤ j ∧ j ≤ m ∧ j - i ≤ g1 ∧ Aside (RW w0 blk off N wr) ∧ Hid (bsB N m g1 i j = bsB N m 300 a m))
  case atStart => exact ⟨a, m, rfl, rfl, by omega, by omega, by omega, by omega, S0, rfl⟩
  case round =>
    clear S0
    obtain ⟨i, j, rfl, rfl, hai, hij, hjb, hg, S, HI⟩ := hrel
    by_cases hlt : i < j
    · have hlz : (i : Int) < (j : Int) := by omega
      obtain ⟨k, rfl⟩ : ∃ k, gk = k + 1 := ⟨gk - 1, by omega⟩
      go_wp2
      obtain ⟨iN, hiN⟩ : ∃ q, q = m := ⟨_, rfl⟩
      obtain ⟨jN, hjN⟩ : ∃ q, q = (i + j) / 2 := ⟨_, rfl⟩
      have ea : ((m : Int)).toNat = iN := by omega
      have pa : (0 : Int) ≤ (m : Int) := by omega
      have ba : (m : Int) < 257 := by omega
      have ra : IntKind.i64.wrap ((m : Int)) = (m : Int) := by rw [IntKind.wrap_i64]; omega
      have ec : (((i : Int) + (j : Int)) / 2).toNat = jN := by omega
      have pc : (0 : Int) ≤ ((i : Int) + (j : Int)) / 2 := by omega
      have bc : ((i : Int) + (j : Int)) / 2 < 257 := by omega
      have rc : IntKind.i64.wrap (((i : Int) + (j : Int)) / 2) = ((i : Int) + (j : Int)) / 2 := by rw [IntKind.wrap_i64]; omega
      have hC : ∀ w, Calls Try.prog 55 #[.int .i64 (gt N (m) : Nat), .int .i64 (gt N ((i + j) / 2) : Nat)] w fun e w' => e = .returned (.int .i64 (cf (gt N (m)) (gt N ((i + j) / 2)))) ∧ w' = w := fun w => cmp_calls _ _ (S.out.v (m) (by omega)) (S.out.v ((i + j) / 2) (by omega)) w
      have ca : wr.cell? ⟨blk, off + iN, none⟩ = some (.int .i64 (gt N (m) : Nat)) := by rw [hiN]; exact S.out.c (m) (by omega)
      have cb : wr.cell? ⟨blk, off + jN, none⟩ = some (.int .i64 (gt N ((i + j) / 2) : Nat)) := by rw [hjN]; exact S.out.c ((i + j) / 2) (by omega)
      have hl2 : lt (gt N (m)) (gt N ((i + j) / 2)) = decide (cf (gt N (m)) (gt N ((i + j) / 2)) < 0) := rfl
      obtain ⟨lv, hlv⟩ : ∃ lv, lv = lt (gt N (m)) (gt N ((i + j) / 2)) := ⟨_, rfl⟩
      rw [← hlv] at hl2
      have HLV := Aside0.mk hlv
      clear hlv
      have HIN := Aside0.mk hiN
      have HJN := Aside0.mk hjN
      clear hiN hjN
      generalize cf (gt N (m)) (gt N ((i + j) / 2)) = cv at hC hl2
      obtain ⟨x, hx⟩ : ∃ x, x = gt N (m) := ⟨_, rfl⟩
      obtain ⟨y, hy⟩ : ∃ y, y = gt N ((i + j) / 2) := ⟨_, rfl⟩
      rw [← hx] at hC ca
      rw [← hy] at hC cb
      clear hx hy
      cases lv with
      | true =>
        have hlt2 : decide (cv < 0) = true := hl2.symm
        have hlt3 : cv < 0 := of_decide_eq_true hlt2
        clear hl2
        go_wp2_with fail
        go_quiet (first | (go_at_call 55; exact (hC _).mono (by rintro e w' ⟨rfl, rfl⟩; exact ⟨rfl, _, rfl⟩)))
        have S2 : Aside (RW w0 blk off N (wr.drewN nq)) := S.out.drewN nq
        clear S ca cb hC
        generalize wr.drewN nq = w2 at S2 ⊢
        clear ea ec pa ba ra pc bc rc
        go_wp2
        go_roundg k
        case measure => omega
        case rel => exact ⟨i, (i + j) / 2, rfl, by first | rfl | go_num | (congr 1; omega), by omega, by omega, by omega, by omega, S2, (show _ = _ from by rw [← HI.out, bsB, if_pos hlt, if_pos HLV.out.symm])⟩
      | false =>
        have hlt2 : decide (cv < 0) = false := hl2.symm
        have hlt3 : ¬ cv < 0 := of_decide_eq_false hlt2
        clear hl2
        go_wp2_with fail
        go_quiet (first | (go_at_call 55; exact (hC _).mono (by rintro e w' ⟨rfl, rfl⟩; exact ⟨rfl, _, rfl⟩)))
        have S2 : Aside (RW w0 blk off N (wr.drewN nq)) := S.out.drewN nq
        clear S ca cb hC
        generalize wr.drewN nq = w2 at S2 ⊢
        clear ea ec pa ba ra pc bc rc
        go_wp2
        go_roundg k
        case measure => omega
        case rel => exact ⟨(i + j) / 2 + 1, j, by first | rfl | go_num | (congr 1; omega), rfl, by omega, by omega, by omega, by omega, S2, (show _ = _ from by rw [← HI.out, bsB, if_pos hlt, if_neg (by rw [← HLV.out]; decide)])⟩
    · have hlz : ¬ (i : Int) < (j : Int) := by omega
      have HE : Aside0 (bsB N m 300 a m = i) := ⟨by rw [← HI.out, bsB_stop _ _ _ _ _ hlt]⟩
      have hi1 : i ≤ m := by omega
      clear HI
      go_wp2
      go_loopg [17] 300 (fun g2 vk wr => ∃ (k d : Nat), vk = .int .i64 k ∧ i ≤ k ∧ k ≤ m ∧ k - i ≤ g2 ∧ Aside (RW w0 blk off d wr) ∧ Hid (dnF (k - i) k d = dnF (m - i) m N))
      case atStart => exact ⟨m, N, rfl, by omega, by omega, by omega, S, rfl⟩
      case round =>
        clear S
        obtain ⟨k, d, rfl, hak, hki, hg2, S, HU⟩ := hrel
        by_cases hkl : i < k
        · obtain ⟨kp, rfl⟩ : ∃ q, k = q + 1 := ⟨k - 1, by omega⟩
          have zk : (((kp + 1 : Nat)) : Int) = (kp : Int) + 1 := by omega
          have hkz : (i : Int) < (kp : Int) + 1 := by omega
          have hkz' : decide ((kp : Int) + 1 > (i : Int)) = true := decide_eq_true (by omega)
          obtain ⟨iN, hiN⟩ : ∃ q, q = kp + 1 := ⟨_, rfl⟩
          obtain ⟨jN, hjN⟩ : ∃ q, q = kp := ⟨_, rfl⟩
          have ea : ((kp : Int) + 1).toNat = iN := by omega
          have pa : (0 : Int) ≤ (kp : Int) + 1 := by omega
          have ba : (kp : Int) + 1 < 257 := by omega
          have ra : IntKind.i64.wrap ((kp : Int) + 1) = (kp : Int) + 1 := by rw [IntKind.wrap_i64]; omega
          have ec : ((kp : Int)).toNat = jN := by omega
          have pc : (0 : Int) ≤ (kp : Int) := by omega
          have bc : (kp : Int) < 257 := by omega
          have rc : IntKind.i64.wrap ((kp : Int)) = (kp : Int) := by rw [IntKind.wrap_i64]; omega
          have S3 : Aside (RW w0 blk off (swp d (kp + 1) (kp)) ((((wr).setCell ⟨blk, off + iN, none⟩ (.int .i64 (gt d (kp) : Nat))).setCell ⟨blk, off + jN, none⟩ (.int .i64 (gt d (kp + 1) : Nat)))).drew) := by
            rw [hiN, hjN]; exact S.out.swp (kp + 1) (kp) (by omega) (by omega)
          have ca : wr.cell? ⟨blk, off + iN, none⟩ = some (.int .i64 (gt d (kp + 1) : Nat)) := by rw [hiN]; exact S.out.c (kp + 1) (by omega)
          have cb : wr.cell? ⟨blk, off + jN, none⟩ = some (.int .i64 (gt d (kp) : Nat)) := by rw [hjN]; exact S.out.c (kp) (by omega)
          have fa : wr.frozen? ⟨blk, off + iN, none⟩ = false := by rw [hiN]; exact S.out.f (kp + 1) (by omega)
          have fb : wr.frozen? ⟨blk, off + jN, none⟩ = false := by rw [hjN]; exact S.out.f (kp) (by omega)
          obtain ⟨u, cc⟩ : ∃ u, (wr.setCell ⟨blk, off + iN, none⟩ (.int .i64 (gt d (kp) : Nat))).cell? ⟨blk, off + jN, none⟩ = some u := by
            rw [hiN, hjN]; exact S.out.c2 (kp + 1) (kp) (by omega) (by omega) _
          clear S
          obtain ⟨x, hx⟩ : ∃ x, x = gt d (kp + 1) := ⟨_, rfl⟩
          obtain ⟨y, hy⟩ : ∃ y, y = gt d (kp) := ⟨_, rfl⟩
          rw [← hx] at S3 ca
          rw [← hy] at S3 cb cc
          clear hx hy hiN hjN
          go_wp2_with fail
          go_big_region
          generalize ((wr.setCell ⟨blk, off + iN, none⟩ (.int .i64 (y : Nat))).setCell ⟨blk, off + jN, none⟩ (.int .i64 (x : Nat))).drew = w3 at S3 ⊢
          clear ea ec pa ba ra pc bc rc ca cb fa fb cc
          go_wp2
          go_roundg (kp - i)
          case measure => omega
          case rel => exact ⟨kp, swp d (kp + 1) kp, by first | rfl | go_num | (congr 1; omega), by omega, by omega, by omega, S3, (show _ = _ from by rw [← HU.out, show kp + 1 - i = (kp - i) + 1 by omega]; rfl)⟩
        · have hkz : ¬ (i : Int) < (k : Int) := by omega
          have hkz' : decide ((k : Int) > (i : Int)) = false := decide_eq_false (by omega)
          go_wp2
          first | go_end0 | refine bodyPost_ret (results_none rfl _ _ _) rfl ?_
          exact ⟨rfl, by rw [HE.out, ← HU.out, show k - i = 0 by omega]; exact S.out⟩

end Go.Proofs.Ythfildmldppihaa.Gd
