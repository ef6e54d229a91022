/- The symbol with a code of a length. -/
import Derived.Test.YthfildmldppihaaGl
namespace Go.Proofs.Ythfildmldppihaa.Gm
open Go.RowKit Go.Proofs.Ythfildmldppihaa.Ga Go.Proofs.Ythfildmldppihaa.Gb Go.Proofs.Ythfildmldppihaa.Gg Go.Proofs.Ythfildmldppihaa.Gh Go.Proofs.Ythfildmldppihaa.Gi Go.Proofs.Ythfildmldppihaa.Gj Go.Proofs.Ythfildmldppihaa.Gk Go.Proofs.Ythfildmldppihaa.Gl Go.Proofs.YthfildmldppihaaW.PrintWords Go.Proofs.YthfildmldppihaaW.PrintLast Go.Proofs.YthfildmldppihaaW.PrintMore
/-- The first code of a length. -/
def F (n : Nat) : Nat := fs 257 n
theorem F_bd : ∀ n, n < 31 → F n < 1073741824 := by decide +kernel
theorem cn_all : ∀ n, n < 31 → cn 257 n = K n := by decide +kernel
theorem bg_all : ∀ n, n < 31 → 0 < K n → bg 257 n = S n := by decide +kernel
theorem bg_bd : ∀ n, n < 31 → bg 257 n ≤ 257 := by decide +kernel
/-- The symbol, or -1. -/
def sy (code n : Nat) : Int := if 0 < K n ∧ F n ≤ code ∧ code < F n + K n then (o (S n + (code - F n)) : Nat) else -1

set_option maxHeartbeats 4000000 in
set_option maxRecDepth 100000 in
theorem symbol_calls (b : Nat) (code n : Nat) (hc : code < 4294967296) (hn : n < 31) (w : World) (H : Md b w) :
    Calls Try.prog 46 #[.pointer (some ⟨b, 0, none⟩), .int .u32 code, .int .i64 n] w fun e w' => e = .returned (.int .i64 (sy code n)) ∧ Drawn0 w w' := by
  have hu80 := Try.underlying80
  have hu81 := Try.underlying81
  have hu82 := Try.underlying82
  have hu84 := Try.underlying84
  have mixed : Try.prog.follows .mixedOrders = true := by kernel_rfl
  have cf := H.tb.fst n hn
  have cc := H.tb.cnt n hn
  have cb := H.tb.beg n hn
  have hF := F_bd n hn
  have hKS := S_bd n hn
  have hb := bg_bd n hn
  have hbg := bg_all n hn
  rw [show fs 257 n = F n from rfl] at cf
  rw [cn_all n hn] at cc
  have HS : Aside0 (sy code n = if 0 < K n ∧ F n ≤ code ∧ code < F n + K n then ((o (S n + (code - F n)) : Nat) : Int) else -1) := ⟨rfl⟩
  have hnz : (n : Int) < 31 := by omega
  generalize F n = f at *
  generalize K n = k at *
  obtain ⟨s, hs⟩ : ∃ s, s = bg 257 n := ⟨_, rfl⟩
  rw [← hs] at cb hb hbg
  have HTB := Aside0.mk H.tb
  clear H hs
  obtain ⟨hS1, hk, hSk⟩ := hKS
  by_cases h1 : 0 < k
  · have e1 : decide ((k : Int) > 0) = true := decide_eq_true (by omega)
    have e1' : (0 : Int) < (k : Int) := by omega
    have hbs := hbg h1
    by_cases h2 : f ≤ code
    · have e2 : (0 : Int) ≤ (code : Int) - (f : Int) := by omega
      by_cases h3 : code < f + k
      · have e3 : (code : Int) - (f : Int) < (k : Int) := by omega
        obtain ⟨q, hq⟩ : ∃ q, q = s + (code - f) := ⟨_, rfl⟩
        have zq : (s : Int) + ((code : Int) - (f : Int)) = (q : Int) := by omega
        have hq2 : q < 257 := by omega
        have hq3 : (q : Int) < 257 := by omega
        have co := HTB.out.order q hq2
        have HQ : Aside0 (sy code n = (o q : Nat)) := ⟨by rw [HS.out, if_pos ⟨h1, h2, h3⟩, hq, hbs]⟩
        generalize o q = v at co HQ
        clear hbs hbg hq
        go_enter Try.func46, Try.ntmps46
        go_wp2
        go_quiet (fail)
        go_wp2
        go_ret
        exact ⟨by rw [HQ.out]; rfl, by repeat (first | exact Drawn0.refl _ | apply Drawn0.step)⟩
      · have e3 : ¬ (code : Int) - (f : Int) < (k : Int) := by omega
        have HQ : Aside0 (sy code n = -1) := ⟨by rw [HS.out, if_neg (by omega)]⟩
        clear hbs hbg
        go_enter Try.func46, Try.ntmps46
        go_wp2
        go_ret
        exact ⟨by rw [HQ.out]; rfl, by repeat (first | exact Drawn0.refl _ | apply Drawn0.step)⟩
    · have e2 : ¬ (0 : Int) ≤ (code : Int) - (f : Int) := by omega
      have HQ : Aside0 (sy code n = -1) := ⟨by rw [HS.out, if_neg (by omega)]⟩
      clear hbs hbg
      go_enter Try.func46, Try.ntmps46
      go_wp2
      go_ret
      exact ⟨by rw [HQ.out]; rfl, by repeat (first | exact Drawn0.refl _ | apply Drawn0.step)⟩
  · have e1 : decide ((k : Int) > 0) = false := decide_eq_false (by omega)
    have e1' : ¬ (0 : Int) < (k : Int) := by omega
    have HQ : Aside0 (sy code n = -1) := ⟨by rw [HS.out, if_neg (by omega)]⟩
    clear hbg
    go_enter Try.func46, Try.ntmps46
    go_wp2
    go_ret
    exact ⟨by rw [HQ.out]; rfl, by repeat (first | exact Drawn0.refl _ | apply Drawn0.step)⟩
end Go.Proofs.Ythfildmldppihaa.Gm
