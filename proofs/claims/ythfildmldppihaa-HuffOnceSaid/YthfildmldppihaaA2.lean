/- The stable sort, whole. What the stable sort makes of the symbols in their own order. sync.Once in one goroutine: the function is called the first time and not again. Its parts were turned from a worked text of the kit (Lazy). The canonical codes: their tables, and what holds of each by reckoning. -/
import Derived.Test.YthfildmldppihaaGe
import Derived.Tactics
import Derived.Tactics2
import Derived.Defers
import Derived.Laws.Pointers
import Derived.Laws.LoneSync
import Derived.RegionTactic
import Derived.RegionCalls
import Derived.ChangeAlike
/- The stable sort, whole. -/
namespace Go.Proofs.Ythfildmldppihaa.Gf
open Go.RowKit Go.Proofs.Ythfildmldppihaa.Ga Go.Proofs.Ythfildmldppihaa.Gb Go.Proofs.Ythfildmldppihaa.Gc Go.Proofs.Ythfildmldppihaa.Gd Go.Proofs.Ythfildmldppihaa.Ge Go.Proofs.YthfildmldppihaaW.PrintWords Go.Proofs.YthfildmldppihaaW.PrintLast Go.Proofs.YthfildmldppihaaW.PrintMore

theorem sym_ok (w0 : World) (blk off : Nat) : ∀ f, SymOk w0 blk off f := by
  intro f
  induction f with
  | zero => intro a m b N w _ h1 h2 _ h4; omega
  | succ f ih =>
    intro a m b N w H h1 h2 h3 h4
    by_cases hA : m - a = 1
    · have := symA_calls w0 blk off a m b N w H (by omega) (by omega) h2 h3
      rw [sym, if_pos hA]
      exact this
    · by_cases hB : b - m = 1
      · have := symB_calls w0 blk off a m b N w H (by omega) (by omega) (by omega) h3
        rw [sym, if_neg hA, if_pos hB]
        exact this
      · by_cases hm : (a + b) / 2 < m
        · exact symCL w0 blk off f ih a m b _ N w H (by omega) (by omega) h3 h4 rfl hm
        · exact symCR w0 blk off f ih a m b _ N w H (by omega) (by omega) h3 h4 rfl hm

def blocks : Nat → Nat → Nat → Nat → Nat
  | 0, _, _, d => d
  | k + 1, a, b, d => if b ≤ 257 then blocks k b (b + 20) (ins d a b) else ins d a 257
def lev (bs : Nat) : Nat → Nat → Nat → Nat → Nat
  | 0, _, _, d => d
  | k + 1, a, b, d => if b ≤ 257 then lev bs k b (b + 2 * bs) (sym 300 a (a + bs) b d) else if a + bs < 257 then sym 300 a (a + bs) 257 d else d
def levels : Nat → Nat → Nat → Nat
  | 0, _, d => d
  | k + 1, bs, d => if bs < 257 then levels k (2 * bs) (lev bs 300 0 (2 * bs) d) else d
def stable (d : Nat) : Nat := levels 5 20 (blocks 20 0 20 d)
theorem levels_stop (k bs d : Nat) (h : ¬ bs < 257) : levels k bs d = d := by cases k <;> simp [levels, h]

set_option maxHeartbeats 8000000 in
set_option maxRecDepth 100000 in
theorem stable_calls (w0 : World) (blk off N : Nat) (w : World) (H : RW w0 blk off N w) :
    Calls Try.prog 60 #[.slice (some ⟨blk, off, none⟩) 257 257, .int .i64 257, .func (.func 55) #[] #[]] w fun e w' => e = .returned (.tuple #[]) ∧ RW w0 blk off (stable N) w' := by
  have S0 : Aside (RW w0 blk off N w) := H
  clear H
  go_enter Try.func60, Try.ntmps60
  go_wp2
  go_loopg [7, 8] 20 (fun g1 vi vj wr => ∃ (a d : Nat), vi = .int .i64 a ∧ vj = .int .i64 ((a + 20 : Nat) : Int) ∧ a ≤ 257 ∧ 280 ≤ a + 20 * g1 ∧ Aside (RW w0 blk off d wr) ∧ Hid (blocks g1 a (a + 20) d = blocks 20 0 20 N))
  case atStart => exact ⟨0, N, rfl, rfl, by omega, by omega, S0, rfl⟩
  case round =>
    clear S0
    obtain ⟨a, d, rfl, rfl, ha, hg, S, HI⟩ := hrel
    have zb : ((a + 20 : Nat) : Int) = (a : Int) + 20 := by omega
    obtain ⟨k, rfl⟩ : ∃ k, gk = k + 1 := ⟨gk - 1, by omega⟩
    by_cases hb : a + 20 ≤ 257
    · have hz : (a : Int) + 20 ≤ 257 := by omega
      have HC := Aside0.mk (insertion_calls w0 blk off a (a + 20) d wr S.out (by omega) hb)
      clear S
      go_wp2_with (go_at_call 67; refine HC.out.mono ?_; rintro e w' ⟨rfl, hw⟩; have S : Aside (RW w0 blk off (ins d a (a + 20)) w') := hw; clear hw HC)
      go_roundg k
      case measure => omega
      case rel => exact ⟨a + 20, _, by first | rfl | go_num | (congr 1; omega), by first | rfl | go_num | (congr 1; omega), by omega, by omega, S, (show _ = _ from by rw [← HI.out]; conv => rhs; rw [blocks, if_pos hb])⟩
    · have hz : ¬ (a : Int) + 20 ≤ 257 := by omega
      have HB : Aside0 (blocks 20 0 20 N = ins d a 257) := ⟨by rw [← HI.out, blocks, if_neg hb]⟩
      have HC := Aside0.mk (insertion_calls w0 blk off a 257 d wr S.out ha (by omega))
      clear S HI
      go_wp2_with (go_at_call 67; refine HC.out.mono ?_; rintro e w' ⟨rfl, hw⟩; have S : Aside (RW w0 blk off (blocks 20 0 20 N) w') := (by rw [HB.out]; exact hw); clear hw HC)
      go_loopg [6] 5 (fun g1 vi wr => ∃ (bs d : Nat), vi = .int .i64 bs ∧ ((bs = 20 ∧ g1 = 5) ∨ (bs = 40 ∧ g1 = 4) ∨ (bs = 80 ∧ g1 = 3) ∨ (bs = 160 ∧ g1 = 2) ∨ (bs = 320 ∧ g1 = 1)) ∧ Aside (RW w0 blk off d wr) ∧ Hid (levels g1 bs d = stable N))
      case atStart => exact ⟨20, _, rfl, .inl ⟨rfl, rfl⟩, S, rfl⟩
      case round =>
        clear S HB
        obtain ⟨bs, d, rfl, hbs, S, HL⟩ := hrel
        have HBS := Aside0.mk hbs
        have hb1 : 20 ≤ bs := by omega
        have hb2 : bs ≤ 320 := by omega
        by_cases hlt : bs < 257
        · have hlz : (bs : Int) < 257 := by omega
          obtain ⟨k, rfl⟩ : ∃ k, gk = k + 1 := ⟨gk - 1, by omega⟩
          clear hbs
          go_wp2
          go_loopg [7, 8] 300 (fun g2 vi vj wr => ∃ (a b d2 : Nat), vi = .int .i64 a ∧ vj = .int .i64 b ∧ a + 2 * bs ≤ b ∧ b ≤ a + 2 * bs ∧ a ≤ 257 ∧ 257 < a + g2 ∧ Aside (RW w0 blk off d2 wr) ∧ Hid (lev bs g2 a b d2 = lev bs 300 0 (2 * bs) d))
          case atStart => exact ⟨0, 2 * bs, d, rfl, by first | rfl | go_num | (congr 1; omega), by omega, by omega, by omega, by omega, S, rfl⟩
          case round =>
            clear S
            obtain ⟨a, b, d2, rfl, rfl, hab, hab2, ha, hg2, S, HV⟩ := hrel
            obtain ⟨k2, rfl⟩ : ∃ k, gk = k + 1 := ⟨gk - 1, by omega⟩
            by_cases hb : b ≤ 257
            · have hz : (b : Int) ≤ 257 := by omega
              obtain ⟨m, hm⟩ : ∃ m, m = a + bs := ⟨_, rfl⟩
              have zm : (a : Int) + (bs : Int) = (m : Int) := by omega
              have HC := Aside0.mk (sym_ok w0 blk off 300 a m b d2 wr S.out (by omega) (by omega) hb (by omega))
              have HM := Aside0.mk hm
              clear S hm
              go_wp2_with (go_at_call 68; refine HC.out.mono ?_; rintro e w' ⟨rfl, hw⟩; have S : Aside (RW w0 blk off (sym 300 a m b d2) w') := hw; clear hw HC)
              go_roundg k2
              case measure => omega
              case rel => exact ⟨b, b + 2 * bs, _, rfl, by first | rfl | go_num | (congr 1; omega), by omega, by omega, by omega, by omega, S, (show _ = _ from by rw [← HV.out, HM.out]; conv => rhs; rw [lev, if_pos hb])⟩
            · have hz : ¬ (b : Int) ≤ 257 := by omega
              obtain ⟨m, hm⟩ : ∃ m, m = a + bs := ⟨_, rfl⟩
              have zm : (a : Int) + (bs : Int) = (m : Int) := by omega
              by_cases hmn : m < 257
              · have hmz : (m : Int) < 257 := by omega
                have HC := Aside0.mk (sym_ok w0 blk off 300 a m 257 d2 wr S.out (by omega) (by omega) (by omega) (by omega))
                have HVV : Aside0 (lev bs 300 0 (2 * bs) d = sym 300 a m 257 d2) := ⟨by rw [← HV.out, lev, if_neg hb, ← hm, if_pos hmn]⟩
                clear S hm HV
                go_wp2_with (go_at_call 68; refine HC.out.mono ?_; rintro e w' ⟨rfl, hw⟩; have S : Aside (RW w0 blk off (lev bs 300 0 (2 * bs) d) w') := (by rw [HVV.out]; exact hw); clear hw HC)
                go_roundg k
                case measure => omega
                case rel => exact ⟨2 * bs, _, by first | rfl | go_num | (congr 1; omega), by have := HBS.out; omega, S, (show _ = _ from by rw [← HL.out]; conv => rhs; rw [levels, if_pos hlt])⟩
              · have hmz : ¬ (m : Int) < 257 := by omega
                have HVV : Aside0 (lev bs 300 0 (2 * bs) d = d2) := ⟨by rw [← HV.out, lev, if_neg hb, ← hm, if_neg hmn]⟩
                clear hm HV
                go_wp2
                go_roundg k
                case measure => omega
                case rel => exact ⟨2 * bs, _, by first | rfl | go_num | (congr 1; omega), by have := HBS.out; omega, S, (show _ = _ from by rw [← HL.out, ← HVV.out]; conv => rhs; rw [levels, if_pos hlt])⟩
        · have hlz : ¬ (bs : Int) < 257 := by omega
          clear hbs
          go_wp2
          go_end0
          exact ⟨rfl, by rw [← HL.out, levels_stop _ _ _ hlt]; exact S.out⟩

set_option maxHeartbeats 2000000 in
set_option maxRecDepth 100000 in
theorem sortStable_calls (w0 : World) (blk off N : Nat) (w : World) (H : RW w0 blk off N w) :
    Calls Try.prog 54 #[.slice (some ⟨blk, off, none⟩) 257 257, .func (.func 55) #[] #[]] w fun e w' => e = .returned (.tuple #[]) ∧ RW w0 blk off (stable N) w' := by
  have HC := Aside0.mk (stable_calls w0 blk off N w H)
  clear H
  go_enter Try.func54, Try.ntmps54
  go_wp2_with (go_at_call 60; refine HC.out.mono ?_; rintro e w' ⟨rfl, hw⟩)
  go_end0
  exact ⟨rfl, hw⟩
end Go.Proofs.Ythfildmldppihaa.Gf

/- What the stable sort makes of the symbols in their own order. -/
namespace Go.Proofs.Ythfildmldppihaa.Gg
open Go.Proofs.Ythfildmldppihaa.Ga Go.Proofs.Ythfildmldppihaa.Gb Go.Proofs.Ythfildmldppihaa.Gf
/-- The symbols in their own order. -/
def row0 : Nat := 959833085622468781511531373854315869201878125748128403010538202661022320432292404754085297299474090157560480868108029244130657540861951664783157479755754505993387506340756102183434581738030850616013390745595252030625123606854821676342527580607335226870394915361038261270831292606710242757302500412656604910992014795640108870829942456887776059067330090265668144475453829216582843152596680655302806035305225615341576194881169112839869299366567244442594884072877268854188973424640350459022324796340891116764024494712180350670562385884793556376921399671871167228874643958761341954378443993983178824170611161634598449421777495933850179426357737168597800699712093469911998799412301087537298797025034752
/-- The symbols, the shorter codes first. -/
def rowS : Nat := 958126711861008924174727833134821517044029075559507188719750788970182944804540306620444057187600138107764483860295479627263777434921667296999483736597070627616921661135665514611317435697355120637746800114239126834050841505713246491234273502705996029930893736447259982488481085938917664474295011285251839597906849379801022003800340750811599200550167858470268856741576264419129331266417873177907160045854938773359811046872187554350749925755064485645122805161509370849221920574670787962009527179559520254283871060785008489223081264582225926838138464884275047431841091939508493491620159687185017823424462619195396351932368334201780248398263004638724943865472514789205536560358458300423227691976122928
theorem row0_at : ∀ i, i < 257 → gt row0 i = i := by decide +kernel
theorem sorted : stable row0 = rowS := by decide +kernel
end Go.Proofs.Ythfildmldppihaa.Gg

/- sync.Once in one goroutine: the function is called the first time and not again. Its parts were turned from a worked text of the kit (Lazy). -/
namespace Go.Proofs.Ythfildmldppihaa.Gh
open Go.RowKit Go.Proofs.Ythfildmldppihaa.Gb Go.Proofs.YthfildmldppihaaW.PrintWords Go.Proofs.YthfildmldppihaaW.PrintLast Go.Proofs.YthfildmldppihaaW.PrintMore

theorem disable (w : World) : (callFunc 74 #[]).run Try.prog w = .ok (.value (.tuple #[])) w := run_call_mark0 Try.func74 (by kernel_rfl) (by kernel_rfl) (by kernel_rfl) .disable (by kernel_rfl) w
theorem enable (w : World) : (callFunc 76 #[]).run Try.prog w = .ok (.value (.tuple #[])) w := run_call_mark0 Try.func76 (by kernel_rfl) (by kernel_rfl) (by kernel_rfl) .enable (by kernel_rfl) w
theorem acquire (a : Addr) (w : World) : (callFunc 77 #[.pointer (some a)]).run Try.prog w = .ok (.value (.tuple #[])) w := run_call_marked Try.func77 (by kernel_rfl) (by kernel_rfl) (by kernel_rfl) .acquire (by kernel_rfl) a w
theorem releaseMerge (a : Addr) (w : World) : (callFunc 79 #[.pointer (some a)]).run Try.prog w = .ok (.value (.tuple #[])) w := run_call_marked Try.func79 (by kernel_rfl) (by kernel_rfl) (by kernel_rfl) .releaseMerge (by kernel_rfl) a w

set_option maxRecDepth 100000 in
set_option maxHeartbeats 1600000 in
theorem store_deferred (a : Addr) (x : Value) (u : FrameMode) (w : World) (hc : w.cell? a = some x) (hz : w.frozen? a = false) :
    CallsD Try.prog 66 #[.pointer (some a), .bool true] u w fun e u' w' => u' = u ∧ (e = .returned (.tuple #[]) ∧ w' = w.drew.setCell a (.int .u32 1)) := by
  have hc' : w.drew.cell? a = some x := by go_simp
  have hz' : w.drew.frozen? a = false := by go_simp
  have hst := run_call_store (P := Try.prog) Try.func71 (by kernel_rfl) (by kernel_rfl) (by kernel_rfl) (by kernel_rfl) (k := .u32) (y := 1) hc' hz'
  go_enter_d Try.func66, Try.ntmps66
  go_wp2
  go_region_calls
  all_goals (go_end0; exact ⟨rfl, rfl⟩)

set_option maxRecDepth 100000 in
set_option maxHeartbeats 1600000 in
theorem unlock_deferred (a : Addr) (u : FrameMode) (w : World) (hc : w.cell? a = some (.int .i32 1)) (hz : w.frozen? a = false) :
    CallsD Try.prog 65 #[.pointer (some a)] u w fun e u' w' => u' = u ∧ (e = .returned (.tuple #[]) ∧ w' = w.setCell a (.int .i32 0)) := by
  have hd := disable
  have he := enable
  have hr := releaseMerge
  have hadd := run_call_add (P := Try.prog) Try.func80 (by kernel_rfl) (by kernel_rfl) (by kernel_rfl) .i32 (by kernel_rfl) (y := -1) (s := 0) hc hz (by simp [go_sem]; rfl)
  have hcv := run_convert_to_unsafe (P := Try.prog) (src := 112) (dst := 116) Try.underlying112 Try.underlying116 (by kernel_rfl) hc
  go_enter_d Try.func65, Try.ntmps65
  go_wp2
  go_end0
  go_wp2
  go_end0
  exact ⟨rfl, rfl⟩

set_option maxRecDepth 100000 in
set_option maxHeartbeats 1600000 in
theorem lock_free (a : Addr) (w : World) (hc : w.cell? a = some (.int .i32 0)) (hz : w.frozen? a = false) :
    Calls Try.prog 64 #[.pointer (some a)] w fun e w' => e = .returned (.tuple #[]) ∧ w' = w.setCell a (.int .i32 1) := by
  have hd := disable
  have he := enable
  have ha := acquire
  have hcas := run_call_cas_hit (P := Try.prog) Try.func75 (by kernel_rfl) (by kernel_rfl) (by kernel_rfl) .i32 (by kernel_rfl) (y := 1) hc hz
  have hc' : (w.setCell a (.int .i32 1)).cell? a = some (.int .i32 1) := World.cell?_setCell_same w a _ hc
  have hcv := run_convert_to_unsafe (P := Try.prog) (src := 112) (dst := 116) Try.underlying112 Try.underlying116 (by kernel_rfl) hc'
  go_enter Try.func64, Try.ntmps64
  go_wp2
  first | go_end0 | (simp only [Exit.inBlock, Exit.then]; refine bodyPost_ret (results_none rfl _ _ _) rfl ?_) | refine bodyPost_ret (results_none rfl _ _ _) rfl ?_
  go_wp2
  go_end0
  exact ⟨rfl, rfl⟩

set_option maxRecDepth 100000 in
set_option maxHeartbeats 1600000 in
theorem boolLoad (a : Addr) (x : Int) (w : World) (h0 : w.cell? a = some (.int .u32 x)) :
    Calls Try.prog 58 #[.pointer (some a)] w fun e w' => e = .returned (.bool (x != 0)) ∧ w' = w := by
  have hl := run_call_load (P := Try.prog) Try.func63 (by kernel_rfl) (by kernel_rfl) (by kernel_rfl) .u32 (by kernel_rfl) h0
  go_enter Try.func58, Try.ntmps58
  go_wp2
  go_ret
  exact ⟨rfl, rfl⟩

set_option maxRecDepth 100000 in
set_option maxHeartbeats 1600000 in
/-- doSlow, not yet done, the lock free. -/
theorem slow_any (b : Nat) (pl : Addr) (w : World) (R : World → Prop)
    (h0 : w.cell? ⟨b, 0, none⟩ = some (.int .u32 0)) (h1 : w.cell? ⟨b, 1, none⟩ = some (.int .i32 0)) (f1 : w.frozen? ⟨b, 1, none⟩ = false)
    (hF : Calls Try.prog 53 #[.pointer (some pl)] (w.setCell ⟨b, 1, none⟩ (.int .i32 1)) fun e w' => e = .returned (.tuple #[]) ∧ R w')
    (hR : ∀ w', R w' → w'.cell? ⟨b, 0, none⟩ = some (.int .u32 0) ∧ w'.frozen? ⟨b, 0, none⟩ = false ∧ w'.cell? ⟨b, 1, none⟩ = some (.int .i32 1) ∧ w'.frozen? ⟨b, 1, none⟩ = false) :
    Calls Try.prog 59 #[.pointer (some ⟨b, 0, none⟩), .func (.func 53) #[] #[.pointer (some pl)]] w fun e w' => e = .returned (.tuple #[]) ∧
      ∃ w1, R w1 ∧ w' = (w1.drew.setCell ⟨b, 0, none⟩ (.int .u32 1)).setCell ⟨b, 1, none⟩ (.int .i32 0) := by
  have HL := Aside0.mk (boolLoad ⟨b, 0, none⟩ 0 (w.setCell ⟨b, 1, none⟩ (.int .i32 1)) ((World.cell?_setCell_other _ ⟨b, 1, none⟩ ⟨b, 0, none⟩ _ (by simp)).trans h0))
  have hnot : ∀ (x : Bool) (w : World), (Op.unary .not (.bool x)).run Try.prog w = .ok (.bool (!x)) w := fun _ _ => rfl
  have HF := Aside0.mk hF
  clear hF
  go_enter_defers Try.func59, Try.ntmps59
  go_wp2_with (first | (go_at_call 58; refine HL.out.mono ?_; rintro e w' ⟨rfl, rfl⟩) | (go_at_call 64; refine (lock_free ⟨b, 1, none⟩ _ (by go_simp) (by go_simp)).mono ?_; rintro e w' ⟨rfl, rfl⟩) | (go_at_call 53; refine HF.out.mono ?_; rintro e w1 ⟨rfl, hw⟩; obtain ⟨g0, gf0, g1, gf1⟩ := hR w1 hw; have HW := Aside0.mk hw; clear hw))
  refine leaves_cons (f := 66) (args := #[.pointer (some ⟨b, 0, none⟩), .bool true]) (by simp) (by simp [go_sem]) ?_
  refine (store_deferred ⟨b, 0, none⟩ (.int .u32 0) .returning _ g0 gf0).mono ?_
  rintro e u' w'' ⟨rfl, rfl, rfl⟩
  refine leaves_cons (f := 65) (args := #[.pointer (some ⟨b, 1, none⟩)]) (by simp [settle]) (by simp [go_sem]) ?_
  refine (unlock_deferred ⟨b, 1, none⟩ _ _ ((World.cell?_setCell_other w1.drew ⟨b, 0, none⟩ ⟨b, 1, none⟩ (.int .u32 1) (by simp)).trans g1) (by rw [World.frozen?_setCell]; exact gf1)).mono ?_
  rintro e u' w'' ⟨rfl, rfl, rfl⟩
  simp only [Leaves, settle]
  exact ⟨_, results_none rfl _ _ _, rfl, w1, HW.out, rfl⟩

set_option maxRecDepth 100000 in
set_option maxHeartbeats 1600000 in
theorem do_first (b : Nat) (pl : Addr) (w : World) (R : World → Prop)
    (h0 : w.cell? ⟨b, 0, none⟩ = some (.int .u32 0)) (h1 : w.cell? ⟨b, 1, none⟩ = some (.int .i32 0)) (f1 : w.frozen? ⟨b, 1, none⟩ = false)
    (hF : Calls Try.prog 53 #[.pointer (some pl)] (w.setCell ⟨b, 1, none⟩ (.int .i32 1)) fun e w' => e = .returned (.tuple #[]) ∧ R w')
    (hR : ∀ w', R w' → w'.cell? ⟨b, 0, none⟩ = some (.int .u32 0) ∧ w'.frozen? ⟨b, 0, none⟩ = false ∧ w'.cell? ⟨b, 1, none⟩ = some (.int .i32 1) ∧ w'.frozen? ⟨b, 1, none⟩ = false) :
    Calls Try.prog 52 #[.pointer (some ⟨b, 0, none⟩), .func (.func 53) #[] #[.pointer (some pl)]] w fun e w' => e = .returned (.tuple #[]) ∧
      ∃ w1, R w1 ∧ w' = (w1.drew.setCell ⟨b, 0, none⟩ (.int .u32 1)).setCell ⟨b, 1, none⟩ (.int .i32 0) := by
  have HL := Aside0.mk (boolLoad ⟨b, 0, none⟩ 0 w h0)
  have HS := Aside0.mk (slow_any b pl w R h0 h1 f1 hF hR)
  have hnot : ∀ (x : Bool) (w : World), (Op.unary .not (.bool x)).run Try.prog w = .ok (.bool (!x)) w := fun _ _ => rfl
  clear hF hR h0 h1 f1
  go_enter Try.func52, Try.ntmps52
  go_wp2_with (first | (go_at_call 58; refine HL.out.mono ?_; rintro e w' ⟨rfl, rfl⟩) | (go_at_call 59; refine HS.out.mono ?_; rintro e w' ⟨rfl, hw⟩; have HW := Aside0.mk hw; clear hw))
  go_end0
  exact ⟨rfl, HW.out⟩

set_option maxRecDepth 100000 in
set_option maxHeartbeats 1600000 in
theorem do_done (b : Nat) (fv : Value) (w : World) (h0 : w.cell? ⟨b, 0, none⟩ = some (.int .u32 1)) :
    Calls Try.prog 52 #[.pointer (some ⟨b, 0, none⟩), fv] w fun e w' => e = .returned (.tuple #[]) ∧ w' = w := by
  have HL := Aside0.mk (boolLoad ⟨b, 0, none⟩ 1 w h0)
  have hnot : ∀ (x : Bool) (w : World), (Op.unary .not (.bool x)).run Try.prog w = .ok (.bool (!x)) w := fun _ _ => rfl
  clear h0
  go_enter Try.func52, Try.ntmps52
  go_wp2_with (first | (go_at_call 58; refine HL.out.mono ?_; rintro e w' ⟨rfl, rfl⟩))
  go_end0
  exact ⟨rfl, rfl⟩

set_option maxRecDepth 100000 in
set_option maxHeartbeats 1600000 in
theorem add_calls (a : Addr) (x : Int) (hx : 0 ≤ x ∧ x < 1000) (w : World) (h0 : w.cell? a = some (.int .i64 x)) (hz : w.frozen? a = false) :
    Calls Try.prog 57 #[.pointer (some a), .int .i64 1] w fun e w' => e = .returned (.int .i64 (x + 1)) ∧ w' = w.setCell a (.int .i64 (x + 1)) := by
  have hadd := run_call_add (P := Try.prog) Try.func62 (by kernel_rfl) (by kernel_rfl) (by kernel_rfl) .i64 (by kernel_rfl) (y := 1) (s := x + 1) h0 hz (by simp [go_sem]; rw [IntKind.wrap_i64]; omega)
  go_enter Try.func57, Try.ntmps57
  go_wp2
  go_ret
  exact ⟨rfl, rfl⟩

set_option maxRecDepth 100000 in
set_option maxHeartbeats 1600000 in
theorem made_calls (b : Nat) (x : Int) (w : World) (h0 : w.cell? ⟨b, 3, none⟩ = some (.int .i64 x)) :
    Calls Try.prog 29 #[.pointer (some ⟨b, 0, none⟩)] w fun e w' => e = .returned (.int .i64 x) ∧ w' = w := by
  have hl := run_call_load (P := Try.prog) Try.func51 (by kernel_rfl) (by kernel_rfl) (by kernel_rfl) .i64 (by kernel_rfl) h0
  go_enter Try.func29, Try.ntmps29
  go_wp2
  go_ret
  exact ⟨rfl, rfl⟩
end Go.Proofs.Ythfildmldppihaa.Gh

/- The canonical codes: their tables, and what holds of each by reckoning. -/
namespace Go.Proofs.Ythfildmldppihaa.Gi
open Go.Proofs.Ythfildmldppihaa.Ga Go.Proofs.Ythfildmldppihaa.Gb Go.Proofs.Ythfildmldppihaa.Gf Go.Proofs.Ythfildmldppihaa.Gg
def codes : List Nat := [8184, 8388568, 268435426, 268435427, 268435428, 268435429, 268435430, 268435431, 268435432, 16777194, 1073741820, 268435433, 268435434, 1073741821, 268435435, 268435436, 268435437, 268435438, 268435439, 268435440, 268435441, 268435442, 1073741822, 268435443, 268435444, 268435445, 268435446, 268435447, 268435448, 268435449, 268435450, 268435451, 20, 1016, 1017, 4090, 8185, 21, 248, 2042, 1018, 1019, 249, 2043, 250, 22, 23, 24, 0, 1, 2, 25, 26, 27, 28, 29, 30, 31, 92, 251, 32764, 32, 4091, 1020, 8186, 33, 93, 94, 95, 96, 97, 98, 99, 100, 101, 102, 103, 104, 105, 106, 107, 108, 109, 110, 111, 112, 113, 114, 252, 115, 253, 8187, 524272, 8188, 16380, 34, 32765, 3, 35, 4, 36, 5, 37, 38, 39, 6, 116, 117, 40, 41, 42, 7, 43, 118, 44, 8, 9, 45, 119, 120, 121, 122, 123, 32766, 2044, 16381, 8189, 268435452, 1048550, 4194258, 1048551, 1048552, 4194259, 4194260, 4194261, 8388569, 4194262, 8388570, 8388571, 8388572, 8388573, 8388574, 16777195, 8388575, 16777196, 16777197, 4194263, 8388576, 16777198, 8388577, 8388578, 8388579, 8388580, 2097116, 4194264, 8388581, 4194265, 8388582, 8388583, 16777199, 4194266, 2097117, 1048553, 4194267, 4194268, 8388584, 8388585, 2097118, 8388586, 4194269, 4194270, 16777200, 2097119, 4194271, 8388587, 8388588, 2097120, 2097121, 4194272, 2097122, 8388589, 4194273, 8388590, 8388591, 1048554, 4194274, 4194275, 4194276, 8388592, 4194277, 4194278, 8388593, 67108832, 67108833, 1048555, 524273, 4194279, 8388594, 4194280, 33554412, 67108834, 67108835, 67108836, 134217694, 134217695, 67108837, 16777201, 33554413, 524274, 2097123, 67108838, 134217696, 134217697, 67108839, 134217698, 16777202, 2097124, 2097125, 67108840, 67108841, 268435453, 134217699, 134217700, 134217701, 1048556, 16777203, 1048557, 2097126, 4194281, 2097127, 2097128, 8388595, 4194282, 4194283, 33554414, 33554415, 16777204, 16777205, 67108842, 8388596, 67108843, 134217702, 67108844, 67108845, 134217703, 134217704, 134217705, 134217706, 134217707, 268435454, 134217708, 134217709, 134217710, 134217711, 134217712, 67108846, 1073741823]
def counts : List Nat := [0, 0, 0, 0, 0, 10, 26, 32, 6, 0, 5, 3, 2, 6, 2, 3, 0, 0, 0, 3, 8, 13, 26, 29, 12, 4, 15, 19, 29, 0, 4]
def starts : List Nat := [0, 0, 0, 0, 0, 0, 10, 36, 68, 74, 74, 79, 82, 84, 90, 92, 95, 95, 95, 95, 98, 106, 119, 145, 174, 186, 190, 205, 224, 253, 253]
/-- A symbol's code. -/
def C (x : Nat) : Nat := codes.getD x 0
/-- How many symbols have so many bits; how many have fewer. -/
def K (n : Nat) : Nat := counts.getD n 0
def S (n : Nat) : Nat := starts.getD n 0
/-- The symbol at a place of the sorted row. -/
def o (i : Nat) : Nat := gt rowS i
theorem o_bd : ∀ i, i < 257 → o i < 257 := by decide +kernel
theorem C_bd : ∀ x, x < 257 → C x < 1073741824 := by decide +kernel
theorem S_bd : ∀ n, n < 31 → S n ≤ 257 ∧ K n ≤ 257 ∧ S n + K n ≤ 257 := by decide +kernel
theorem step : ∀ i, i < 256 → L (o i) ≤ L (o (i + 1)) ∧ C (o (i + 1)) = (C (o i) + 1) * 2 ^ (L (o (i + 1)) - L (o i)) := by decide +kernel
theorem start0 : C (o 0) = 0 ∧ L (o 0) = 5 := by decide +kernel
theorem seg : ∀ i, i < 257 → S (L (o i)) ≤ i ∧ i < S (L (o i)) + K (L (o i)) ∧ o (S (L (o i))) < 257 := by decide +kernel
theorem rank_of : ∀ x, x < 257 → ∃ i, i < 257 ∧ o i = x := by decide +kernel
theorem inj : ∀ i, i < 257 → ∀ n, n < 31 → n ≠ L (o i) → (i < S n ∨ S n + K n ≤ i) := by decide +kernel
end Go.Proofs.Ythfildmldppihaa.Gi
