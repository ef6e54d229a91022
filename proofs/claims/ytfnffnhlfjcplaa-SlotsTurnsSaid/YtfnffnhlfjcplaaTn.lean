/- A tenant's turns: the iterator's contract, and what the law asks of its ticks, in plain numbers. -/
import Derived.RangeFuncNested
import Derived.RangeFuncBound
import Derived.RangeFuncCalls
import Derived.RangeFuncLeaves
import Derived.Shelf.Abstract
import Derived.WalkKit
import Derived.OwnWalkIn
import Derived.TacticsInMore
import Derived.LoopNIn
import Derived.LoopIn
import Derived.Test.YtfnffnhlfjcplaaSl
namespace Go.Proofs.Ytfnffnhlfjcplaa.Tn
open Go.RowKit Go.Shelf Go.Proofs.Ytfnffnhlfjcplaa.Q Go.Proofs.Ytfnffnhlfjcplaa.Sl Go.Proofs.YtfnffnhlfjcplaaW.PrintWords Go.Proofs.YtfnffnhlfjcplaaW.PrintLast Go.Proofs.YtfnffnhlfjcplaaW.PrintMore
attribute [local go_sem] Oper.semAt_some

instance (t n : Int) : Decidable (Right t n) := by unfold Right; infer_instance
/-- A tick's number. -/
abbrev N0 := { x : Int // 0 ≤ x ∧ x < 1073741824 }

/-- A tenant's ticks from one of its own on, as far as ticks go. -/
def ticks (n : Int) : Nat → Int → List N0
  | 0, _ => []
  | m + 1, a => if h : 0 ≤ a ∧ a < 1073741824 then ⟨a, h⟩ :: ticks n m (a + n) else []

/-- All of them; none at wrong numbers. -/
def full (a tenant n : Int) : List N0 := if Right a n ∧ 0 ≤ tenant ∧ tenant < n then ticks n 1073741826 (a + gap tenant a n) else []

theorem ticks_more {n : Int} (hn : 1 ≤ n) : ∀ (m : Nat) (a : Int), 0 ≤ a → 1073741824 - a < m → ticks n (m + 1) a = ticks n m a := by
  intro m
  induction m with
  | zero => intro a h0 hm; unfold ticks; rw [dif_neg (by omega)]
  | succ m ih =>
    intro a h0 hm
    rw [ticks]
    conv => rhs; rw [ticks]
    split
    · rw [ih (a + n) (by omega) (by omega)]
    · rfl
theorem ticks_cons {n a : Int} (hn : 1 ≤ n) (m : Nat) (h0 : 0 ≤ a) (h1 : a < 1073741824) (hm : 1073741824 - a < m) : ticks n (m + 1) a = ⟨a, h0, h1⟩ :: ticks n (m + 1) (a + n) := by
  rw [ticks, dif_pos ⟨h0, h1⟩, ticks_more hn m _ (by omega) (by omega)]
theorem ticks_nil {n a : Int} (m : Nat) (h1 : 1073741824 ≤ a) : ticks n m a = [] := by
  cases m with
  | zero => rfl
  | succ m => rw [ticks, dif_neg (by omega)]

theorem gap_next {tenant a n : Int} (ha : 0 ≤ a) (hn : 0 < n) (h0 : 0 ≤ tenant) (h1 : tenant < n) (h : a % n = tenant) : gap tenant (a + 1) n = n - 1 := by
  have hm : (a + 1) % n = if tenant + 1 < n then tenant + 1 else 0 := by
    by_cases hn1 : n = 1
    · subst hn1; rw [if_neg (by omega)]; omega
    · rw [mod_step ha hn (by omega) (by omega), h]; split <;> omega
  rw [gap_eq hn h0 h1, hm]
  by_cases hc : tenant + 1 < n
  · rw [if_pos hc, if_neg (by omega)]; omega
  · rw [if_neg hc, if_pos (by omega)]; omega

/-- What comes of a tenant's next tick: its number and the error's. -/
def nx (tenant a n : Int) : Int × Int := if Right a n ∧ 0 ≤ tenant ∧ tenant < n ∧ a + gap tenant a n < 1073741824 then (a + gap tenant a n, 0) else (0, 11)
theorem next_nx (tenant a n : Int) : slots_Next.f 1 tenant a n = some (nx tenant a n) := by
  unfold nx
  by_cases h : Right a n ∧ 0 ≤ tenant ∧ tenant < n
  · obtain ⟨hr, h0, h1⟩ := h
    by_cases hs : a + gap tenant a n < 1073741824
    · rw [if_pos ⟨hr, h0, h1, hs⟩]; exact next_yes hr h0 h1 hs 0
    · rw [if_neg (fun q => hs q.2.2.2)]; exact next_late hr h0 h1 (by omega) 0
  · rw [if_neg (fun q => h ⟨q.1, q.2.1, q.2.2.1⟩)]; exact next_no h 0

/-- The loop's state: what is still to come. -/
def Rest (tenant n : Int) (r : Int × Int) (rest : List N0) : Prop :=
  (r = (0, 11) ∧ rest = []) ∨ (r.2 = 0 ∧ 0 ≤ r.1 ∧ r.1 < 1073741824 ∧ 1 ≤ n ∧ n ≤ 64 ∧ 0 ≤ tenant ∧ tenant < n ∧ r.1 % n = tenant ∧ rest = ticks n 1073741826 r.1)
theorem rest_start (a tenant n : Int) : Rest tenant n (nx tenant a n) (full a tenant n) := by
  by_cases h : Right a n ∧ 0 ≤ tenant ∧ tenant < n
  · obtain ⟨hr, h0, h1⟩ := h
    obtain ⟨r0, r1, r2, r3⟩ := id hr
    have hb := gap_bd (tenant := tenant) (a := a) (n := n) (by omega) h0 h1
    have hf : full a tenant n = ticks n 1073741826 (a + gap tenant a n) := if_pos ⟨hr, h0, h1⟩
    rw [hf]
    unfold nx Rest
    by_cases hs : a + gap tenant a n < 1073741824
    · rw [if_pos ⟨hr, h0, h1, hs⟩]
      exact .inr ⟨rfl, by omega, hs, r2, r3, h0, h1, gap_hit r0 (by omega) h0 h1, rfl⟩
    · rw [if_neg (fun q => hs q.2.2.2)]
      exact .inl ⟨rfl, ticks_nil _ (by omega)⟩
  · unfold nx full Rest
    rw [if_neg (fun q => h ⟨q.1, q.2.1, q.2.2.1⟩), if_neg h]
    exact .inl ⟨rfl, rfl⟩
theorem rest_step {tenant n : Int} {r : Int × Int} {rest : List N0} (h : Rest tenant n r rest) (h0 : r.2 = 0) :
    ∃ (h' : 0 ≤ r.1 ∧ r.1 < 1073741824) (rest' : List N0), rest = ⟨r.1, h'⟩ :: rest' ∧ Rest tenant n (nx tenant (r.1 + 1) n) rest' ∧ r.1 < 1073741824 ∧ ((nx tenant (r.1 + 1) n).2 = 0 → r.1 < (nx tenant (r.1 + 1) n).1) := by
  rcases h with ⟨rfl, _⟩ | ⟨_, a0, a1, n1, n2, t0, t1, hm, rfl⟩
  · simp at h0
  have hg := gap_next a0 (show 0 < n by omega) t0 t1 hm
  refine ⟨⟨a0, a1⟩, ticks n 1073741826 (r.1 + n), ticks_cons n1 1073741825 a0 a1 (by omega), ?_, a1, ?_⟩
  · unfold nx Rest
    by_cases hs : Right (r.1 + 1) n ∧ 0 ≤ tenant ∧ tenant < n ∧ r.1 + 1 + gap tenant (r.1 + 1) n < 1073741824
    · rw [if_pos hs]
      obtain ⟨_, _, _, hs⟩ := hs
      rw [hg] at hs ⊢
      exact .inr ⟨rfl, by dsimp only; omega, by dsimp only; omega, n1, n2, t0, t1, by dsimp only; rw [show r.1 + 1 + (n - 1) = r.1 + n by omega, Int.add_emod_right]; exact hm, by dsimp only; rw [show r.1 + 1 + (n - 1) = r.1 + n by omega]⟩
    · rw [if_neg hs]
      refine .inl ⟨rfl, ticks_nil _ ?_⟩
      rw [hg] at hs
      unfold Right at hs
      omega
  · unfold nx
    split
    · rename_i hs; intro _; rw [hg] at hs ⊢; dsimp only; omega
    · intro q; simp at q

/-- What a round asks of a tick: the law's own test. -/
def Good (a tenant n : Int) (p : List N0) (x : N0) : Prop := Right a n ∧ x.1 % n = tenant ∧ (p = [] → x.1 = a + gap tenant a n) ∧ (∀ y, p.getLast? = some y → x.1 = y.1 + n)
theorem ticks_good {n : Int} (hn : 1 ≤ n) (x : N0) : ∀ (p : List N0) (m : Nat) (b : Int), p ++ [x] <+: ticks n m b → x.1 % n = b % n ∧ (p = [] → x.1 = b) ∧ (∀ y, p.getLast? = some y → x.1 = y.1 + n) := by
  intro p
  induction p with
  | nil =>
    intro m b h
    cases m with
    | zero => simp [ticks] at h
    | succ m =>
      rw [ticks] at h
      split at h
      · simp at h; subst h; exact ⟨rfl, fun _ => rfl, fun y hy => by simp at hy⟩
      · simp at h
  | cons z p ih =>
    intro m b h
    cases m with
    | zero => simp [ticks] at h
    | succ m =>
      rw [ticks] at h
      split at h
      · rw [List.cons_append, List.cons_prefix_cons] at h
        obtain ⟨rfl, h⟩ := h
        obtain ⟨h1, h2, h3⟩ := ih m (b + n) h
        refine ⟨by rw [h1, Int.add_emod_right], fun q => (by simp at q), fun y hy => ?_⟩
        cases p with
        | nil => simp at hy; subst hy; exact h2 rfl
        | cons z' p' => exact h3 y (by rw [List.getLast?_cons_cons] at hy; exact hy)
      · simp at h
theorem full_good {a tenant n : Int} {p : List N0} {x : N0} (h : p ++ [x] <+: full a tenant n) : Good a tenant n p x := by
  unfold full at h
  split at h
  · rename_i hr
    obtain ⟨hr, h0, h1⟩ := hr
    obtain ⟨r0, r1, r2, r3⟩ := id hr
    obtain ⟨g1, g2, g3⟩ := ticks_good r2 x p _ _ h
    exact ⟨hr, by rw [g1]; exact gap_hit r0 (by omega) h0 h1, g2, g3⟩
  · simp at h
/-- The last tick, nought where there is none. -/
def lastOr (p : List N0) : Int := match p.getLast? with | some y => y.1 | none => 0
theorem lastOr_bd (p : List N0) : 0 ≤ lastOr p ∧ lastOr p < 1073741824 := by
  unfold lastOr
  split
  · rename_i y _; exact y.2
  · decide
theorem lastOr_snoc (p : List N0) (x : N0) : lastOr (p ++ [x]) = x.1 := by unfold lastOr; simp
theorem lastOr_some {p : List N0} {y : N0} (h : p.getLast? = some y) : lastOr p = y.1 := by unfold lastOr; rw [h]
theorem ticks_end {n : Int} (hn : 1 ≤ n) : ∀ (m : Nat) (b : Int), 0 ≤ b → 1073741824 - b < m → (ticks n m b = [] ∧ 1073741824 ≤ b) ∨ (∃ y, (ticks n m b).getLast? = some y ∧ 1073741824 ≤ y.1 + n) := by
  intro m
  induction m with
  | zero => intro b hb hm; exact .inl ⟨rfl, by omega⟩
  | succ m ih =>
    intro b hb hm
    rw [ticks]
    split
    · rename_i h
      refine .inr ?_
      rcases ih (b + n) (by omega) (by omega) with ⟨he, hbig⟩ | ⟨y, hy, hbig⟩
      · exact ⟨_, by rw [he]; rfl, hbig⟩
      · refine ⟨y, ?_, hbig⟩
        cases hq : ticks n m (b + n) with
        | nil => rw [hq] at hy; simp at hy
        | cons z zs => rw [List.getLast?_cons_cons, ← hq]; exact hy
    · exact .inl ⟨rfl, by omega⟩
theorem full_end (a tenant n : Int) : ¬ Right a n ∨ tenant < 0 ∨ n ≤ tenant ∨ 1073741824 ≤ max (lastOr (full a tenant n)) a + n := by
  by_cases h : Right a n ∧ 0 ≤ tenant ∧ tenant < n
  · obtain ⟨hr, h0, h1⟩ := h
    obtain ⟨r0, r1, r2, r3⟩ := id hr
    have hb := gap_bd (tenant := tenant) (a := a) (n := n) (by omega) h0 h1
    have hf : full a tenant n = ticks n 1073741826 (a + gap tenant a n) := if_pos ⟨hr, h0, h1⟩
    rw [hf]
    refine .inr (.inr (.inr ?_))
    rcases ticks_end r2 1073741826 (a + gap tenant a n) (by omega) (by omega) with ⟨_, hbig⟩ | ⟨y, hy, hbig⟩
    · have := Int.le_max_right (lastOr (ticks n 1073741826 (a + gap tenant a n))) a
      omega
    · rw [lastOr_some hy]
      have := Int.le_max_left y.1 a
      omega
  · by_cases hr : Right a n
    · by_cases h0 : tenant < 0
      · exact .inr (.inl h0)
      · exact .inr (.inr (.inl (by have : ¬ (tenant < n) := fun q => h ⟨hr, by omega, q⟩
                                   omega)))
    · exact .inl hr

theorem grownBy_drewN (W : World) (k : Nat) : W.grownBy (W.drewN k) none := ⟨rfl, rfl, rfl, Nat.le_refl _, fun _ _ _ => rfl⟩
/-- How many rounds at most are to come. -/
def ms (v5 v6 : Value) : Nat := if intOf v6 = 0 then (1073741824 - intOf v5).toNat + 1 else 0
theorem ms_zero (x z : Int) (h : z = 0) : ms (.int .i64 x) (.int .i64 z) = (1073741824 - x).toNat + 1 := by subst h; rfl
theorem ms_ne (x z : Int) (h : z ≠ 0) : ms (.int .i64 x) (.int .i64 z) = 0 := if_neg h
/-- What the boxes of the three numbers keep. -/
def Kc (c : Nat) (W W' : World) : Prop := ∀ i, i < 3 → W'.heap[c + i]? = W.heap[c + i]?
theorem Kc.trans {c : Nat} {A B C : World} (h : Kc c A B) (k : Kc c B C) : Kc c A C := fun i hi => (k i hi).trans (h i hi)
theorem Kc.cell {c : Nat} {A B : World} (h : Kc c A B) (i : Nat) (hi : i < 3) : B.cell? ⟨c + i, 0, none⟩ = A.cell? ⟨c + i, 0, none⟩ := World.cell?_of_block (h i hi)

set_option maxRecDepth 100000 in
set_option maxHeartbeats 4000000 in
theorem turns1_in (m l c : Nat) (hm : 1 ≤ m) (a tenant n : Int) (J Jx : List N0 → World → Prop) (W : World) (hJ : AbidesFrom W.heap.size J)
    (hY : ∀ pre x W1, J pre W1 → pre.length < (full a tenant n).length → YieldAt Fence.wide (m - 1) Try.prog l #[.int .i64 x.1] W1 fun e W' =>
      (e = .returned (.bool true) ∧ J (pre ++ [x]) W' ∧ Kc c W1 W') ∨ (e = .returned (.bool false) ∧ Jx (pre ++ [x]) W'))
    (c0 : W.cell? ⟨c, 0, none⟩ = some (.int .i64 a)) (c1 : W.cell? ⟨c + 1, 0, none⟩ = some (.int .i64 tenant)) (c2 : W.cell? ⟨c + 2, 0, none⟩ = some (.int .i64 n)) (h0 : J [] W) :
    CallsIn Fence.wide m Try.prog 39 #[.func (.yield l) #[] #[], .pointer (some ⟨c + 1, 0, none⟩), .pointer (some ⟨c, 0, none⟩), .pointer (some ⟨c + 2, 0, none⟩)] W fun e W' => (∃ v, e = .returned v) ∧
      ((∃ ys, ys = full a tenant n ∧ J ys W') ∨ (∃ pre, pre <+: full a tenant n ∧ Jx pre W')) := by
  have hJ' : ∀ pre W1 k, J pre W1 → J pre (W1.drewN k) := fun pre W1 k h => hJ pre W1 _ none h (grownBy_drewN W1 k) (fun r e => by cases e)
  have HJ : Aside _ := hJ'
  have HY : Aside _ := hY
  obtain ⟨r, hr⟩ : ∃ r, r = nx tenant a n := ⟨_, rfl⟩
  have hN : slots_Next.f 1 tenant a n = some (r.1, r.2) := by rw [hr]; exact next_nx tenant a n
  obtain ⟨fl, hfl⟩ : ∃ fl, fl = full a tenant n := ⟨_, rfl⟩
  have HR : Aside (Rest tenant n r fl) := show Rest tenant n r fl by rw [hr, hfl]; exact rest_start a tenant n
  rw [← hfl] at HY ⊢
  clear hJ hY hJ' hfl hr
  have HN : Aside _ := hN
  clear hN
  refine callsIn_of_wp Try.func39 rfl trivial ?_ rfl
  simp only [Try.ntmps39, List.size_toArray, List.length_cons, List.length_nil, Nat.reduceAdd, Nat.reduceSub, Array.replicate_succ, Array.replicate_zero, List.push_toArray, List.append_toArray, List.nil_append, List.cons_append]
  gi_wp2_with (refine ⟨trivial, ?_⟩; gi_at_call 18; refine (callsIn_wide.2 (slots_Next.calls 1 tenant a n r.1 r.2 _ HN.out)).mono ?_; rintro e w' ⟨rfl, ⟨nd, rfl⟩⟩)
  clear HN
  gi_loopw [5, 6] (fun v5 v6 wr => ∃ (pre rest : List N0) (r : Int × Int), v5 = .int .i64 r.1 ∧ v6 = .int .i64 r.2 ∧ Aside (fl = pre ++ rest) ∧ Aside (Rest tenant n r rest) ∧ Aside (J pre wr) ∧
      wr.cell? ⟨c, 0, none⟩ = some (.int .i64 a) ∧ wr.cell? ⟨c + 1, 0, none⟩ = some (.int .i64 tenant) ∧ wr.cell? ⟨c + 2, 0, none⟩ = some (.int .i64 n))
    (fun v5 v6 _ => ms v5 v6)
  case atStart =>
    exact ⟨[], fl, r, rfl, rfl, rfl, HR, HJ.out _ _ _ h0, c0, c1, c2⟩
  case round =>
    clear HR c0 c1 c2 h0
    obtain ⟨pre, rest, r, rfl, rfl, hx, HR, hJs, c0, c1, c2⟩ := hrel
    by_cases hr2 : r.2 = 0
    · obtain ⟨r0, rest', HX, HR', hlt, hup⟩ := rest_step HR.out hr2
      obtain ⟨fn, tmps, assign, body, hy, hR⟩ := HY.out pre ⟨r.1, r0⟩ wr hJs.out (by rw [hx.out, HX]; simp)
      obtain ⟨r', hr'⟩ : ∃ r', r' = nx tenant (r.1 + 1) n := ⟨_, rfl⟩
      have hN : slots_Next.f 1 tenant (r.1 + 1) n = some (r'.1, r'.2) := by rw [hr']; exact next_nx tenant _ n
      rw [← hr'] at HR' hup
      clear hr'
      have HN : Aside _ := hN
      have HR2 : Aside (Rest tenant n r' rest') := HR'
      have HU : Aside _ := hup
      have HX2 : Aside _ := HX
      clear hN HR' hup HX HR
      gi_wp2
      refine hR.mono ?_
      rintro e W3 (⟨rfl, hJ3, hk3⟩ | ⟨rfl, hJx3⟩)
      · have d0 : W3.cell? ⟨c, 0, none⟩ = some (.int .i64 a) := (hk3.cell 0 (by decide)).trans c0
        have d1 : W3.cell? ⟨c + 1, 0, none⟩ = some (.int .i64 tenant) := (hk3.cell 1 (by decide)).trans c1
        have d2 : W3.cell? ⟨c + 2, 0, none⟩ = some (.int .i64 n) := (hk3.cell 2 (by decide)).trans c2
        gi_wp2_with (refine ⟨trivial, ?_⟩; gi_at_call 18; refine (callsIn_wide.2 (slots_Next.calls 1 tenant (r.1 + 1) n r'.1 r'.2 _ HN.out)).mono ?_; rintro e w' ⟨rfl, ⟨nd, rfl⟩⟩)
        go_roundw
        case rel => exact ⟨pre ++ [⟨r.1, r0⟩], rest', r', rfl, rfl, by show fl = _; rw [hx.out, HX2.out]; simp, HR2, HJ.out _ _ _ hJ3, d0, d1, d2⟩
        case measure =>
          have hu := HU.out
          rw [ms_zero _ _ hr2]
          by_cases hz : r'.2 = 0
          · rw [ms_zero _ _ hz]; have := hu hz; omega
          · rw [ms_ne _ _ hz]; omega
      · gi_wp2
        go_end0
        exact ⟨⟨_, rfl⟩, .inr ⟨pre ++ [⟨r.1, r0⟩], ⟨rest', by rw [hx.out, HX2.out]; simp⟩, hJx3⟩⟩
    · have hn : (r.2 == 0) = false := beq_eq_false_iff_ne.mpr hr2
      have hrest : Aside (rest = []) := by
        rcases HR.out with ⟨_, h⟩ | ⟨h, _⟩
        · exact h
        · exact absurd h hr2
      clear HR
      gi_wp2
      refine ⟨fun _ h => (by cases h), ?_⟩
      gi_wp2
      go_end0
      exact ⟨⟨_, rfl⟩, .inl ⟨pre, by rw [hx.out, hrest.out]; simp, hJs.out⟩⟩

theorem turns_stops (m c : Nat) (hm : 1 ≤ m) (a tenant n : Int) (w : World) (hc : c + 2 < w.heap.size)
    (c0 : w.cell? ⟨c, 0, none⟩ = some (.int .i64 a)) (c1 : w.cell? ⟨c + 1, 0, none⟩ = some (.int .i64 tenant)) (c2 : w.cell? ⟨c + 2, 0, none⟩ = some (.int .i64 n)) :
    SeqStopsK Fence.wide m Try.prog 39 #[.pointer (some ⟨c + 1, 0, none⟩), .pointer (some ⟨c, 0, none⟩), .pointer (some ⟨c + 2, 0, none⟩)] (fun x : N0 => #[Value.int .i64 x.1]) (Kc c) (fun ys => ys = full a tenant n) (fun pre => pre <+: full a tenant n) (full a tenant n).length w := fun l J Jx W hW hJ _ hY h0 =>
  turns1_in m l c hm a tenant n J Jx W hJ hY ((hW.cell (p := ⟨c, 0, none⟩) (show c < _ by omega)).trans c0) ((hW.cell (p := ⟨c + 1, 0, none⟩) (show c + 1 < _ by omega)).trans c1) ((hW.cell (p := ⟨c + 2, 0, none⟩) hc).trans c2) h0
end Go.Proofs.Ytfnffnhlfjcplaa.Tn
