/- The turns' law, walked. -/
import Derived.Test.YtfnffnhlfjcplaaTn
import Derived.Deep.RegionHeld3
import Derived.Sort.QuietIn
namespace Go.Proofs.Ytfnffnhlfjcplaa.Tl
open Go.RowKit Go.Shelf Go.Proofs.Ytfnffnhlfjcplaa.Q Go.Proofs.Ytfnffnhlfjcplaa.Sl Go.Proofs.Ytfnffnhlfjcplaa.Tn Go.Proofs.YtfnffnhlfjcplaaW.PrintWords Go.Proofs.YtfnffnhlfjcplaaW.PrintLast Go.Proofs.YtfnffnhlfjcplaaW.PrintMore
attribute [local go_sem] Oper.semAt_some

theorem four_far (W : World) {b : Nat} {v : Value} (hc : W.cell? ⟨b, 0, none⟩ = some v) (hf : W.frozen? ⟨b, 0, none⟩ = false) (hb : b < W.heap.size) (o1 o2 o3 o4 : Obj) :
    ((((W.alloc o1).alloc o2).alloc o3).alloc o4).drew.cell? ⟨b, 0, none⟩ = some v ∧ ((((W.alloc o1).alloc o2).alloc o3).alloc o4).drew.frozen? ⟨b, 0, none⟩ = false := by
  have h : Below W.heap.size W ((((W.alloc o1).alloc o2).alloc o3).alloc o4).drew := by repeat (first | exact Below.refl _ _ | apply below_alloc | apply below_drew1)
  exact ⟨(h.cell (p := ⟨b, 0, none⟩) hb).trans hc, (World.frozen?_of_block (h.block b hb)).trans hf⟩
theorem at_alloc (W : World) (v : Value) (b : Nat) (hb : b = W.heap.size) : (W.alloc (.cells #[v] 3)).cell? ⟨b, 0, none⟩ = some v := by subst hb; simp
theorem past (W : World) {a : Addr} {v : Value} (h : W.cell? a = some v) (o : Obj) : (W.alloc o).cell? a = some v := (World.cell?_alloc_lt _ _ _ (World.block_lt_of_cell? W a h)).trans h
theorem four_here (W : World) (x1 x2 x3 x4 : Value) :
    ((((W.alloc (.cells #[x1] 3)).alloc (.cells #[x2] 3)).alloc (.cells #[x3] 3)).alloc (.cells #[x4] 3)).drew.cell? ⟨W.heap.size, 0, none⟩ = some x1 ∧
    ((((W.alloc (.cells #[x1] 3)).alloc (.cells #[x2] 3)).alloc (.cells #[x3] 3)).alloc (.cells #[x4] 3)).drew.cell? ⟨W.heap.size + 1, 0, none⟩ = some x2 ∧
    ((((W.alloc (.cells #[x1] 3)).alloc (.cells #[x2] 3)).alloc (.cells #[x3] 3)).alloc (.cells #[x4] 3)).drew.cell? ⟨W.heap.size + 1 + 1, 0, none⟩ = some x3 ∧
    ((((W.alloc (.cells #[x1] 3)).alloc (.cells #[x2] 3)).alloc (.cells #[x3] 3)).alloc (.cells #[x4] 3)).drew.cell? ⟨W.heap.size + 1 + 1 + 1, 0, none⟩ = some x4 :=
  ⟨past _ (past _ (past _ (at_alloc W x1 _ rfl) _) _) _, past _ (past _ (at_alloc _ x2 _ (by simp)) _) _, past _ (at_alloc _ x3 _ (by simp)) _, at_alloc _ x4 _ (by simp)⟩
/-- The boxes of the four numbers. -/
structure Bx (W : World) (k b3 b4 b5 b6 : Nat) (a tenant n stop : Int) : Prop where
  c3 : W.cell? ⟨b3, 0, none⟩ = some (.int .i64 a)
  c4 : W.cell? ⟨b4, 0, none⟩ = some (.int .i64 tenant)
  c5 : W.cell? ⟨b5, 0, none⟩ = some (.int .i64 n)
  c6 : W.cell? ⟨b6, 0, none⟩ = some (.int .i64 stop)
  l3 : k + 2 ≤ b3 ∧ b3 < k + 6
  l4 : k + 2 ≤ b4 ∧ b4 < k + 6
  l5 : k + 2 ≤ b5 ∧ b5 < k + 6
  l6 : k + 2 ≤ b6 ∧ b6 < k + 6

theorem Bx.keep {W W' : World} {k b3 b4 b5 b6 : Nat} {a tenant n stop : Int} (h : Bx W k b3 b4 b5 b6 a tenant n stop) (hb : Below W.heap.size W W') (hz : k + 6 ≤ W.heap.size) : Bx W' k b3 b4 b5 b6 a tenant n stop :=
  ⟨(hb.cell (p := ⟨b3, 0, none⟩) (show b3 < _ by have := h.l3; omega)).trans h.c3, (hb.cell (p := ⟨b4, 0, none⟩) (show b4 < _ by have := h.l4; omega)).trans h.c4,
   (hb.cell (p := ⟨b5, 0, none⟩) (show b5 < _ by have := h.l5; omega)).trans h.c5, (hb.cell (p := ⟨b6, 0, none⟩) (show b6 < _ by have := h.l6; omega)).trans h.c6, h.l3, h.l4, h.l5, h.l6⟩

set_option maxRecDepth 100000 in
set_option maxHeartbeats 1000000 in
theorem turns_calls (a tenant n : Int) (w : World) (c : Nat) (hc : c = w.heap.size) : Calls Try.prog 31 #[.int .i64 a, .int .i64 tenant, .int .i64 n] w fun e w' =>
    e = .returned (.func (.func 39) #[] #[.pointer (some ⟨c + 1, 0, none⟩), .pointer (some ⟨c, 0, none⟩), .pointer (some ⟨c + 2, 0, none⟩)]) ∧
    w' = ((w.alloc (.cells #[.int .i64 a] 3)).alloc (.cells #[.int .i64 tenant] 3)).alloc (.cells #[.int .i64 n] 3) := by
  subst hc
  go_enter Try.func31, Try.ntmps31
  go_wp2
  go_ret
  exact ⟨rfl, rfl⟩

/-- What the law's boxes hold between two rounds: the result, the last tick, how many. -/
structure Iv (W : World) (k b3 b4 b5 b6 g : Nat) (a tenant n stop : Int) (rv : Bool) (at_ cnt : Int) : Prop where
  bx : Bx W k b3 b4 b5 b6 a tenant n stop
  cg : W.cell? ⟨g, 0, none⟩ = some (.int .i64 at_)
  fg : W.frozen? ⟨g, 0, none⟩ = false
  ch : W.cell? ⟨g + 1, 0, none⟩ = some (.int .i64 cnt)
  fh : W.frozen? ⟨g + 1, 0, none⟩ = false
  cr : W.cell? ⟨k + 1, 0, none⟩ = some (.bool rv)
  fr : W.frozen? ⟨k + 1, 0, none⟩ = false

section
variable {W W' : World} {k b3 b4 b5 b6 g : Nat} {a tenant n stop : Int} {rv : Bool} {at_ cnt : Int}
theorem Iv.kept (h : Iv W k b3 b4 b5 b6 g a tenant n stop rv at_ cnt) {row : Option Nat} (hg : W.grownBy W' row) (hr : ∀ r, row = some r → ∃ o : Obj, W.heap[r]? = some o ∧ o.isCells = false) : Iv W' k b3 b4 b5 b6 g a tenant n stop rv at_ cnt :=
  ⟨⟨cell_kept h.bx.c3 hg hr, cell_kept h.bx.c4 hg hr, cell_kept h.bx.c5 hg hr, cell_kept h.bx.c6 hg hr, h.bx.l3, h.bx.l4, h.bx.l5, h.bx.l6⟩, cell_kept h.cg hg hr, (frozen_kept h.cg hg hr).trans h.fg, cell_kept h.ch hg hr, (frozen_kept h.ch hg hr).trans h.fh, cell_kept h.cr hg hr, (frozen_kept h.cr hg hr).trans h.fr⟩
theorem Iv.grown (h : Iv W k b3 b4 b5 b6 g a tenant n stop rv at_ cnt) (hg : W.grownBy W' none) : Iv W' k b3 b4 b5 b6 g a tenant n stop rv at_ cnt := h.kept hg (fun r e => by cases e)
theorem other {b b' : Nat} {v u : Value} (hc : W.cell? ⟨b, 0, none⟩ = some v) (hne : b ≠ b') : (W.setCell ⟨b', 0, none⟩ u).cell? ⟨b, 0, none⟩ = some v :=
  (World.cell?_setCell_other _ _ _ _ (by intro e; simp only [Addr.mk.injEq] at e; exact hne e.1.symm)).trans hc
theorem Iv.setG (h : Iv W k b3 b4 b5 b6 g a tenant n stop rv at_ cnt) (hk : k + 6 ≤ g) (x : Int) : Iv (W.setCell ⟨g, 0, none⟩ (.int .i64 x)) k b3 b4 b5 b6 g a tenant n stop rv x cnt :=
  ⟨⟨other h.bx.c3 (by have := h.bx.l3; omega), other h.bx.c4 (by have := h.bx.l4; omega), other h.bx.c5 (by have := h.bx.l5; omega), other h.bx.c6 (by have := h.bx.l6; omega), h.bx.l3, h.bx.l4, h.bx.l5, h.bx.l6⟩,
   World.cell?_setCell_same' _ _ _ (by rw [h.cg]; rfl), by rw [World.frozen?_setCell]; exact h.fg, other h.ch (by omega), by rw [World.frozen?_setCell]; exact h.fh, other h.cr (by omega), by rw [World.frozen?_setCell]; exact h.fr⟩
theorem Iv.setH (h : Iv W k b3 b4 b5 b6 g a tenant n stop rv at_ cnt) (hk : k + 6 ≤ g) (x : Int) : Iv (W.setCell ⟨g + 1, 0, none⟩ (.int .i64 x)) k b3 b4 b5 b6 g a tenant n stop rv at_ x :=
  ⟨⟨other h.bx.c3 (by have := h.bx.l3; omega), other h.bx.c4 (by have := h.bx.l4; omega), other h.bx.c5 (by have := h.bx.l5; omega), other h.bx.c6 (by have := h.bx.l6; omega), h.bx.l3, h.bx.l4, h.bx.l5, h.bx.l6⟩,
   other h.cg (by omega), by rw [World.frozen?_setCell]; exact h.fg, World.cell?_setCell_same' _ _ _ (by rw [h.ch]; rfl), by rw [World.frozen?_setCell]; exact h.fh, other h.cr (by omega), by rw [World.frozen?_setCell]; exact h.fr⟩
theorem Iv.setR (h : Iv W k b3 b4 b5 b6 g a tenant n stop rv at_ cnt) (hk : k + 6 ≤ g) (x : Bool) : Iv (W.setCell ⟨k + 1, 0, none⟩ (.bool x)) k b3 b4 b5 b6 g a tenant n stop x at_ cnt :=
  ⟨⟨other h.bx.c3 (by have := h.bx.l3; omega), other h.bx.c4 (by have := h.bx.l4; omega), other h.bx.c5 (by have := h.bx.l5; omega), other h.bx.c6 (by have := h.bx.l6; omega), h.bx.l3, h.bx.l4, h.bx.l5, h.bx.l6⟩,
   other h.cg (by omega), by rw [World.frozen?_setCell]; exact h.fg, other h.ch (by omega), by rw [World.frozen?_setCell]; exact h.fh, World.cell?_setCell_same' _ _ _ (by rw [h.cr]; rfl), by rw [World.frozen?_setCell]; exact h.fr⟩
end

section
variable {n : Nat} {P : Program} {ops : Array Oper} {Q : Exit → Act → World → Prop} {md : Region.Mode}
theorem upon_round (l : Nat) {o : Oper} {a : Act} {K : Act → World → Prop} {r : Result Next} (h : o.uponIn Fence.wide n P a K Q r) : o.uponIn (Fence.wide.inRound l) n P a K Q r := by
  cases r with
  | ok x w' => cases x <;> exact h
  | halt x w' => cases x <;> exact h
theorem op_round (l : Nat) {i : Nat} {a : Act} {w : World} {K K' : Act → World → Prop} (hK : ∀ a w, K a w → K' a w) (hd : ∀ (i : Nat) (o : Oper), ops[i]? = some o → ∀ c, o.op ≠ .defer c) (h : wpOpIn Fence.wide n P ops Q i K a w) : wpOpIn (Fence.wide.inRound l) n P ops Q i K' a w := by
  refine wpOpIn_mono hK ?_
  unfold wpOpIn at *
  split
  · simpa [*] using h
  · rename_i o ho
    simp only [ho] at h
    split
    · rename_i hw
      simp only [hw, if_true] at h
      refine ⟨h.1, ?_⟩
      have h2 := h.2
      rw [Oper.semAt_eq _ _ _ (hd i o ho)] at h2 ⊢
      exact upon_round l h2
    · rename_i hw; simp only [hw] at h; exact h
theorem any_round (l : Nat) (hd : ∀ (i : Nat) (o : Oper), ops[i]? = some o → ∀ c, o.op ≠ .defer c) : ∀ (fuel : Nat) (listed : Array Bool) (a : Act) (w : World), wpAnyIn Fence.wide n P md ops Q fuel listed a w → wpAnyIn (Fence.wide.inRound l) n P md ops Q fuel listed a w := by
  intro fuel
  induction fuel with
  | zero => intro listed a w h; exact h
  | succ fuel ih => intro listed a w h; exact ⟨h.1, fun i hi => op_round l (fun a w q => ih _ a w q) hd (h.2 i hi)⟩
/-- A region that draws its order, reads and calls quietly, in a round of a loop. -/
theorem quiet_round (l : Nat) {id : Nat} {a : Act} {w : World} {ls : List Oper} (hm : P.follows .mixedOrders = true) (hB : Region.lexB .any ls.toArray = true) (hd : ls.all (fun o => match o.op with | .defer _ => false | _ => true) = true)
    (h : wpQuietIn Fence.wide n P ls.toArray (fun w' => ∃ n, w' = w.drewN n) (fun a' => ∀ w', (∃ n, w' = w.drewN n) → Q .normal a' w') ls a) : (Code.region id ls.toArray true).wpIn (Fence.wide.inRound l) n P Q a w := by
  simp only [Region.lexB, Bool.and_eq_true] at hB
  refine wpIn_region_any hm (any_round l (fun i o ho c hc => ?_) _ _ _ _ (wpAnyIn_of_quiet (Q := fun a' => ∀ w', (∃ n, w' = w.drewN n) → Q .normal a' w') rfl (fun _ w' hw' h => h w' hw') _ _ _ _ ⟨1, rfl⟩ ?_))
  · have := List.all_eq_true.1 hd o (List.mem_of_getElem? (by simpa using ho))
    simp [hc] at this
  · have := wpAnyQIn_lex (F := Fence.wide) (n := n) (C := fun w' => ∃ n, w' = w.drewN n) (md := .any) hB.1 ls 0 (Array.replicate ls.toArray.size false) a (by simp) (by simpa using hB.2) h
    simpa using this
end
theorem wide_fn (f : FuncId) : Fence.wide.fn f = True := rfl
/-- What a round's steps keep, together. -/
structure St (c k : Nat) (w W W' : World) : Prop where
  o : KeepsOthers W W'
  c : Kc c W W'
  b : Below k w W → Below k w W'
theorem St.refl (c k : Nat) (w W : World) : St c k w W W := ⟨.refl _, fun _ _ => rfl, id⟩
theorem St.drewN {c k : Nat} {w W W' : World} (h : St c k w W W') (m : Nat) : St c k w W (W'.drewN m) := ⟨h.o.trans (.of_grownBy (grownBy_drewN _ _) (fun j o e => by cases e)), h.c.trans (fun _ _ => rfl), fun q => pw_below_drewN (h.b q) m⟩
theorem St.drew {c k : Nat} {w W W' : World} (h : St c k w W W') : St c k w W W'.drew := h.drewN 1
theorem St.set {c k : Nat} {w W W' : World} (h : St c k w W W') (b : Nat) (hb : b < c) (hk : k ≤ b) (v : Value) : St c k w W (W'.setCell ⟨b, 0, none⟩ v) :=
  ⟨h.o.trans (.setCell _ _ _), h.c.trans (fun i hi => Below.heap_setCell _ _ _ _ (by show c + i ≠ b; omega)), fun q => (h.b q).setCell (p := ⟨b, 0, none⟩) hk _⟩

attribute [local go_sem, local simp] wide_fn
set_option maxRecDepth 100000 in
set_option maxHeartbeats 4000000 in
theorem law_in (a tenant n stop : Int) (w : World) :
    Calls Try.prog 13 #[.agg #[.int .i64 a, .int .i64 tenant, .int .i64 n, .int .i64 stop]] w fun e W' => e = .returned (.bool true) ∧ Below w.heap.size w W' := by
  have hu48 := Try.underlying48
  have mixed : Try.prog.follows .mixedOrders = true := by kernel_rfl
  have HB := Aside0.mk (Below.refl w.heap.size w)
  refine (callsIn_wide (n := 3)).1 ?_
  refine callsIn_of_wp_marks Try.func13 rfl trivial ?_ rfl
  simp only [Try.ntmps13, List.size_toArray, List.length_cons, List.length_nil, Nat.reduceAdd, Nat.reduceSub, Array.replicate_succ, Array.replicate_zero, List.push_toArray, List.append_toArray, List.nil_append, List.cons_append]
  refine wpIn_wide.2 ?_
  go_upto_region 1 with fail
  obtain ⟨k, hk⟩ : ∃ k, k = w.heap.size := ⟨_, rfl⟩
  obtain ⟨w1, hw1⟩ : ∃ w1, w1 = ((w.alloc (.cells #[.int .i64 a, .int .i64 tenant, .int .i64 n, .int .i64 stop] 48)).alloc (.cells #[.bool false] 4)) := ⟨_, rfl⟩
  have q0 : w1.cell? ⟨k, 0, none⟩ = some (.int .i64 a) := by rw [hw1, hk]; simp
  have q1 : w1.cell? ⟨k, 1, none⟩ = some (.int .i64 tenant) := by rw [hw1, hk]; simp
  have q2 : w1.cell? ⟨k, 2, none⟩ = some (.int .i64 n) := by rw [hw1, hk]; simp
  have q3 : w1.cell? ⟨k, 3, none⟩ = some (.int .i64 stop) := by rw [hw1, hk]; simp
  have qr : w1.cell? ⟨k + 1, 0, none⟩ = some (.bool false) := by rw [hw1, hk]; simp
  have fr : w1.frozen? ⟨k + 1, 0, none⟩ = false := by rw [hw1, hk]; simp
  have hz : Aside0 (w1.heap.size = k + 2) := ⟨by rw [hw1, hk]; simp⟩
  have HB1 : Aside0 (Below k w w1) := ⟨by rw [hw1, hk]; exact ((Below.refl _ w).alloc (Nat.le_refl _) _).alloc (by simp) _⟩
  rw [← hw1, ← hk]
  clear hw1 HB
  have HKK := Aside0.mk hk
  clear hk
  go_cut [3, 4, 5, 6] from 10 to 17 (fun v3 v4 v5 v6 wc => ∃ (b3 b4 b5 b6 : Nat), v3 = .pointer (some ⟨b3, 0, none⟩) ∧ v4 = .pointer (some ⟨b4, 0, none⟩) ∧ v5 = .pointer (some ⟨b5, 0, none⟩) ∧ v6 = .pointer (some ⟨b6, 0, none⟩) ∧
      Aside0 (Bx wc k b3 b4 b5 b6 a tenant n stop) ∧ Aside0 (Below k w wc) ∧ Aside0 (wc.heap.size = k + 6) ∧ Aside0 (wc.cell? ⟨k + 1, 0, none⟩ = some (.bool false) ∧ wc.frozen? ⟨k + 1, 0, none⟩ = false))
  case first =>
    have HS : Aside0 (∀ W', Below w1.heap.size w1 W' → W'.cell? ⟨k, 0, none⟩ = some (.int .i64 a) ∧ W'.cell? ⟨k, 1, none⟩ = some (.int .i64 tenant) ∧ W'.cell? ⟨k, 2, none⟩ = some (.int .i64 n) ∧ W'.cell? ⟨k, 3, none⟩ = some (.int .i64 stop)) :=
      ⟨fun W' h => ⟨(h.cell (p := ⟨k, 0, none⟩) (by rw [hz.out]; show k < _; omega)).trans q0, (h.cell (p := ⟨k, 1, none⟩) (by rw [hz.out]; show k < _; omega)).trans q1, (h.cell (p := ⟨k, 2, none⟩) (by rw [hz.out]; show k < _; omega)).trans q2, (h.cell (p := ⟨k, 3, none⟩) (by rw [hz.out]; show k < _; omega)).trans q3⟩⟩
    have HB2 := Aside0.mk (Below.refl w1.heap.size w1)
    go_region_held3 (fun w' => w'.cell? ⟨k, 0, none⟩ = some (.int .i64 a) ∧ w'.cell? ⟨k, 1, none⟩ = some (.int .i64 tenant) ∧ w'.cell? ⟨k, 2, none⟩ = some (.int .i64 n) ∧ w'.cell? ⟨k, 3, none⟩ = some (.int .i64 stop)) ((refine HS.out _ ?_; repeat (first | exact HB2.out | apply below_alloc | apply below_drew1 | refine below_set ?_ (by simp; omega)))) (fail)
    all_goals go_wp2
    all_goals go_meet
    all_goals exact ⟨_, _, _, _, rfl, rfl, rfl, rfl, ⟨⟨by first | exact (four_here _ _ _ _ _).1 | exact (four_here _ _ _ _ _).2.1 | exact (four_here _ _ _ _ _).2.2.1 | exact (four_here _ _ _ _ _).2.2.2, by first | exact (four_here _ _ _ _ _).1 | exact (four_here _ _ _ _ _).2.1 | exact (four_here _ _ _ _ _).2.2.1 | exact (four_here _ _ _ _ _).2.2.2, by first | exact (four_here _ _ _ _ _).1 | exact (four_here _ _ _ _ _).2.1 | exact (four_here _ _ _ _ _).2.2.1 | exact (four_here _ _ _ _ _).2.2.2, by first | exact (four_here _ _ _ _ _).1 | exact (four_here _ _ _ _ _).2.1 | exact (four_here _ _ _ _ _).2.2.1 | exact (four_here _ _ _ _ _).2.2.2, by have := hz.out; omega, by have := hz.out; omega, by have := hz.out; omega, by have := hz.out; omega⟩⟩, ⟨HB1.out.trans (Below.mono (by repeat (first | exact HB2.out | apply below_alloc | apply below_drew1)) (by rw [hz.out]; omega))⟩, ⟨by have := hz.out; simp; omega⟩, ⟨(four_far _ qr fr (by rw [hz.out]; omega) _ _ _ _).1, (four_far _ qr fr (by rw [hz.out]; omega) _ _ _ _).2⟩⟩
  case rest =>
    obtain ⟨b3, b4, b5, b6, rfl, rfl, rfl, rfl, HX, HBw, HZ, HR⟩ := hcut
    clear q0 q1 q2 q3 qr fr hz HB1
    have c3 := HX.out.c3
    have c4 := HX.out.c4
    have c5 := HX.out.c5
    have c6 := HX.out.c6
    have cr := HR.out.1
    have fr := HR.out.2
    by_cases h1 : stop < 1
    · have d1 : decide (stop < 1) = true := decide_eq_true h1
      go_wp2_with (first | (go_at_call 17; refine (squintlaw19_awake.calls 20 true _ awake_at).mono ?_; rintro e w5 ⟨rfl, hb⟩; have cr5 := (hb.cell (p := ⟨k + 1, 0, none⟩) (by rw [HZ.out]; show k + 1 < _; omega)).trans cr; have fr5 := (World.frozen?_of_block (hb.block (k + 1) (by rw [HZ.out]; omega))).trans fr; have HB5 := Aside0.mk (HBw.out.trans (hb.mono (by rw [HZ.out]; omega)))))
      refine ⟨.bool true, by have q := World.cell?_setCell_same' w5 ⟨k + 1, 0, none⟩ (.bool true) (by rw [cr5]; rfl); simp [results, Try.f13, go_sem, q], rfl, HKK.out ▸ (HB5.out.setCell (p := ⟨k + 1, 0, none⟩) (by simp) _)⟩
    · have d1 : decide (stop < 1) = false := decide_eq_false h1
      by_cases h2 : 200 < stop
      · have d2 : decide (200 < stop) = true := decide_eq_true h2
        go_wp2_with (first | (go_at_call 17; refine (squintlaw19_awake.calls 20 true _ awake_at).mono ?_; rintro e w5 ⟨rfl, hb⟩; have cr5 := (hb.cell (p := ⟨k + 1, 0, none⟩) (by rw [HZ.out]; show k + 1 < _; omega)).trans cr; have fr5 := (World.frozen?_of_block (hb.block (k + 1) (by rw [HZ.out]; omega))).trans fr; have HB5 := Aside0.mk (HBw.out.trans (hb.mono (by rw [HZ.out]; omega)))))
        refine ⟨.bool true, by have q := World.cell?_setCell_same' w5 ⟨k + 1, 0, none⟩ (.bool true) (by rw [cr5]; rfl); simp [results, Try.f13, go_sem, q], rfl, HKK.out ▸ (HB5.out.setCell (p := ⟨k + 1, 0, none⟩) (by simp) _)⟩
      · have d2 : decide (200 < stop) = false := decide_eq_false h2
        go_upto_region 5 with (first | (go_at_call 17; refine (squintlaw19_awake.calls 20 true _ awake_at).mono ?_; rintro e w5 ⟨rfl, hb⟩; have HB5 := Aside0.mk hb; clear hb))
        obtain ⟨g, hg⟩ : ∃ g, g = w5.heap.size := ⟨_, rfl⟩
        have HX5 := Aside0.mk (HX.out.keep HB5.out (by rw [HZ.out]; omega))
        obtain ⟨W0, hW0⟩ : ∃ W0, W0 = ((w5.alloc (.cells #[.int .i64 0] 3)).alloc (.cells #[.int .i64 0] 3)) := ⟨_, rfl⟩
        have hb0 : Below w5.heap.size w5 W0 := by rw [hW0]; exact below_alloc (below_alloc (Below.refl _ _) _) _
        have hsz5 : k + 6 ≤ w5.heap.size := by have := HB5.out.size; rw [HZ.out] at this; exact this
        have HX0 := Aside0.mk (HX5.out.keep hb0 hsz5)
        have HBw0 := Aside0.mk (HBw.out.trans ((HB5.out.mono (by rw [HZ.out]; omega)).trans (hb0.mono (by omega))))
        have HSz : Aside0 (W0.heap.size = g + 2 ∧ k + 6 ≤ g) := ⟨by rw [hW0, hg]; simp, by rw [hg]; exact hsz5⟩
        have HR0 : Aside0 (W0.cell? ⟨k + 1, 0, none⟩ = some (.bool false) ∧ W0.frozen? ⟨k + 1, 0, none⟩ = false) :=
          ⟨(hb0.cell (p := ⟨k + 1, 0, none⟩) (show k + 1 < _ by omega)).trans ((HB5.out.cell (p := ⟨k + 1, 0, none⟩) (by rw [HZ.out]; show k + 1 < _; omega)).trans cr), (World.frozen?_of_block (hb0.block (k + 1) (by omega))).trans ((World.frozen?_of_block (HB5.out.block (k + 1) (by rw [HZ.out]; omega))).trans fr)⟩
        have HG : Aside0 ((W0.cell? ⟨g, 0, none⟩ = some (.int .i64 0) ∧ W0.frozen? ⟨g, 0, none⟩ = false) ∧ W0.cell? ⟨g + 1, 0, none⟩ = some (.int .i64 0) ∧ W0.frozen? ⟨g + 1, 0, none⟩ = false) := ⟨by rw [hW0, hg]; simp⟩
        rw [← hW0, ← hg]
        clear hW0 hg hb0 hsz5 HX5 HX HBw HZ HR c3 c4 c5 c6 cr fr HB5
        have c3 := HX0.out.c3
        have c4 := HX0.out.c4
        have c5 := HX0.out.c5
        obtain ⟨c, hc⟩ : ∃ c, c = W0.heap.size := ⟨_, rfl⟩
        have HC := Aside0.mk hc
        clear hc
        go_wp2_with (first | (go_at_call 31; refine (turns_calls a tenant n _ c HC.out).mono ?_; rintro e w6 ⟨rfl, rfl⟩))
        refine (wpIn_wide (n := 3)).1 ?_
        have hc := HC.out
        obtain ⟨W6, hW6⟩ : ∃ W6, W6 = (((W0.alloc (.cells #[.int .i64 a] 3)).alloc (.cells #[.int .i64 tenant] 3)).alloc (.cells #[.int .i64 n] 3)) := ⟨_, rfl⟩
        have hb6 : Below W0.heap.size W0 W6 := by rw [hW6]; exact below_alloc (below_alloc (below_alloc (Below.refl _ _) _) _) _
        have hs6 : W6.heap.size = c + 3 := by rw [hW6, hc]; simp
        have k0 : W6.cell? ⟨c, 0, none⟩ = some (.int .i64 a) := by rw [hW6, hc]; exact past _ (past _ (at_alloc _ _ _ rfl) _) _
        have k1 : W6.cell? ⟨c + 1, 0, none⟩ = some (.int .i64 tenant) := by rw [hW6, hc]; exact past _ (at_alloc _ _ _ (by simp)) _
        have k2 : W6.cell? ⟨c + 2, 0, none⟩ = some (.int .i64 n) := by rw [hW6, hc]; exact at_alloc _ _ _ (by simp)
        have hgc : c = g + 2 := by rw [hc]; exact HSz.out.1
        have hkg := HSz.out.2
        have hIv : Iv W6 k b3 b4 b5 b6 g a tenant n stop false 0 0 :=
          (⟨HX0.out, HG.out.1.1, HG.out.1.2, HG.out.2.1, HG.out.2.2, HR0.out.1, HR0.out.2⟩ : Iv W0 k b3 b4 b5 b6 g a tenant n stop false 0 0).grown (grown_of_below hb6 none)
        have hBw6 : Below k w W6 := HBw0.out.trans (hb6.mono (by omega))
        rw [← hW6]
        have HGC := Aside0.mk hgc
        have HS6 := Aside0.mk hs6
        clear hc hgc hs6 hW6 hb6 HX0 HG HR0 HBw0 HSz c3 c4 c5
        refine wpIn_rangeFunc_ownF rfl (by decide) (gf := 39) (lb := #[.pointer (some ⟨c + 1, 0, none⟩), .pointer (some ⟨c, 0, none⟩), .pointer (some ⟨c + 2, 0, none⟩)]) rfl trivial (enters_of Try.func39 (by kernel_rfl) rfl)
          (turns_stops 2 c (by decide) a tenant n W6 (by rw [HS6.out]; omega) k0 k1 k2) (fun h k => h.trans k) (fun W l o o' hl _ _ _ i hi => World.putObj_heap_other (by rw [HS6.out] at hl; omega)) (Below.refl _ _) (fun _ => rfl)
          (fun pre W => (Aside0 (Iv W k b3 b4 b5 b6 g a tenant n stop false (lastOr pre) pre.length) ∧ ((pre.length : Nat) : Int) < stop) ∧ Below k w W)
          (fun cd pre W => ((cd = .ret ∧ (∃ p x, pre = p ++ [x] ∧ ¬ Tn.Good a tenant n p x)) ∨ (cd = .exit 0 ∧ ∃ at_, Iv W k b3 b4 b5 b6 g a tenant n stop false at_ stop)) ∧ Below k w W)
          (OwnFrom.and (Own.from (fun s A B row hs hg hr => ⟨⟨hs.1.out.kept hg hr⟩, hs.2⟩) _) (ownFrom_below (by rw [HKK.out]; exact Nat.le_refl _) (by have := HGC.out; rw [HS6.out]; omega)))
          (fun cd => OwnFrom.and (Own.from (fun s A B row hs hg hr => hs.imp id (fun q => ⟨q.1, q.2.choose, q.2.choose_spec.kept hg hr⟩)) _) (ownFrom_below (by rw [HKK.out]; exact Nat.le_refl _) (by have := HGC.out; rw [HS6.out]; omega)))
          ⟨⟨⟨hIv⟩, by show (0 : Int) < stop; omega⟩, hBw6⟩
          (fun x => { tmps := #[.agg #[.int .i64 a, .int .i64 tenant, .int .i64 n, .int .i64 stop], .pointer (some ⟨k, 0, none⟩), .pointer (some ⟨k + 1, 0, none⟩), .pointer (some ⟨b3, 0, none⟩), .pointer (some ⟨b4, 0, none⟩), .pointer (some ⟨b5, 0, none⟩), .pointer (some ⟨b6, 0, none⟩), .pointer (some ⟨g, 0, none⟩), .pointer (some ⟨g + 1, 0, none⟩), .int .i64 x.1, u10, u11, u12, u13, u14, u15, u16, u17, .int .i64 stop, .bool false, .bool false, .int .i64 stop, .bool false, .bool false, .bool false, .bool true, .bool false, .bool false, undef, .int .i64 a, .int .i64 tenant, .int .i64 n, .func (.func 39) #[] #[.pointer (some ⟨c + 1, 0, none⟩), .pointer (some ⟨c, 0, none⟩), .pointer (some ⟨c + 2, 0, none⟩)], .int .i64 x.1, undef, undef, undef, undef, undef, undef, undef, undef, undef, undef, undef, undef, undef, undef, undef, undef, undef, undef, undef, undef, undef, undef, undef, undef, undef, undef, undef, undef, undef, undef, undef, undef, undef, undef, undef, undef, undef, undef, undef, undef, undef, undef, undef, undef, undef, undef, undef, undef, undef, undef, undef, undef, undef, undef, undef, undef, undef, undef, undef, undef, undef, undef, undef, undef, undef, undef, undef, undef], defers := [] }) ?assign ?body ?done ?stop
        case assign =>
          intro l x W K hK
          gi_wp2
          exact hK
        case body =>
          rintro l pre x W ⟨⟨HI, hlen⟩, hB⟩ _
          have c3 := HI.out.bx.c3
          have c4 := HI.out.bx.c4
          have c5 := HI.out.bx.c5
          have c6 := HI.out.bx.c6
          have cg := HI.out.cg
          have fg := HI.out.fg
          have ch := HI.out.ch
          have fh := HI.out.fh
          have cr := HI.out.cr
          have fr := HI.out.fr
          have HB6 := Aside0.mk hB
          clear hB hIv hBw6 k0 k1 k2
          have hx0 : 0 ≤ x.1 := x.2.1
          have hx1 : x.1 < 1073741824 := x.2.2
          obtain ⟨cn, hcn⟩ : ∃ cn : Int, cn = (pre.length : Nat) := ⟨_, rfl⟩
          obtain ⟨lv, hlv⟩ : ∃ lv : Int, lv = lastOr pre := ⟨_, rfl⟩
          have hlb := lastOr_bd pre
          rw [← hcn] at HI ch hlen
          rw [← hlv] at HI cg hlb
          have hc0 : 0 ≤ cn := by omega
          have HCN := Aside0.mk hcn
          have HLV := Aside0.mk hlv
          clear hcn hlv
          obtain ⟨hl0, hl1⟩ := hlb
          have hkg' : k + 6 ≤ g := hkg
          have hS6 : ∀ (m : Nat) (u v : Value), (((W.drewN m).setCell ⟨g, 0, none⟩ u).setCell ⟨g + 1, 0, none⟩ v).cell? ⟨b6, 0, none⟩ = some (.int .i64 stop) := fun m u v => other (other (show (W.drewN m).cell? _ = _ from c6) (by have := HI.out.bx.l6; omega)) (by have := HI.out.bx.l6; omega)
          by_cases hr : Right a n
          · obtain ⟨r0, r1, r2, r3⟩ := id hr
            have en : (n == 0) = false := beq_eq_false_iff_ne.mpr (by omega)
            have ht : Int.tmod x.1 n = x.1 % n := tmod_ok hx0
            by_cases hm : x.1 % n = tenant
            · have em : (x.1 % n != tenant) = false := bne_eq_false_iff_eq.mpr hm
              have em' : (x.1 % n == tenant) = true := beq_iff_eq.mpr hm
              have ht0 : 0 ≤ tenant := by rw [← hm]; exact Int.emod_nonneg _ (by omega)
              have ht1 : tenant < n := by rw [← hm]; exact Int.emod_lt_of_pos _ (by omega)
              have HM := Aside0.mk hm
              clear ht hm
              by_cases hp : cn = 0
              · have hnil : pre = [] := List.eq_nil_of_length_eq_zero (by have := HCN.out; omega)
                obtain ⟨gv, hgv⟩ : ∃ gv, gv = a + gap tenant a n := ⟨_, rfl⟩
                have HGV : Aside0 (squintref19_Next.f 70 tenant a n = some gv) := ⟨by rw [hgv]; exact refNext hr ht0 ht1 70 (by decide)⟩
                have HGE := Aside0.mk hgv
                clear hgv
                have ep : (cn == 0) = true := beq_iff_eq.mpr hp
                have ep' : decide (0 < cn) = false := decide_eq_false (by omega)
                have HP := Aside0.mk hp
                clear hp
                by_cases hx : x.1 = gv
                · have ex : (x.1 != gv) = false := bne_eq_false_iff_eq.mpr hx
                  have ex' : (x.1 == gv) = true := beq_iff_eq.mpr hx
                  have HX := Aside0.mk hx
                  clear hx
                  by_cases hst : cn + 1 = stop
                  · have est : (cn + 1 == stop) = true := beq_iff_eq.mpr hst
                    clear hst
                    have HST : Aside0 (cn + 1 = stop) := ⟨beq_iff_eq.mp est⟩
                    gi_wp2
                    refine quiet_round l (by kernel_rfl) (by kernel_rfl) (by kernel_rfl) ?_
                    repeat (gi_big_quiet_step (first | (exact callsIn_wide.2 ((squintlaw19_right.calls a n true _ (right_yes hr)).mono (by rintro e w' ⟨rfl, ⟨nd, rfl⟩⟩; exact ⟨rfl, _, World.drewN_drewN ..⟩))) | (exact callsIn_wide.2 ((squintref19_Next.calls 70 tenant a n gv _ HGV.out).mono (by rintro e w' ⟨rfl, ⟨nd, rfl⟩⟩; exact ⟨rfl, _, World.drewN_drewN ..⟩)))))
                    refine wpQuietIn_nil ?_
                    rintro _ ⟨nq, rfl⟩
                    gi_wp2
                    refine ⟨((((St.refl c k w W).drewN nq).set g (by have := HGC.out; omega) (by omega) _).set (g + 1) (by have := HGC.out; omega) (by omega) _).o, .inr ⟨rfl, x.1, by have q := (((HI.out.grown (grownBy_drewN W nq)).setG hkg x.1).setH hkg (cn + 1)); rw [HST.out] at q; rw [← HST.out] at q ⊢; exact q⟩, ((((St.refl c k w W).drewN nq).set g (by have := HGC.out; omega) (by omega) _).set (g + 1) (by have := HGC.out; omega) (by omega) _).b HB6.out⟩
                  · have est : (cn + 1 == stop) = false := beq_eq_false_iff_ne.mpr hst
                    gi_wp2
                    refine quiet_round l (by kernel_rfl) (by kernel_rfl) (by kernel_rfl) ?_
                    repeat (gi_big_quiet_step (first | (exact callsIn_wide.2 ((squintlaw19_right.calls a n true _ (right_yes hr)).mono (by rintro e w' ⟨rfl, ⟨nd, rfl⟩⟩; exact ⟨rfl, _, World.drewN_drewN ..⟩))) | (exact callsIn_wide.2 ((squintref19_Next.calls 70 tenant a n gv _ HGV.out).mono (by rintro e w' ⟨rfl, ⟨nd, rfl⟩⟩; exact ⟨rfl, _, World.drewN_drewN ..⟩)))))
                    refine wpQuietIn_nil ?_
                    rintro _ ⟨nq, rfl⟩
                    gi_wp2
                    refine ⟨((((St.refl c k w W).drewN nq).set g (by have := HGC.out; omega) (by omega) _).set (g + 1) (by have := HGC.out; omega) (by omega) _).o, ((((St.refl c k w W).drewN nq).set g (by have := HGC.out; omega) (by omega) _).set (g + 1) (by have := HGC.out; omega) (by omega) _).c, ⟨⟨by rw [lastOr_snoc, show (((pre ++ [x]).length : Nat) : Int) = cn + 1 by rw [HCN.out]; simp]; exact (((HI.out.grown (grownBy_drewN W nq)).setG hkg x.1).setH hkg (cn + 1))⟩, by have := HCN.out; simp only [List.length_append, List.length_cons, List.length_nil, Nat.zero_add, Int.natCast_add, Int.natCast_one]; omega⟩, ((((St.refl c k w W).drewN nq).set g (by have := HGC.out; omega) (by omega) _).set (g + 1) (by have := HGC.out; omega) (by omega) _).b HB6.out⟩
                · have ex : (x.1 != gv) = true := bne_iff_ne.mpr hx
                  have ex' : (x.1 == gv) = false := beq_eq_false_iff_ne.mpr hx
                  have HX := Aside0.mk hx
                  clear hx
                  gi_wp2
                  refine quiet_round l (by kernel_rfl) (by kernel_rfl) (by kernel_rfl) ?_
                  repeat (gi_big_quiet_step (first | (exact callsIn_wide.2 ((squintlaw19_right.calls a n true _ (right_yes hr)).mono (by rintro e w' ⟨rfl, ⟨nd, rfl⟩⟩; exact ⟨rfl, _, World.drewN_drewN ..⟩))) | (exact callsIn_wide.2 ((squintref19_Next.calls 70 tenant a n gv _ HGV.out).mono (by rintro e w' ⟨rfl, ⟨nd, rfl⟩⟩; exact ⟨rfl, _, World.drewN_drewN ..⟩)))))
                  refine wpQuietIn_nil ?_
                  rintro _ ⟨nq, rfl⟩
                  gi_wp2
                  refine ⟨((St.refl c k w W).drewN nq).set (k + 1) (by have := HGC.out; omega) (by omega) _ |>.o, .inl ⟨rfl, pre, x, rfl, fun q => HX.out (by rw [HGE.out]; exact q.2.2.1 hnil)⟩, (((St.refl c k w W).drewN nq).set (k + 1) (by have := HGC.out; omega) (by omega) _).b HB6.out⟩
              · have ep : (cn == 0) = false := beq_eq_false_iff_ne.mpr hp
                have ep' : decide (0 < cn) = true := decide_eq_true (by omega)
                have hne : pre ≠ [] := fun q => hp (by rw [HCN.out, q]; rfl)
                have hlast : ∃ y, pre.getLast? = some y := ⟨_, List.getLast?_eq_some_getLast hne⟩
                have HLA := Aside0.mk hlast
                clear hlast
                by_cases hx : x.1 = lv + n
                · have ex : (x.1 != lv + n) = false := bne_eq_false_iff_eq.mpr hx
                  have ex' : (x.1 == lv + n) = true := beq_iff_eq.mpr hx
                  have HX := Aside0.mk hx
                  clear hx
                  by_cases hst : cn + 1 = stop
                  · have est : (cn + 1 == stop) = true := beq_iff_eq.mpr hst
                    clear hst
                    have HST : Aside0 (cn + 1 = stop) := ⟨beq_iff_eq.mp est⟩
                    gi_wp2
                    refine quiet_round l (by kernel_rfl) (by kernel_rfl) (by kernel_rfl) ?_
                    repeat (gi_big_quiet_step (first | (exact callsIn_wide.2 ((squintlaw19_right.calls a n true _ (right_yes hr)).mono (by rintro e w' ⟨rfl, ⟨nd, rfl⟩⟩; exact ⟨rfl, _, World.drewN_drewN ..⟩)))))
                    refine wpQuietIn_nil ?_
                    rintro _ ⟨nq, rfl⟩
                    gi_wp2
                    refine ⟨((((St.refl c k w W).drewN nq).set g (by have := HGC.out; omega) (by omega) _).set (g + 1) (by have := HGC.out; omega) (by omega) _).o, .inr ⟨rfl, x.1, by have q := (((HI.out.grown (grownBy_drewN W nq)).setG hkg x.1).setH hkg (cn + 1)); rw [HST.out] at q; rw [← HST.out] at q ⊢; exact q⟩, ((((St.refl c k w W).drewN nq).set g (by have := HGC.out; omega) (by omega) _).set (g + 1) (by have := HGC.out; omega) (by omega) _).b HB6.out⟩
                  · have est : (cn + 1 == stop) = false := beq_eq_false_iff_ne.mpr hst
                    gi_wp2
                    refine quiet_round l (by kernel_rfl) (by kernel_rfl) (by kernel_rfl) ?_
                    repeat (gi_big_quiet_step (first | (exact callsIn_wide.2 ((squintlaw19_right.calls a n true _ (right_yes hr)).mono (by rintro e w' ⟨rfl, ⟨nd, rfl⟩⟩; exact ⟨rfl, _, World.drewN_drewN ..⟩)))))
                    refine wpQuietIn_nil ?_
                    rintro _ ⟨nq, rfl⟩
                    gi_wp2
                    refine ⟨((((St.refl c k w W).drewN nq).set g (by have := HGC.out; omega) (by omega) _).set (g + 1) (by have := HGC.out; omega) (by omega) _).o, ((((St.refl c k w W).drewN nq).set g (by have := HGC.out; omega) (by omega) _).set (g + 1) (by have := HGC.out; omega) (by omega) _).c, ⟨⟨by rw [lastOr_snoc, show (((pre ++ [x]).length : Nat) : Int) = cn + 1 by rw [HCN.out]; simp]; exact (((HI.out.grown (grownBy_drewN W nq)).setG hkg x.1).setH hkg (cn + 1))⟩, by have := HCN.out; simp only [List.length_append, List.length_cons, List.length_nil, Nat.zero_add, Int.natCast_add, Int.natCast_one]; omega⟩, ((((St.refl c k w W).drewN nq).set g (by have := HGC.out; omega) (by omega) _).set (g + 1) (by have := HGC.out; omega) (by omega) _).b HB6.out⟩
                · have ex : (x.1 != lv + n) = true := bne_iff_ne.mpr hx
                  have ex' : (x.1 == lv + n) = false := beq_eq_false_iff_ne.mpr hx
                  have HX := Aside0.mk hx
                  clear hx
                  gi_wp2
                  refine quiet_round l (by kernel_rfl) (by kernel_rfl) (by kernel_rfl) ?_
                  repeat (gi_big_quiet_step (first | (exact callsIn_wide.2 ((squintlaw19_right.calls a n true _ (right_yes hr)).mono (by rintro e w' ⟨rfl, ⟨nd, rfl⟩⟩; exact ⟨rfl, _, World.drewN_drewN ..⟩)))))
                  refine wpQuietIn_nil ?_
                  rintro _ ⟨nq, rfl⟩
                  gi_wp2
                  refine ⟨((St.refl c k w W).drewN nq).set (k + 1) (by have := HGC.out; omega) (by omega) _ |>.o, .inl ⟨rfl, pre, x, rfl, fun q => HX.out (by obtain ⟨y, hy⟩ := HLA.out; rw [HLV.out, lastOr_some hy]; exact q.2.2.2 y hy)⟩, (((St.refl c k w W).drewN nq).set (k + 1) (by have := HGC.out; omega) (by omega) _).b HB6.out⟩
            · have em : (x.1 % n != tenant) = true := bne_iff_ne.mpr hm
              have em' : (x.1 % n == tenant) = false := beq_eq_false_iff_ne.mpr hm
              have HM := Aside0.mk hm
              clear ht hm
              gi_wp2
              refine quiet_round l (by kernel_rfl) (by kernel_rfl) (by kernel_rfl) ?_
              repeat (gi_big_quiet_step (first | (exact callsIn_wide.2 ((squintlaw19_right.calls a n true _ (right_yes hr)).mono (by rintro e w' ⟨rfl, ⟨nd, rfl⟩⟩; exact ⟨rfl, _, World.drewN_drewN ..⟩)))))
              refine wpQuietIn_nil ?_
              rintro _ ⟨nq, rfl⟩
              gi_wp2
              refine ⟨((St.refl c k w W).drewN nq).set (k + 1) (by have := HGC.out; omega) (by omega) _ |>.o, .inl ⟨rfl, pre, x, rfl, fun q => HM.out q.2.1⟩, (((St.refl c k w W).drewN nq).set (k + 1) (by have := HGC.out; omega) (by omega) _).b HB6.out⟩
          · gi_wp2
            refine quiet_round l (by kernel_rfl) (by kernel_rfl) (by kernel_rfl) ?_
            repeat (gi_big_quiet_step (first | (exact callsIn_wide.2 ((squintlaw19_right.calls a n false _ (right_no hr)).mono (by rintro e w' ⟨rfl, ⟨nd, rfl⟩⟩; exact ⟨rfl, _, World.drewN_drewN ..⟩)))))
            refine wpQuietIn_nil ?_
            rintro _ ⟨nq, rfl⟩
            gi_wp2
            refine ⟨((St.refl c k w W).drewN nq).set (k + 1) (by have := HGC.out; omega) (by omega) _ |>.o, .inl ⟨rfl, pre, x, rfl, fun q => hr q.1⟩, (((St.refl c k w W).drewN nq).set (k + 1) (by have := HGC.out; omega) (by omega) _).b HB6.out⟩
        case done =>
          rintro D ys W hD rfl ⟨⟨HI, hlen⟩, hB⟩ hK
          have c3 := HI.out.bx.c3
          have c4 := HI.out.bx.c4
          have c5 := HI.out.bx.c5
          have c6 := HI.out.bx.c6
          have cg := HI.out.cg
          have ch := HI.out.ch
          have cr := HI.out.cr
          have fr := HI.out.fr
          have HB' : Aside0 (Below k w W) := ⟨hB⟩
          have hB' := HB'
          have hWs : c + 3 ≤ D := by rw [← HS6.out]; exact hD
          have hDl : D < W.heap.size := (Array.getElem?_eq_some_iff.1 hK).1
          have hcg := HGC.out
          have HDL := Aside0.mk hDl
          have HLT : Aside0 (k + 1 < W.heap.size) := ⟨by omega⟩
          have HKL : Aside0 (k ≤ W.heap.size) := ⟨by omega⟩
          have HDN : Aside0 (D ≠ k + 1) := ⟨by omega⟩
          have HDW : Aside0 (w.heap.size ≤ D) := ⟨by rw [← HKK.out]; omega⟩
          have HK := Aside0.mk hK
          clear hK hB hD hWs hDl hcg hIv hBw6 k0 k1 k2 HB'
          have est : (((full a tenant n).length : Int) == stop) = false := beq_eq_false_iff_ne.mpr (by omega)
          have HE := Aside0.mk (full_end a tenant n)
          have hlb := lastOr_bd (full a tenant n)
          generalize hcn : (((full a tenant n).length : Nat) : Int) = cn at est ch hlen
          generalize hlv : lastOr (full a tenant n) = lv at HE cg hlb
          clear hcn hlv HI
          obtain ⟨hl0, hl1⟩ := hlb
          by_cases hr : Right a n
          · obtain ⟨r0, r1, r2, r3⟩ := id hr
            by_cases ht : tenant < 0
            · have dt : decide (tenant < 0) = true := decide_eq_true ht
              go_wp2_with (first | (go_at_call 15; refine (squintlaw19_right.calls a n true _ (right_yes hr)).mono ?_; rintro e w' ⟨rfl, ⟨nd, rfl⟩⟩) | (go_at_call 17; refine (squintlaw19_awake.calls 20 true _ awake_at).mono ?_; rintro e w8 ⟨rfl, hb0⟩; have hb : Below W.heap.size W w8 := (by first | exact hb0 | exact (pw_below_drewN (Below.refl W.heap.size W) _).trans hb0); clear hb0; have cr8 : w8.cell? ⟨k + 1, 0, none⟩ = some (.bool false) := (hb.cell (p := ⟨k + 1, 0, none⟩) HLT.out).trans cr; have fr8 : w8.frozen? ⟨k + 1, 0, none⟩ = false := (World.frozen?_of_block (hb.block (k + 1) HLT.out)).trans fr; have HK8 := Aside0.mk ((hb.block D HDL.out).trans HK.out); have HB8 := Aside0.mk (hB'.out.trans (hb.mono HKL.out)); clear hb))
              have hK8 : (w8.setCell ⟨k + 1, 0, none⟩ (.bool true)).heap[D]? = some (.deferred (some [])) := (Below.heap_setCell _ _ _ D HDN.out).trans HK8.out
              refine ⟨by simp, .inl ⟨_, _, rfl, run_takeDeferred hK8, ?_⟩⟩
              have hc5 := cell_kept (World.cell?_setCell_same' w8 ⟨k + 1, 0, none⟩ (.bool true) (by rw [cr8]; rfl)) (grownBy_putObj' _ D (.deferred none)) (fun r e => by cases e; exact ⟨_, hK8, rfl⟩)
              refine ⟨.bool true, by simp [results, Try.f13, go_sem, hc5], rfl, ?_⟩
              have q := (HB8.out.setCell (p := ⟨k + 1, 0, none⟩) (Nat.le_succ k) (.bool true)).trans (belowK_b (w := w) (n₀ := k) (by rw [HKK.out]; exact Nat.le_refl _) (w8.setCell ⟨k + 1, 0, none⟩ (.bool true)) D _ (.deferred none) HDW.out hK8 rfl rfl)
              exact q.mono (Nat.le_of_eq HKK.out.symm)
            · have dt : decide (tenant < 0) = false := decide_eq_false ht
              by_cases hu : n ≤ tenant
              · have du : decide (n ≤ tenant) = true := decide_eq_true hu
                go_wp2_with (first | (go_at_call 15; refine (squintlaw19_right.calls a n true _ (right_yes hr)).mono ?_; rintro e w' ⟨rfl, ⟨nd, rfl⟩⟩) | (go_at_call 17; refine (squintlaw19_awake.calls 20 true _ awake_at).mono ?_; rintro e w8 ⟨rfl, hb0⟩; have hb : Below W.heap.size W w8 := (by first | exact hb0 | exact (pw_below_drewN (Below.refl W.heap.size W) _).trans hb0); clear hb0; have cr8 : w8.cell? ⟨k + 1, 0, none⟩ = some (.bool false) := (hb.cell (p := ⟨k + 1, 0, none⟩) HLT.out).trans cr; have fr8 : w8.frozen? ⟨k + 1, 0, none⟩ = false := (World.frozen?_of_block (hb.block (k + 1) HLT.out)).trans fr; have HK8 := Aside0.mk ((hb.block D HDL.out).trans HK.out); have HB8 := Aside0.mk (hB'.out.trans (hb.mono HKL.out)); clear hb))
                have hK8 : (w8.setCell ⟨k + 1, 0, none⟩ (.bool true)).heap[D]? = some (.deferred (some [])) := (Below.heap_setCell _ _ _ D HDN.out).trans HK8.out
                refine ⟨by simp, .inl ⟨_, _, rfl, run_takeDeferred hK8, ?_⟩⟩
                have hc5 := cell_kept (World.cell?_setCell_same' w8 ⟨k + 1, 0, none⟩ (.bool true) (by rw [cr8]; rfl)) (grownBy_putObj' _ D (.deferred none)) (fun r e => by cases e; exact ⟨_, hK8, rfl⟩)
                refine ⟨.bool true, by simp [results, Try.f13, go_sem, hc5], rfl, ?_⟩
                have q := (HB8.out.setCell (p := ⟨k + 1, 0, none⟩) (Nat.le_succ k) (.bool true)).trans (belowK_b (w := w) (n₀ := k) (by rw [HKK.out]; exact Nat.le_refl _) (w8.setCell ⟨k + 1, 0, none⟩ (.bool true)) D _ (.deferred none) HDW.out hK8 rfl rfl)
                exact q.mono (Nat.le_of_eq HKK.out.symm)
              · have du : decide (n ≤ tenant) = false := decide_eq_false hu
                have hbig : 1073741824 ≤ max lv a + n := by
                  rcases HE.out with q | q | q | q
                  · exact absurd hr q
                  · exact absurd q ht
                  · exact absurd q hu
                  · exact q
                have dm : decide (1073741824 ≤ max lv a + n) = true := decide_eq_true hbig
                go_wp2_with (first | (go_at_call 15; refine (squintlaw19_right.calls a n true _ (right_yes hr)).mono ?_; rintro e w' ⟨rfl, ⟨nd, rfl⟩⟩) | (go_at_call 17; refine (squintlaw19_awake.calls 20 true _ awake_at).mono ?_; rintro e w8 ⟨rfl, hb0⟩; have hb : Below W.heap.size W w8 := (by first | exact hb0 | exact (pw_below_drewN (Below.refl W.heap.size W) _).trans hb0); clear hb0; have cr8 : w8.cell? ⟨k + 1, 0, none⟩ = some (.bool false) := (hb.cell (p := ⟨k + 1, 0, none⟩) HLT.out).trans cr; have fr8 : w8.frozen? ⟨k + 1, 0, none⟩ = false := (World.frozen?_of_block (hb.block (k + 1) HLT.out)).trans fr; have HK8 := Aside0.mk ((hb.block D HDL.out).trans HK.out); have HB8 := Aside0.mk (hB'.out.trans (hb.mono HKL.out)); clear hb))
                all_goals
                  have hK8 : (w8.setCell ⟨k + 1, 0, none⟩ (.bool true)).heap[D]? = some (.deferred (some [])) := (Below.heap_setCell _ _ _ D HDN.out).trans HK8.out
                  refine ⟨by simp, .inl ⟨_, _, rfl, run_takeDeferred hK8, ?_⟩⟩
                  have hc5 := cell_kept (World.cell?_setCell_same' w8 ⟨k + 1, 0, none⟩ (.bool true) (by rw [cr8]; rfl)) (grownBy_putObj' _ D (.deferred none)) (fun r e => by cases e; exact ⟨_, hK8, rfl⟩)
                  refine ⟨.bool true, by simp [results, Try.f13, go_sem, hc5], rfl, ?_⟩
                  have q := (HB8.out.setCell (p := ⟨k + 1, 0, none⟩) (Nat.le_succ k) (.bool true)).trans (belowK_b (w := w) (n₀ := k) (by rw [HKK.out]; exact Nat.le_refl _) (w8.setCell ⟨k + 1, 0, none⟩ (.bool true)) D _ (.deferred none) HDW.out hK8 rfl rfl)
                  exact q.mono (Nat.le_of_eq HKK.out.symm)
          · go_wp2_with (first | (go_at_call 15; refine (squintlaw19_right.calls a n false _ (right_no hr)).mono ?_; rintro e w' ⟨rfl, ⟨nd, rfl⟩⟩) | (go_at_call 17; refine (squintlaw19_awake.calls 20 true _ awake_at).mono ?_; rintro e w8 ⟨rfl, hb0⟩; have hb : Below W.heap.size W w8 := (by first | exact hb0 | exact (pw_below_drewN (Below.refl W.heap.size W) _).trans hb0); clear hb0; have cr8 : w8.cell? ⟨k + 1, 0, none⟩ = some (.bool false) := (hb.cell (p := ⟨k + 1, 0, none⟩) HLT.out).trans cr; have fr8 : w8.frozen? ⟨k + 1, 0, none⟩ = false := (World.frozen?_of_block (hb.block (k + 1) HLT.out)).trans fr; have HK8 := Aside0.mk ((hb.block D HDL.out).trans HK.out); have HB8 := Aside0.mk (hB'.out.trans (hb.mono HKL.out)); clear hb))
            have hK8 : (w8.setCell ⟨k + 1, 0, none⟩ (.bool true)).heap[D]? = some (.deferred (some [])) := (Below.heap_setCell _ _ _ D HDN.out).trans HK8.out
            refine ⟨by simp, .inl ⟨_, _, rfl, run_takeDeferred hK8, ?_⟩⟩
            have hc5 := cell_kept (World.cell?_setCell_same' w8 ⟨k + 1, 0, none⟩ (.bool true) (by rw [cr8]; rfl)) (grownBy_putObj' _ D (.deferred none)) (fun r e => by cases e; exact ⟨_, hK8, rfl⟩)
            refine ⟨.bool true, by simp [results, Try.f13, go_sem, hc5], rfl, ?_⟩
            have q := (HB8.out.setCell (p := ⟨k + 1, 0, none⟩) (Nat.le_succ k) (.bool true)).trans (belowK_b (w := w) (n₀ := k) (by rw [HKK.out]; exact Nat.le_refl _) (w8.setCell ⟨k + 1, 0, none⟩ (.bool true)) D _ (.deferred none) HDW.out hK8 rfl rfl)
            exact q.mono (Nat.le_of_eq HKK.out.symm)
        case stop =>
          rintro D cd pre W hD hpre ⟨hx, hB⟩ hK
          rcases hx with ⟨rfl, p, x, rfl, hbad⟩ | ⟨rfl, at_, HI0⟩
          · exact absurd (full_good hpre) hbad
          · have HI := Aside0.mk HI0
            clear HI0
            have c3 := HI.out.bx.c3
            have c4 := HI.out.bx.c4
            have c5 := HI.out.bx.c5
            have c6 := HI.out.bx.c6
            have cg := HI.out.cg
            have ch := HI.out.ch
            have cr := HI.out.cr
            have fr := HI.out.fr
            have HB' : Aside0 (Below k w W) := ⟨hB⟩
            have hB' := HB'
            have hWs : c + 3 ≤ D := by rw [← HS6.out]; exact hD
            have hDl : D < W.heap.size := (Array.getElem?_eq_some_iff.1 hK).1
            have hcg := HGC.out
            have HDL := Aside0.mk hDl
            have HLT : Aside0 (k + 1 < W.heap.size) := ⟨by omega⟩
            have HKL : Aside0 (k ≤ W.heap.size) := ⟨by omega⟩
            have HDN : Aside0 (D ≠ k + 1) := ⟨by omega⟩
            have HDW : Aside0 (w.heap.size ≤ D) := ⟨by rw [← HKK.out]; omega⟩
            have HK := Aside0.mk hK
            clear hK hB hD hWs hDl hcg hIv hBw6 k0 k1 k2 HB'
            clear HI
            refine wpIn_wide.2 ?_
            go_wp2_with (first | (go_at_call 17; refine (squintlaw19_awake.calls 20 true _ awake_at).mono ?_; rintro e w8 ⟨rfl, hb0⟩; have hb : Below W.heap.size W w8 := (by first | exact hb0 | exact (pw_below_drewN (Below.refl W.heap.size W) _).trans hb0); clear hb0; have cr8 : w8.cell? ⟨k + 1, 0, none⟩ = some (.bool false) := (hb.cell (p := ⟨k + 1, 0, none⟩) HLT.out).trans cr; have fr8 : w8.frozen? ⟨k + 1, 0, none⟩ = false := (World.frozen?_of_block (hb.block (k + 1) HLT.out)).trans fr; have HK8 := Aside0.mk ((hb.block D HDL.out).trans HK.out); have HB8 := Aside0.mk (hB'.out.trans (hb.mono HKL.out)); clear hb))
            have hK8 : (w8.setCell ⟨k + 1, 0, none⟩ (.bool true)).heap[D]? = some (.deferred (some [])) := (Below.heap_setCell _ _ _ D HDN.out).trans HK8.out
            refine ⟨by simp, .inl ⟨_, _, rfl, run_takeDeferred hK8, ?_⟩⟩
            have hc5 := cell_kept (World.cell?_setCell_same' w8 ⟨k + 1, 0, none⟩ (.bool true) (by rw [cr8]; rfl)) (grownBy_putObj' _ D (.deferred none)) (fun r e => by cases e; exact ⟨_, hK8, rfl⟩)
            refine ⟨.bool true, by simp [results, Try.f13, go_sem, hc5], rfl, ?_⟩
            have q := (HB8.out.setCell (p := ⟨k + 1, 0, none⟩) (Nat.le_succ k) (.bool true)).trans (belowK_b (w := w) (n₀ := k) (by rw [HKK.out]; exact Nat.le_refl _) (w8.setCell ⟨k + 1, 0, none⟩ (.bool true)) D _ (.deferred none) HDW.out hK8 rfl rfl)
            exact q.mono (Nat.le_of_eq HKK.out.symm)
end Go.Proofs.Ytfnffnhlfjcplaa.Tl
