/- The coder's codes, made. The coder's codes, got: made the first time, and not again. A new coder. The symbol with a code of a length. The document's lengths. -/
import Derived.Test.YthfildmldppihaaA2
import Derived.Deep.MidRow
import Derived.BigRegion
/- The coder's codes, made. -/
namespace Go.Proofs.Ythfildmldppihaa.Gj
open Go.RowKit Go.Proofs.Ythfildmldppihaa.Ga Go.Proofs.Ythfildmldppihaa.Gb Go.Proofs.Ythfildmldppihaa.Gf Go.Proofs.Ythfildmldppihaa.Gg Go.Proofs.Ythfildmldppihaa.Gh Go.Proofs.Ythfildmldppihaa.Gi Go.Proofs.YthfildmldppihaaW.PrintWords Go.Proofs.YthfildmldppihaaW.PrintLast Go.Proofs.YthfildmldppihaaW.PrintMore

/-- The coder's cells behind the Once's, as they stand where nothing was made yet. -/
structure Fresh (b : Nat) (W : World) : Prop where
  f : ∀ k, k < 611 → W.frozen? ⟨b, k, none⟩ = false
  made : W.cell? ⟨b, 3, none⟩ = some (.int .i64 0)
  code : ∀ k, k < 257 → W.cell? ⟨b, 4 + k, none⟩ = some (.int .u32 0)
  order : ∀ k, k < 257 → W.cell? ⟨b, 261 + k, none⟩ = some (.int .i64 0)
  fst : ∀ k, k < 31 → W.cell? ⟨b, 518 + k, none⟩ = some (.int .u32 0)
  cnt : ∀ k, k < 31 → W.cell? ⟨b, 549 + k, none⟩ = some (.int .i64 0)
  beg : ∀ k, k < 31 → W.cell? ⟨b, 580 + k, none⟩ = some (.int .i64 0)

/-- The same but for the order. -/
structure Fresh0 (b : Nat) (W : World) : Prop where
  f : ∀ k, k < 611 → W.frozen? ⟨b, k, none⟩ = false
  made : W.cell? ⟨b, 3, none⟩ = some (.int .i64 0)
  code : ∀ k, k < 257 → W.cell? ⟨b, 4 + k, none⟩ = some (.int .u32 0)
  fst : ∀ k, k < 31 → W.cell? ⟨b, 518 + k, none⟩ = some (.int .u32 0)
  cnt : ∀ k, k < 31 → W.cell? ⟨b, 549 + k, none⟩ = some (.int .i64 0)
  beg : ∀ k, k < 31 → W.cell? ⟨b, 580 + k, none⟩ = some (.int .i64 0)

/-- How far each length's row has come when i symbols have their codes. -/
def cn (i n : Nat) : Nat := min (i - S n) (K n)
def fs (i n : Nat) : Nat := if S n < i ∧ 0 < K n then C (o (S n)) else 0
def bg (i n : Nat) : Nat := if S n < i ∧ 0 < K n then S n else 0

/-- The coder's cells when i symbols have their codes, and the codes were made m times. -/
structure Tb' (b i m : Nat) (W : World) : Prop where
  f : ∀ k, k < 611 → W.frozen? ⟨b, k, none⟩ = false
  made : W.cell? ⟨b, 3, none⟩ = some (.int .i64 (m : Nat))
  code : ∀ j, j < i → W.cell? ⟨b, 4 + o j, none⟩ = some (.int .u32 (C (o j) : Nat))
  code' : ∀ x, x < 257 → ∃ v, W.cell? ⟨b, 4 + x, none⟩ = some v
  order : ∀ k, k < 257 → W.cell? ⟨b, 261 + k, none⟩ = some (.int .i64 (o k : Nat))
  fst : ∀ n, n < 31 → W.cell? ⟨b, 518 + n, none⟩ = some (.int .u32 (fs i n : Nat))
  cnt : ∀ n, n < 31 → W.cell? ⟨b, 549 + n, none⟩ = some (.int .i64 (cn i n : Nat))
  beg : ∀ n, n < 31 → W.cell? ⟨b, 580 + n, none⟩ = some (.int .i64 (bg i n : Nat))

theorem cn_same (i n : Nat) (hi : i < 257) (hn : n < 31) (h : n ≠ L (o i)) : cn (i + 1) n = cn i n ∧ fs (i + 1) n = fs i n ∧ bg (i + 1) n = bg i n := by
  have := inj i hi n hn h
  have hz := S_bd n hn
  unfold cn fs bg
  rcases this with h1 | h1
  · refine ⟨by omega, ?_, ?_⟩
    · rw [if_neg (by omega), if_neg (by omega)]
    · rw [if_neg (by omega), if_neg (by omega)]
  · refine ⟨by omega, ?_, ?_⟩
    · by_cases hk : 0 < K n
      · rw [if_pos ⟨by omega, hk⟩, if_pos ⟨by omega, hk⟩]
      · rw [if_neg (by omega), if_neg (by omega)]
    · by_cases hk : 0 < K n
      · rw [if_pos ⟨by omega, hk⟩, if_pos ⟨by omega, hk⟩]
      · rw [if_neg (by omega), if_neg (by omega)]
theorem cn_here (i : Nat) (hi : i < 257) : cn (i + 1) (L (o i)) = cn i (L (o i)) + 1 ∧ (cn i (L (o i)) = 0 → S (L (o i)) = i) ∧ (cn i (L (o i)) ≠ 0 → fs (i + 1) (L (o i)) = fs i (L (o i)) ∧ bg (i + 1) (L (o i)) = bg i (L (o i))) ∧
    (S (L (o i)) = i → fs (i + 1) (L (o i)) = C (o i) ∧ bg (i + 1) (L (o i)) = i) := by
  have := seg i hi
  unfold cn fs bg
  refine ⟨by omega, by omega, fun h => ?_, fun h => ?_⟩
  · rw [if_pos (by omega), if_pos (by omega), if_pos (by omega), if_pos (by omega)]; exact ⟨rfl, rfl⟩
  · rw [if_pos (by omega), if_pos (by omega), h]; exact ⟨rfl, rfl⟩

/-- The step's stores: the first code and the beginning, where the length is new; how many; the symbol's code. -/
theorem Tb'.start {b : Nat} {W : World} (h : Fresh0 b W) (hr : ∀ k, k < 257 → W.cell? ⟨b, 261 + k, none⟩ = some (.int .i64 (o k : Nat))) : Tb' b 0 0 W :=
  ⟨h.f, h.made, fun j hj => by omega, fun x hx => ⟨_, h.code x hx⟩, hr, fun n hn => by rw [h.fst n hn]; unfold fs; rw [if_neg (by omega)]; rfl, fun n hn => by rw [h.cnt n hn]; unfold cn; rw [show min (0 - S n) (K n) = 0 by omega]; rfl, fun n hn => by rw [h.beg n hn]; unfold bg; rw [if_neg (by omega)]; rfl⟩

theorem G_set {W : World} {b p : Nat} (q : Nat) {v u : Value} (h : W.cell? ⟨b, p, none⟩ = some u) : (W.setCell ⟨b, p, none⟩ v).cell? ⟨b, q, none⟩ = if q = p then some v else W.cell? ⟨b, q, none⟩ := by
  by_cases hq : q = p
  · subst hq; rw [if_pos rfl]; exact World.cell?_setCell_same _ _ _ h
  · rw [if_neg hq]; exact World.cell?_setCell_other _ _ _ _ (by intro e; simp only [Addr.mk.injEq] at e; omega)
/-- Where the length was met before: its count and the symbol's code. -/
theorem Tb'.old {b i x n y k : Nat} {W : World} (h : Tb' b i 0 W) (hi : i < 257) (hx : x = o i) (hn : n = L x) (hy : y = C x) (hk : k = cn i n) (hk0 : k ≠ 0) :
    Tb' b (i + 1) 0 (((W.setCell ⟨b, 549 + n, none⟩ (.int .i64 ((k : Nat) + 1 : Int))).drew.setCell ⟨b, 4 + x, none⟩ (.int .u32 (y : Nat)))) := by
  have hxb : x < 257 := by rw [hx]; exact o_bd i hi
  have hnb : n < 31 := by have := L_bd x hxb; omega
  have hh := cn_here i hi
  rw [← hx, ← hn, ← hk, ← hy] at hh
  obtain ⟨v4, h4⟩ := h.code' x hxb
  have A : ∀ q, (((W.setCell ⟨b, 549 + n, none⟩ (.int .i64 ((k : Nat) + 1 : Int))).drew.setCell ⟨b, 4 + x, none⟩ (.int .u32 (y : Nat)))).cell? ⟨b, q, none⟩ = if q = 4 + x then some (.int .u32 (y : Nat)) else if q = 549 + n then some (.int .i64 ((k : Nat) + 1 : Int)) else W.cell? ⟨b, q, none⟩ := fun q => by
    have e1 : (W.setCell ⟨b, 549 + n, none⟩ (.int .i64 ((k : Nat) + 1 : Int))).drew.cell? ⟨b, 4 + x, none⟩ = some v4 := by
      show (W.setCell _ _).cell? _ = _
      rw [G_set (4 + x) (h.cnt n hnb), if_neg (by omega)]; exact h4
    rw [G_set q e1]
    congr 1
    show (W.setCell _ _).cell? _ = _
    rw [G_set q (h.cnt n hnb)]
  refine ⟨fun q hq => by rw [World.frozen?_setCell]; show (W.setCell _ _).frozen? _ = _; rw [World.frozen?_setCell]; exact h.f q hq, by rw [A, if_neg (by omega), if_neg (by omega)]; exact h.made, fun j hj => ?_, fun z hz => ?_, fun q hq => ?_, fun m hm => ?_, fun m hm => ?_, fun m hm => ?_⟩
  · rw [A]
    by_cases hj' : j = i
    · subst hj'; rw [← hx, if_pos rfl, hy]
    · by_cases hq : 4 + o j = 4 + x
      · rw [if_pos hq, hy, show x = o j by omega]
      · have hoj := o_bd j (by omega)
        rw [if_neg hq, if_neg (by omega)]; exact h.code j (by omega)
  · rw [A]
    by_cases hq : 4 + z = 4 + x
    · rw [if_pos hq]; exact ⟨_, rfl⟩
    · rw [if_neg hq, if_neg (by omega)]; exact h.code' z hz
  · rw [A, if_neg (by omega), if_neg (by omega)]; exact h.order q hq
  · rw [A, if_neg (by omega), if_neg (by omega), h.fst m hm]
    by_cases hmn : m = n
    · rw [hmn, (hh.2.2.1 hk0).1]
    · rw [(cn_same i m hi hm (by rw [← hx, ← hn]; exact hmn)).2.1]
  · rw [A, if_neg (by omega)]
    by_cases hmn : m = n
    · rw [if_pos (by omega), hmn, hh.1]; rfl
    · rw [if_neg (by omega), h.cnt m hm, (cn_same i m hi hm (by rw [← hx, ← hn]; exact hmn)).1]
  · rw [A, if_neg (by omega), if_neg (by omega), h.beg m hm]
    by_cases hmn : m = n
    · rw [hmn, (hh.2.2.1 hk0).2]
    · rw [(cn_same i m hi hm (by rw [← hx, ← hn]; exact hmn)).2.2]
/-- Where the length is new: its first code and its beginning besides. -/
theorem Tb'.new {b i x n y k : Nat} {W : World} (h : Tb' b i 0 W) (hi : i < 257) (hx : x = o i) (hn : n = L x) (hy : y = C x) (hk : k = cn i n) (hk0 : k = 0) :
    Tb' b (i + 1) 0 ((((((W.setCell ⟨b, 518 + n, none⟩ (.int .u32 (y : Nat))).setCell ⟨b, 580 + n, none⟩ (.int .i64 (i : Nat))).drew).setCell ⟨b, 549 + n, none⟩ (.int .i64 ((k : Nat) + 1 : Int))).drew.setCell ⟨b, 4 + x, none⟩ (.int .u32 (y : Nat)))) := by
  have hxb : x < 257 := by rw [hx]; exact o_bd i hi
  have hnb : n < 31 := by have := L_bd x hxb; omega
  have hh := cn_here i hi
  rw [← hx, ← hn, ← hk, ← hy] at hh
  have hS := hh.2.1 hk0
  obtain ⟨v4, h4⟩ := h.code' x hxb
  have A : ∀ q, (((((W.setCell ⟨b, 518 + n, none⟩ (.int .u32 (y : Nat))).setCell ⟨b, 580 + n, none⟩ (.int .i64 (i : Nat))).drew).setCell ⟨b, 549 + n, none⟩ (.int .i64 ((k : Nat) + 1 : Int))).drew.setCell ⟨b, 4 + x, none⟩ (.int .u32 (y : Nat))).cell? ⟨b, q, none⟩ =
      if q = 4 + x then some (.int .u32 (y : Nat)) else if q = 549 + n then some (.int .i64 ((k : Nat) + 1 : Int)) else if q = 580 + n then some (.int .i64 (i : Nat)) else if q = 518 + n then some (.int .u32 (y : Nat)) else W.cell? ⟨b, q, none⟩ := fun q => by
    have a1 : ∀ q, (W.setCell ⟨b, 518 + n, none⟩ (.int .u32 (y : Nat))).cell? ⟨b, q, none⟩ = if q = 518 + n then some (.int .u32 (y : Nat)) else W.cell? ⟨b, q, none⟩ := fun q => G_set q (h.fst n hnb)
    have a2 : ∀ q, ((W.setCell ⟨b, 518 + n, none⟩ (.int .u32 (y : Nat))).setCell ⟨b, 580 + n, none⟩ (.int .i64 (i : Nat))).cell? ⟨b, q, none⟩ = if q = 580 + n then some (.int .i64 (i : Nat)) else if q = 518 + n then some (.int .u32 (y : Nat)) else W.cell? ⟨b, q, none⟩ := fun q => by
      rw [G_set q (by rw [a1, if_neg (by omega)]; exact h.beg n hnb), a1]
    have a3 : ∀ q, (((W.setCell ⟨b, 518 + n, none⟩ (.int .u32 (y : Nat))).setCell ⟨b, 580 + n, none⟩ (.int .i64 (i : Nat))).drew.setCell ⟨b, 549 + n, none⟩ (.int .i64 ((k : Nat) + 1 : Int))).cell? ⟨b, q, none⟩ = if q = 549 + n then some (.int .i64 ((k : Nat) + 1 : Int)) else if q = 580 + n then some (.int .i64 (i : Nat)) else if q = 518 + n then some (.int .u32 (y : Nat)) else W.cell? ⟨b, q, none⟩ := fun q => by
      rw [G_set q (show (((W.setCell _ _).setCell _ _).drew).cell? _ = some _ from by rw [World.cell?_drew, a2, if_neg (by omega), if_neg (by omega)]; exact h.cnt n hnb), World.cell?_drew, a2]
    rw [G_set q (show (World.drew _).cell? _ = some v4 from by rw [World.cell?_drew, a3, if_neg (by omega), if_neg (by omega), if_neg (by omega)]; exact h4), World.cell?_drew, a3]
  refine ⟨fun q hq => by rw [World.frozen?_setCell, World.frozen?_drew, World.frozen?_setCell, World.frozen?_drew, World.frozen?_setCell, World.frozen?_setCell]; exact h.f q hq, by rw [A, if_neg (by omega), if_neg (by omega), if_neg (by omega), if_neg (by omega)]; exact h.made, fun j hj => ?_, fun z hz => ?_, fun q hq => ?_, fun m hm => ?_, fun m hm => ?_, fun m hm => ?_⟩
  · rw [A]
    by_cases hj' : j = i
    · subst hj'; rw [← hx, if_pos rfl, hy]
    · by_cases hq : 4 + o j = 4 + x
      · rw [if_pos hq, hy, show x = o j by omega]
      · have hoj := o_bd j (by omega)
        rw [if_neg hq, if_neg (by omega), if_neg (by omega), if_neg (by omega)]; exact h.code j (by omega)
  · rw [A]
    by_cases hq : 4 + z = 4 + x
    · rw [if_pos hq]; exact ⟨_, rfl⟩
    · rw [if_neg hq, if_neg (by omega), if_neg (by omega), if_neg (by omega)]; exact h.code' z hz
  · rw [A, if_neg (by omega), if_neg (by omega), if_neg (by omega), if_neg (by omega)]; exact h.order q hq
  · rw [A, if_neg (by omega), if_neg (by omega), if_neg (by omega)]
    by_cases hmn : m = n
    · rw [if_pos (by omega), hmn, (hh.2.2.2 hS).1]
    · rw [if_neg (by omega), h.fst m hm, (cn_same i m hi hm (by rw [← hx, ← hn]; exact hmn)).2.1]
  · rw [A, if_neg (by omega)]
    by_cases hmn : m = n
    · rw [if_pos (by omega), hmn, hh.1]; rfl
    · rw [if_neg (by omega), if_neg (by omega), if_neg (by omega), h.cnt m hm, (cn_same i m hi hm (by rw [← hx, ← hn]; exact hmn)).1]
  · rw [A, if_neg (by omega), if_neg (by omega)]
    by_cases hmn : m = n
    · rw [if_pos (by omega), hmn, (hh.2.2.2 hS).2]
    · rw [if_neg (by omega), if_neg (by omega), h.beg m hm, (cn_same i m hi hm (by rw [← hx, ← hn]; exact hmn)).2.2]

theorem run_index_row (cs : Array Value) (v : Int) (i : Nat) (_hs : cs.size = 257) (hi : i < 257) (hv : cs[i]? = some (.int .i64 v)) (w : World) :
    (Instr.index 80 (.agg cs) (.int .i64 (i : Int))).run Try.prog w = .ok (.int .i64 v) w := by
  have hn : (0 : Int) ≤ (i : Int) ∧ (i : Int) < (257 : Nat) := by omega
  have hz : (Go.sizeOf 3).run Try.prog w = .ok 1 w := by go_simp
  simp [Instr.index, run_underlying Try.underlying80, asIntOf, hn, go_sem, hi, hz]
  simp [hv, go_sem]

/-- The sorted row as one value. -/
def rowL : List Value := (List.range 257).map (fun i => Value.int .i64 (o i : Nat))
theorem rowL_at (i : Nat) (hi : i < 257) : rowL[i]? = some (.int .i64 (o i : Nat)) := by
  unfold rowL
  rw [List.getElem?_map, List.getElem?_range hi]; rfl
theorem rowL_len : rowL.length = 257 := by unfold rowL; simp

/-- The world behind the closure: the codes are made. -/
structure Done (b : Nat) (w W : World) : Prop where
  tb : Tb' b 257 1 W
  ch : Ch b 3 611 w W

set_option maxHeartbeats 8000000 in
set_option maxRecDepth 100000 in
theorem make_calls (b pb : Nat) (hpb : pb ≠ b) (w : World) (H : Fresh b w) (hp : w.cell? ⟨pb, 0, none⟩ = some (.pointer (some ⟨b, 0, none⟩))) :
    Calls Try.prog 53 #[.pointer (some ⟨pb, 0, none⟩)] w fun e w' => e = .returned (.tuple #[]) ∧ Done b w w' := by
  have hu80 := Try.underlying80
  have hu79 := Try.underlying79
  have hu81 := Try.underlying81
  have hu82 := Try.underlying82
  have hu84 := Try.underlying84
  have HF := Aside0.mk H
  have HP0 := Aside0.mk hp
  clear H
  go_enter Try.func53, Try.ntmps53
  go_wp2
  go_loopg [7] 257 (fun g1 vi wr => ∃ (i : Nat), vi = .int .i64 i ∧ i ≤ 257 ∧ 257 - i ≤ g1 ∧ Aside0 (Ch b 261 518 w wr) ∧ Aside0 (∀ k, k < i → wr.cell? ⟨b, 261 + k, none⟩ = some (.int .i64 (k : Nat))) ∧ Aside0 (∀ k, i ≤ k → k < 257 → wr.cell? ⟨b, 261 + k, none⟩ = some (.int .i64 0)) ∧ wr.cell? ⟨pb, 0, none⟩ = some (.pointer (some ⟨b, 0, none⟩)))
  case atStart => exact ⟨0, rfl, by omega, by omega, ⟨Ch.refl _ _ _ _⟩, ⟨fun k hk => by omega⟩, ⟨fun k _ hk => HF.out.order k hk⟩, hp⟩
  case round =>
    clear hp
    obtain ⟨i, rfl, hi, hg, HC, HO, HZ, hp⟩ := hrel
    by_cases hlt : i < 257
    · have hlz : (i : Int) < 257 := by omega
      have hf : wr.frozen? ⟨b, 261 + i, none⟩ = false := (HC.out.frozen _).trans (HF.out.f _ (by omega))
      have hc := HZ.out i (Nat.le_refl _) hlt
      go_wp2
      go_roundg (257 - (i + 1))
      case measure => omega
      case rel => exact ⟨i + 1, by first | rfl | go_num, by omega, by omega, ⟨HC.out.set (261 + i) (by omega) _⟩, ⟨fun k hk => by
          by_cases hki : k = i
          · subst hki; exact World.cell?_setCell_same _ _ _ hc
          · exact (World.cell?_setCell_other _ _ _ _ (by intro e; simp only [Addr.mk.injEq] at e; omega)).trans (HO.out k (by omega))⟩, ⟨fun k hk1 hk2 => (World.cell?_setCell_other _ _ _ _ (by intro e; simp only [Addr.mk.injEq] at e; omega)).trans (HZ.out k (by omega) hk2)⟩, (World.cell?_setCell_other _ _ _ _ (by intro e; simp only [Addr.mk.injEq] at e; omega)).trans hp⟩
    · have hlz : ¬ (i : Int) < 257 := by omega
      have HRW : Aside0 (RW wr b 261 row0 wr) := ⟨⟨fun k hk => by rw [row0_at k hk]; exact hk, fun k hk => by rw [HO.out k (by omega), row0_at k hk], fun k hk => (HC.out.frozen _).trans (HF.out.f _ (by omega)), Ch.refl _ _ _ _⟩⟩
      have HS := Aside0.mk (sortStable_calls wr b 261 row0 wr HRW.out)
      clear HRW HO HZ
      have hn0 : o 0 < 257 := o_bd 0 (by decide)
      have hx0 : ∃ x0, x0 = o 0 := ⟨_, rfl⟩
      obtain ⟨x0, hx0⟩ := hx0
      have HX0 := Aside0.mk hx0
      rw [← hx0] at hn0
      clear hx0
      go_wp2_with (first | (go_at_call 54; refine HS.out.mono ?_; rintro e w1 ⟨rfl, hw⟩; rw [sorted] at hw; have HR1 := Aside0.mk hw; clear hw HS; have hp1 : w1.cell? ⟨pb, 0, none⟩ = some (.pointer (some ⟨b, 0, none⟩)) := (World.cell?_of_block (HR1.out.ch.other pb hpb)).trans hp; have hc0 : w1.cell? ⟨b, 261, none⟩ = some (.int .i64 (x0 : Nat)) := (by rw [HX0.out]; exact HR1.out.c 0 (by decide)); have hld : (Instr.loadAt 80 (.pointer (some ⟨b, 261, none⟩))).run Try.prog w1 = .ok (.agg rowL.toArray) w1 := run_loadAt_mid w1 b 261 80 rowL _ (fun j v hv => by
          have hj : j < 257 := by have := (List.getElem?_eq_some_iff.1 hv).1; rw [rowL_len] at this; exact this
          rw [rowL_at j hj] at hv; cases hv; exact HR1.out.c j hj) Try.underlying80 rfl (by rw [rowL_len]; kernel_rfl)) | (go_at_call 43; refine (long_calls x0 hn0 _).mono ?_; rintro e w' ⟨rfl, rfl⟩))
      have HT : Aside0 (Tb' b 0 0 w') := ⟨Tb'.start ⟨fun k hk => (HR1.out.ch.frozen k).trans ((HC.out.frozen k).trans (HF.out.f k hk)), (HR1.out.ch.cell 3 (by omega)).trans ((HC.out.cell 3 (by omega)).trans HF.out.made),
        fun k hk => (HR1.out.ch.cell (4 + k) (by omega)).trans ((HC.out.cell (4 + k) (by omega)).trans (HF.out.code k hk)),
        fun k hk => (HR1.out.ch.cell (518 + k) (by omega)).trans ((HC.out.cell (518 + k) (by omega)).trans (HF.out.fst k hk)),
        fun k hk => (HR1.out.ch.cell (549 + k) (by omega)).trans ((HC.out.cell (549 + k) (by omega)).trans (HF.out.cnt k hk)),
        fun k hk => (HR1.out.ch.cell (580 + k) (by omega)).trans ((HC.out.cell (580 + k) (by omega)).trans (HF.out.beg k hk))⟩ (fun k hk => HR1.out.c k hk)⟩
      have HCH : Aside0 (Ch b 3 611 w w') := ⟨(HC.out.mono (by decide) (by decide)).trans (HR1.out.ch.mono (by decide) (by decide))⟩
      refine wp_load_mid 80 (.tmp 30) rfl b 261 rfl rowL _ (fun j v hv => by
          have hj : j < 257 := by have := (List.getElem?_eq_some_iff.1 hv).1; rw [rowL_len] at this; exact this
          rw [rowL_at j hj] at hv; cases hv; exact HR1.out.c j hj) Try.underlying80 rfl (by rw [rowL_len]; kernel_rfl) ?_
      clear HR1 HC hld hc0
      obtain ⟨RV, hRV⟩ : ∃ RV, RV = rowL.toArray := ⟨_, rfl⟩
      have hix : Aside0 (∀ (i : Nat), i < 257 → ∀ W, (Instr.index 80 (.agg RV) (.int .i64 (i : Int))).run Try.prog W = .ok (.int .i64 (o i : Nat)) W) := ⟨fun i hi W => by
        rw [hRV]; exact run_index_row _ _ i (by simp [rowL_len]) hi (by simpa using rowL_at i hi) W⟩
      rw [← hRV]
      clear hRV
      go_wp2
      go_loopg [2, 3, 32] 257 (fun g1 v2 v3 vi wr => ∃ (i c l : Nat), v2 = .int .u32 c ∧ v3 = .int .i64 l ∧ vi = .int .i64 i ∧ i ≤ 257 ∧ 257 - i ≤ g1 ∧ Aside0 ((i = 0 → c = 0 ∧ l = L (o 0)) ∧ (0 < i → c = C (o (i - 1)) + 1 ∧ l = L (o (i - 1)))) ∧ Aside0 (Tb' b i 0 wr) ∧ Aside0 (Ch b 3 611 w wr) ∧ wr.cell? ⟨pb, 0, none⟩ = some (.pointer (some ⟨b, 0, none⟩)))
      case atStart => exact ⟨0, 0, L x0, rfl, rfl, rfl, by omega, by omega, ⟨fun _ => ⟨rfl, by rw [HX0.out]⟩, fun h => by omega⟩, HT, HCH, hp1⟩
      case round =>
        clear HT HCH hp1 HF HP0 hp
        obtain ⟨i, c, l, rfl, rfl, rfl, hi, hg, HCL, HT, HCH, hp⟩ := hrel
        by_cases hlt : i < 257
        · have hlz : (i : Int) < 257 := by omega
          have hb := o_bd i hlt
          obtain ⟨x, hx⟩ : ∃ x, x = o i := ⟨_, rfl⟩
          have hix1 : ∀ W, (Instr.index 80 (.agg RV) (.int .i64 (i : Int))).run Try.prog W = .ok (.int .i64 (x : Nat)) W := fun W => by rw [hx]; exact hix.out i hlt W
          have hC := C_bd (o i) hb
          have hLb := L_bd (o i) hb
          rw [← hx] at hb hC hLb
          have hsh : c * 2 ^ (L x - l) = C x ∧ l ≤ L x ∧ 5 ≤ l ∧ c < 1073741825 := by
            rcases Nat.eq_zero_or_pos i with h0 | h0
            · obtain ⟨rfl, rfl⟩ := HCL.out.1 h0
              subst h0
              rw [hx, start0.1]
              have := start0.2
              omega
            · obtain ⟨rfl, rfl⟩ := HCL.out.2 h0
              have st := Gi.step (i - 1) (by omega)
              rw [show i - 1 + 1 = i by omega] at st
              have hC1 := C_bd (o (i - 1)) (o_bd _ (by omega))
              have hL1 := L_bd (o (i - 1)) (o_bd _ (by omega))
              rw [hx]
              exact ⟨st.2.symm, st.1, hL1.1, by omega⟩
          obtain ⟨hsh, hl1, hl2, hc1⟩ := hsh
          have HX := Aside0.mk hx
          have hlong := Aside0.mk (fun W => long_calls x hb W)
          obtain ⟨n, hn⟩ : ∃ n, n = L x := ⟨_, rfl⟩
          rw [← hn] at hsh hl1 hLb hlong
          have HN := Aside0.mk hn
          have hyz : ((c : Int) * 2 ^ (n - l)) % 4294967296 = ((C x : Nat) : Int) := by
            have h1 : ((c * 2 ^ (n - l) : Nat) : Int) = (C x : Nat) := by rw [hsh]
            rw [Int.natCast_mul, Int.natCast_pow] at h1
            rw [show (c : Int) * 2 ^ (n - l) = ((C x : Nat) : Int) from h1]
            omega
          obtain ⟨y, hy⟩ : ∃ y, y = C x := ⟨_, rfl⟩
          rw [← hy] at hyz hC
          have HY := Aside0.mk hy
          have hn31 : n < 31 := by omega
          obtain ⟨k, hk⟩ : ∃ k, k = cn i n := ⟨_, rfl⟩
          have hk257 : k ≤ 257 := by rw [hk]; unfold cn; have := S_bd n hn31; omega
          have c549 : wr.cell? ⟨b, 549 + n, none⟩ = some (.int .i64 (k : Nat)) := by rw [hk]; exact HT.out.cnt n hn31
          have HK := Aside0.mk hk
          clear hx hn hsh hy hk
          have hch := cn_here i hlt
          rw [← HX.out, ← HN.out] at hch
          have HCH2 := Aside0.mk hch
          clear hch
          have hn31z : (n : Int) < 31 := by omega
          by_cases hk0 : k = 0
          · have e1 : (((k : Nat) : Int) == 0) = true := beq_iff_eq.mpr (by omega)
            have c518 := HT.out.fst n hn31
            have f518 := HT.out.f (518 + n) (by omega)
            have f580 := HT.out.f (580 + n) (by omega)
            have c580 : (wr.setCell ⟨b, 518 + n, none⟩ (.int .u32 (y : Nat))).cell? ⟨b, 580 + n, none⟩ = some (.int .i64 (bg i n : Nat)) := (World.cell?_setCell_other _ _ _ _ (by intro e; simp only [Addr.mk.injEq] at e; omega)).trans (HT.out.beg n hn31)
            have c580' := HT.out.beg n hn31
            have hpp : ∀ v, (wr.setCell ⟨b, 518 + n, none⟩ v).cell? ⟨pb, 0, none⟩ = some (.pointer (some ⟨b, 0, none⟩)) := fun v => (World.cell?_setCell_other _ _ _ _ (by intro e; simp only [Addr.mk.injEq] at e; omega)).trans hp
            have HK0 := Aside0.mk hk0
            clear hk0
            go_upto_region 14 with (go_at_call 43; refine (hlong.out _).mono ?_; rintro e w9 ⟨rfl, hw9⟩; obtain rfl : wr = w9 := hw9.symm)
            rw [hyz]
            go_big_region
            obtain ⟨w2, hw2⟩ : ∃ w2, w2 = ((wr.setCell ⟨b, 518 + n, none⟩ (.int .u32 (y : Nat))).setCell ⟨b, 580 + n, none⟩ (.int .i64 (i : Nat))).drew := ⟨_, rfl⟩
            rw [← hw2]
            have HW2 := Aside0.mk hw2
            have hk0 := HK0.out
            clear hw2 c518 f518 f580 c580 c580' hpp hk0
            have hp2 : w2.cell? ⟨pb, 0, none⟩ = some (.pointer (some ⟨b, 0, none⟩)) := by rw [HW2.out]; rw [World.cell?_drew, World.cell?_setCell_other _ _ _ _ (by intro e; simp only [Addr.mk.injEq] at e; omega), World.cell?_setCell_other _ _ _ _ (by intro e; simp only [Addr.mk.injEq] at e; omega)]; exact hp
            have c549b : w2.cell? ⟨b, 549 + n, none⟩ = some (.int .i64 (k : Nat)) := by rw [HW2.out]; rw [World.cell?_drew, World.cell?_setCell_other _ _ _ _ (by intro e; simp only [Addr.mk.injEq] at e; omega), World.cell?_setCell_other _ _ _ _ (by intro e; simp only [Addr.mk.injEq] at e; omega)]; exact c549
            have f549 : w2.frozen? ⟨b, 549 + n, none⟩ = false := by rw [HW2.out]; rw [World.frozen?_drew, World.frozen?_setCell, World.frozen?_setCell]; exact HT.out.f _ (by omega)
            go_upto_region 15 with fail
            go_big_region
            obtain ⟨w3, hw3⟩ : ∃ w3, w3 = (w2.setCell ⟨b, 549 + n, none⟩ (.int .i64 ((k : Nat) + 1 : Int))).drew := ⟨_, rfl⟩
            rw [← hw3]
            have hp3 : w3.cell? ⟨pb, 0, none⟩ = some (.pointer (some ⟨b, 0, none⟩)) := by rw [hw3, World.cell?_drew, World.cell?_setCell_other _ _ _ _ (by intro e; simp only [Addr.mk.injEq] at e; omega)]; exact hp2
            have c4 : ∃ v, w3.cell? ⟨b, 4 + x, none⟩ = some v := by
              rw [hw3, World.cell?_drew, World.cell?_setCell_other _ _ _ _ (by intro e; simp only [Addr.mk.injEq] at e; omega), HW2.out]; rw [World.cell?_drew, World.cell?_setCell_other _ _ _ _ (by intro e; simp only [Addr.mk.injEq] at e; omega), World.cell?_setCell_other _ _ _ _ (by intro e; simp only [Addr.mk.injEq] at e; omega)]; exact HT.out.code' x hb
            obtain ⟨v4, c4⟩ := c4
            have f4 : w3.frozen? ⟨b, 4 + x, none⟩ = false := by rw [hw3, World.frozen?_drew, World.frozen?_setCell, HW2.out]; rw [World.frozen?_drew, World.frozen?_setCell, World.frozen?_setCell]; exact HT.out.f _ (by omega)
            have HW3 := Aside0.mk hw3
            clear hw3 hp2 c549b f549
            go_wp2
            go_roundg (257 - (i + 1))
            case measure => omega
            case rel => exact ⟨i + 1, y + 1, n, by first | rfl | go_num | (congr 1; omega), rfl, by first | rfl | go_num, by omega, by omega, ⟨fun h => by omega, fun _ => ⟨by rw [HY.out, HX.out]; rfl, by rw [HN.out, HX.out]; rfl⟩⟩, ⟨by rw [HW3.out, HW2.out]; exact HT.out.new hlt HX.out HN.out HY.out HK.out HK0.out⟩, ⟨by rw [HW3.out, HW2.out]; exact ((((HCH.out.set (518 + n) (by omega) _).set (580 + n) (by omega) _).drew.set (549 + n) (by omega) _).drew.set (4 + x) (by omega) _)⟩, (World.cell?_setCell_other _ _ _ _ (by intro e; simp only [Addr.mk.injEq] at e; omega)).trans hp3⟩
          · have e1 : (((k : Nat) : Int) == 0) = false := beq_eq_false_iff_ne.mpr (by omega)
            obtain ⟨w2, hw2⟩ : ∃ w2, w2 = wr := ⟨_, rfl⟩
            have HW2 := Aside0.mk hw2
            rw [← hw2]
            clear hw2
            have hp2 : w2.cell? ⟨pb, 0, none⟩ = some (.pointer (some ⟨b, 0, none⟩)) := by rw [HW2.out]; exact hp
            have c549b : w2.cell? ⟨b, 549 + n, none⟩ = some (.int .i64 (k : Nat)) := by rw [HW2.out]; exact c549
            have f549 : w2.frozen? ⟨b, 549 + n, none⟩ = false := by rw [HW2.out]; exact HT.out.f _ (by omega)
            go_upto_region 15 with (go_at_call 43; refine (hlong.out _).mono ?_; rintro e w9 ⟨rfl, hw9⟩; obtain rfl : w2 = w9 := hw9.symm)
            rw [hyz]
            go_big_region
            obtain ⟨w3, hw3⟩ : ∃ w3, w3 = (w2.setCell ⟨b, 549 + n, none⟩ (.int .i64 ((k : Nat) + 1 : Int))).drew := ⟨_, rfl⟩
            rw [← hw3]
            have hp3 : w3.cell? ⟨pb, 0, none⟩ = some (.pointer (some ⟨b, 0, none⟩)) := by rw [hw3, World.cell?_drew, World.cell?_setCell_other _ _ _ _ (by intro e; simp only [Addr.mk.injEq] at e; omega)]; exact hp2
            have c4 : ∃ v, w3.cell? ⟨b, 4 + x, none⟩ = some v := by
              rw [hw3, World.cell?_drew, World.cell?_setCell_other _ _ _ _ (by intro e; simp only [Addr.mk.injEq] at e; omega), HW2.out]; exact HT.out.code' x hb
            obtain ⟨v4, c4⟩ := c4
            have f4 : w3.frozen? ⟨b, 4 + x, none⟩ = false := by rw [hw3, World.frozen?_drew, World.frozen?_setCell, HW2.out]; exact HT.out.f _ (by omega)
            have HW3 := Aside0.mk hw3
            clear hw3 hp2 c549b f549
            go_wp2
            go_roundg (257 - (i + 1))
            case measure => omega
            case rel => exact ⟨i + 1, y + 1, n, by first | rfl | go_num | (congr 1; omega), rfl, by first | rfl | go_num, by omega, by omega, ⟨fun h => by omega, fun _ => ⟨by rw [HY.out, HX.out]; rfl, by rw [HN.out, HX.out]; rfl⟩⟩, ⟨by rw [HW3.out, HW2.out]; exact HT.out.old hlt HX.out HN.out HY.out HK.out hk0⟩, ⟨by rw [HW3.out, HW2.out]; exact ((HCH.out.set (549 + n) (by omega) _).drew.set (4 + x) (by omega) _)⟩, (World.cell?_setCell_other _ _ _ _ (by intro e; simp only [Addr.mk.injEq] at e; omega)).trans hp3⟩
        · have hlz : ¬ (i : Int) < 257 := by omega
          obtain rfl : i = 257 := by omega
          have HA := Aside0.mk (fun W h1 h2 => add_calls ⟨b, 3, none⟩ 0 (by omega) W h1 h2)
          have hm := HT.out.made
          have hf := HT.out.f 3 (by omega)
          go_wp2_with (go_at_call 57; refine (HA.out _ hm hf).mono ?_; rintro e w' ⟨rfl, rfl⟩)
          go_end0
          refine ⟨rfl, ⟨?_, HCH.out.set 3 (by omega) _⟩⟩
          have A : ∀ q, q ≠ 3 → (wr.setCell ⟨b, 3, none⟩ (.int .i64 1)).cell? ⟨b, q, none⟩ = wr.cell? ⟨b, q, none⟩ := fun q hq => World.cell?_setCell_other _ _ _ _ (by intro e; simp only [Addr.mk.injEq] at e; omega)
          exact ⟨fun q hq => by rw [World.frozen?_setCell]; exact HT.out.f q hq, World.cell?_setCell_same _ _ _ hm, fun j hj => (A _ (by omega)).trans (HT.out.code j hj), fun x hx => by rw [A _ (by omega)]; exact HT.out.code' x hx, fun q hq => (A _ (by omega)).trans (HT.out.order q hq), fun q hq => (A _ (by omega)).trans (HT.out.fst q hq), fun q hq => (A _ (by omega)).trans (HT.out.cnt q hq), fun q hq => (A _ (by omega)).trans (HT.out.beg q hq)⟩
end Go.Proofs.Ythfildmldppihaa.Gj

/- The coder's codes, got: made the first time, and not again. -/
namespace Go.Proofs.Ythfildmldppihaa.Gk
open Go.RowKit Go.Proofs.Ythfildmldppihaa.Ga Go.Proofs.Ythfildmldppihaa.Gb Go.Proofs.Ythfildmldppihaa.Gg Go.Proofs.Ythfildmldppihaa.Gh Go.Proofs.Ythfildmldppihaa.Gi Go.Proofs.Ythfildmldppihaa.Gj Go.Proofs.YthfildmldppihaaW.PrintWords Go.Proofs.YthfildmldppihaaW.PrintLast Go.Proofs.YthfildmldppihaaW.PrintMore

/-- A coder with no codes yet. -/
structure New (b : Nat) (W : World) : Prop where
  lt : b < W.heap.size
  c0 : W.cell? ⟨b, 0, none⟩ = some (.int .u32 0)
  c1 : W.cell? ⟨b, 1, none⟩ = some (.int .i32 0)
  fr : Fresh b W
/-- A coder with its codes. -/
structure Md (b : Nat) (W : World) : Prop where
  lt : b < W.heap.size
  c0 : W.cell? ⟨b, 0, none⟩ = some (.int .u32 1)
  tb : Tb' b 257 1 W
/-- No old block but b has turned. -/
structure Else (b : Nat) (w W : World) : Prop where
  os : W.os = w.os
  tape : W.tape = w.tape
  output : W.output = w.output
  size : w.heap.size ≤ W.heap.size
  block : ∀ k, k < w.heap.size → k ≠ b → W.heap[k]? = w.heap[k]?

theorem fresh_keep {b : Nat} {W W' : World} (h : Fresh b W) (hb : W'.heap[b]? = W.heap[b]?) : Fresh b W' :=
  ⟨fun k hk => (World.frozen?_of_block hb).trans (h.f k hk), (World.cell?_of_block hb).trans h.made, fun k hk => (World.cell?_of_block hb).trans (h.code k hk), fun k hk => (World.cell?_of_block hb).trans (h.order k hk),
   fun k hk => (World.cell?_of_block hb).trans (h.fst k hk), fun k hk => (World.cell?_of_block hb).trans (h.cnt k hk), fun k hk => (World.cell?_of_block hb).trans (h.beg k hk)⟩
theorem tb_keep {b i m : Nat} {W W' : World} (h : Tb' b i m W) (hc : ∀ q, 3 ≤ q → W'.cell? ⟨b, q, none⟩ = W.cell? ⟨b, q, none⟩) (hf : ∀ q, W'.frozen? ⟨b, q, none⟩ = W.frozen? ⟨b, q, none⟩) : Tb' b i m W' :=
  ⟨fun k hk => (hf k).trans (h.f k hk), (hc 3 (by decide)).trans h.made, fun k hk => (hc _ (by omega)).trans (h.code k hk), fun x hx => by rw [hc _ (by omega)]; exact h.code' x hx, fun k hk => (hc _ (by omega)).trans (h.order k hk),
   fun k hk => (hc _ (by omega)).trans (h.fst k hk), fun k hk => (hc _ (by omega)).trans (h.cnt k hk), fun k hk => (hc _ (by omega)).trans (h.beg k hk)⟩
theorem Md.keep {b : Nat} {W W' : World} (h : Md b W) (hb : Below W.heap.size W W') : Md b W' :=
  ⟨Nat.lt_of_lt_of_le h.lt hb.size, (World.cell?_of_block (hb.block b h.lt)).trans h.c0, tb_keep h.tb (fun _ _ => World.cell?_of_block (hb.block b h.lt)) (fun _ => World.frozen?_of_block (hb.block b h.lt))⟩

set_option maxRecDepth 100000 in
set_option maxHeartbeats 2000000 in
theorem get_again (b : Nat) (w : World) (H : Md b w) : Calls Try.prog 45 #[.pointer (some ⟨b, 0, none⟩)] w fun e w' => e = .returned (.pointer (some ⟨b, 0, none⟩)) ∧ Below w.heap.size w w' := by
  have hmf : ∀ (fn : Fn) (first cap : Array Value) (w : World), (Instr.makeFunc fn first cap).run Try.prog w = .ok (.func fn first cap) w := fun _ _ _ _ => rfl
  have hlt := H.lt
  have a0 : (w.alloc (.cells #[.pointer (some ⟨b, 0, none⟩)] 47)).cell? ⟨b, 0, none⟩ = some (.int .u32 1) := by rw [World.cell?_alloc_past _ _ _ hlt]; exact H.c0
  have hu84 := Try.underlying84
  clear H
  go_enter Try.func45, Try.ntmps45
  go_wp2_with (go_at_call 52; refine (do_done b _ _ a0).mono ?_; rintro e w' ⟨rfl, rfl⟩)
  go_ret
  exact ⟨rfl, (Below.refl _ w).alloc (Nat.le_refl _) _⟩

set_option maxRecDepth 100000 in
set_option maxHeartbeats 2000000 in
theorem get_first (b : Nat) (w : World) (H : New b w) : Calls Try.prog 45 #[.pointer (some ⟨b, 0, none⟩)] w fun e w' => e = .returned (.pointer (some ⟨b, 0, none⟩)) ∧ Md b w' ∧ Else b w w' := by
  have hmf : ∀ (fn : Fn) (first cap : Array Value) (w : World), (Instr.makeFunc fn first cap).run Try.prog w = .ok (.func fn first cap) w := fun _ _ _ _ => rfl
  have hlt := H.lt
  have hu84 := Try.underlying84
  obtain ⟨wa, hwa⟩ : ∃ wa, wa = w.alloc (.cells #[.pointer (some ⟨b, 0, none⟩)] 47) := ⟨_, rfl⟩
  have hba : wa.heap[b]? = w.heap[b]? := by rw [hwa]; exact Below.heap_alloc _ _ _ hlt
  have hpa : wa.cell? ⟨w.heap.size, 0, none⟩ = some (.pointer (some ⟨b, 0, none⟩)) := by rw [hwa]; simp
  have hza : wa.heap.size = w.heap.size + 1 := by rw [hwa]; simp
  have a0 : wa.cell? ⟨b, 0, none⟩ = some (.int .u32 0) := (World.cell?_of_block hba).trans H.c0
  have a1 : wa.cell? ⟨b, 1, none⟩ = some (.int .i32 0) := (World.cell?_of_block hba).trans H.c1
  have F := fresh_keep H.fr hba
  have hb1 : Below w.heap.size w wa := by rw [hwa]; exact (Below.refl _ w).alloc (Nat.le_refl _) _
  obtain ⟨w1, hw1⟩ : ∃ w1, w1 = wa.setCell ⟨b, 1, none⟩ (.int .i32 1) := ⟨_, rfl⟩
  have hc1 : ∀ q, q ≠ 1 → w1.cell? ⟨b, q, none⟩ = wa.cell? ⟨b, q, none⟩ := fun q hq => by rw [hw1]; exact World.cell?_setCell_other _ _ _ _ (by intro e; simp only [Addr.mk.injEq] at e; omega)
  have F1 : Fresh b w1 := ⟨fun k hk => by rw [hw1, World.frozen?_setCell]; exact F.f k hk, (hc1 3 (by decide)).trans F.made, fun k hk => (hc1 _ (by omega)).trans (F.code k hk), fun k hk => (hc1 _ (by omega)).trans (F.order k hk),
    fun k hk => (hc1 _ (by omega)).trans (F.fst k hk), fun k hk => (hc1 _ (by omega)).trans (F.cnt k hk), fun k hk => (hc1 _ (by omega)).trans (F.beg k hk)⟩
  have hp1 : w1.cell? ⟨w.heap.size, 0, none⟩ = some (.pointer (some ⟨b, 0, none⟩)) := by rw [hw1]; exact (World.cell?_setCell_other _ _ _ _ (by intro e; simp only [Addr.mk.injEq] at e; omega)).trans hpa
  have hM := make_calls b w.heap.size (by omega) w1 F1 hp1
  rw [hw1] at hM
  have HD := Aside0.mk (do_first b ⟨w.heap.size, 0, none⟩ wa (Done b (wa.setCell ⟨b, 1, none⟩ (.int .i32 1))) a0 a1 (F.f 1 (by decide)) hM (fun w' hD => by
    have c0 : (wa.setCell ⟨b, 1, none⟩ (.int .i32 1)).cell? ⟨b, 0, none⟩ = some (.int .u32 0) := (World.cell?_setCell_other _ _ _ _ (by intro e; simp only [Addr.mk.injEq] at e; omega)).trans a0
    exact ⟨(hD.ch.cell 0 (by omega)).trans c0, hD.tb.f 0 (by decide), (hD.ch.cell 1 (by omega)).trans (World.cell?_setCell_same _ _ _ a1), hD.tb.f 1 (by decide)⟩))
  clear hM F F1 a0 a1
  rw [← hw1] at HD
  have HH : Aside0 (∀ w2, Done b w1 w2 → ∀ w3, w3 = (w2.drew.setCell ⟨b, 0, none⟩ (.int .u32 1)).setCell ⟨b, 1, none⟩ (.int .i32 0) → w3.cell? ⟨w.heap.size, 0, none⟩ = some (.pointer (some ⟨b, 0, none⟩)) ∧ Md b w3 ∧ Else b w w3) := ⟨fun w2 hD w3 h3 => by
    have hsz : w3.heap.size = w.heap.size + 1 := by rw [h3]; simp; rw [hD.ch.size, hw1]; simp [hza]
    have hoth : ∀ k, k ≠ b → w3.heap[k]? = wa.heap[k]? := fun k hk => by
      rw [h3, Below.heap_setCell _ _ _ _ hk, Below.heap_setCell _ _ _ _ hk]
      exact (hD.ch.other k hk).trans (by rw [hw1]; exact Below.heap_setCell _ _ _ _ hk)
    have e0 : w2.cell? ⟨b, 0, none⟩ = wa.cell? ⟨b, 0, none⟩ := (hD.ch.cell 0 (by omega)).trans (hc1 0 (by decide))
    obtain ⟨v0, hv0⟩ : ∃ v, w2.cell? ⟨b, 0, none⟩ = some v := ⟨_, e0.trans ((World.cell?_of_block hba).trans H.c0)⟩
    refine ⟨(World.cell?_of_block (hoth w.heap.size (by omega))).trans hpa, ⟨by rw [hsz]; omega, ?_, ?_⟩, ⟨?_, ?_, ?_, by rw [hsz]; omega, fun k hk hkb => (hoth k hkb).trans (hb1.block k hk)⟩⟩
    · rw [h3, World.cell?_setCell_other _ _ _ _ (by intro e; simp only [Addr.mk.injEq] at e; omega)]
      exact World.cell?_setCell_same _ _ _ (show w2.drew.cell? _ = _ from hv0)
    · refine tb_keep hD.tb (fun q hq => ?_) (fun q => ?_)
      · rw [h3, World.cell?_setCell_other _ _ _ _ (by intro e; simp only [Addr.mk.injEq] at e; omega), World.cell?_setCell_other _ _ _ _ (by intro e; simp only [Addr.mk.injEq] at e; omega)]; rfl
      · rw [h3, World.frozen?_setCell, World.frozen?_setCell]; rfl
    · rw [h3]; exact (hD.ch.os.trans (by rw [hw1]; exact hb1.os))
    · rw [h3]; exact (hD.ch.tape.trans (by rw [hw1]; exact hb1.tape))
    · rw [h3]; exact (hD.ch.output.trans (by rw [hw1]; exact hb1.output))⟩
  clear hc1 hp1 hpa hba hb1 hza H hw1
  rw [hwa] at HD
  clear hwa
  go_enter Try.func45, Try.ntmps45
  go_wp2_with (go_at_call 52; refine HD.out.mono ?_; rintro e w3 ⟨rfl, w2, hD, hw3⟩; obtain ⟨hp3, hmd, hel⟩ := HH.out w2 hD w3 hw3; have HM := Aside0.mk hmd; have HE := Aside0.mk hel; clear hw3 hD hmd hel)
  go_ret
  exact ⟨rfl, HM.out, HE.out⟩
end Go.Proofs.Ythfildmldppihaa.Gk

/- A new coder. -/
namespace Go.Proofs.Ythfildmldppihaa.Gl
open Go.RowKit Go.Proofs.Ythfildmldppihaa.Ga Go.Proofs.Ythfildmldppihaa.Gb Go.Proofs.Ythfildmldppihaa.Gg Go.Proofs.Ythfildmldppihaa.Gh Go.Proofs.Ythfildmldppihaa.Gi Go.Proofs.Ythfildmldppihaa.Gj Go.Proofs.Ythfildmldppihaa.Gk Go.Proofs.YthfildmldppihaaW.PrintWords Go.Proofs.YthfildmldppihaaW.PrintLast Go.Proofs.YthfildmldppihaaW.PrintMore
def is32 : Option Value → Bool
  | some (.int .u32 0) => true
  | _ => false
def is64 : Option Value → Bool
  | some (.int .i64 0) => true
  | _ => false
theorem is32_eq {v : Option Value} (h : is32 v = true) : v = some (.int .u32 0) := by
  unfold is32 at h; split at h
  · rfl
  · cases h
theorem is64_eq {v : Option Value} (h : is64 v = true) : v = some (.int .i64 0) := by
  unfold is64 at h; split at h
  · rfl
  · cases h
theorem z0 : Try.zeroCells84[0]? = some (.int .u32 0) := by kernel_rfl
theorem z1 : Try.zeroCells84[1]? = some (.int .i32 0) := by kernel_rfl
theorem z3 : Try.zeroCells84[3]? = some (.int .i64 0) := by kernel_rfl
theorem zc : ∀ k, k < 257 → is32 Try.zeroCells84[4 + k]? = true := by decide +kernel
theorem zo : ∀ k, k < 257 → is64 Try.zeroCells84[261 + k]? = true := by decide +kernel
theorem zf : ∀ k, k < 31 → is32 Try.zeroCells84[518 + k]? = true := by decide +kernel
theorem zn : ∀ k, k < 31 → is64 Try.zeroCells84[549 + k]? = true := by decide +kernel
theorem zb : ∀ k, k < 31 → is64 Try.zeroCells84[580 + k]? = true := by decide +kernel
set_option maxRecDepth 100000 in
set_option maxHeartbeats 2000000 in
theorem new_calls (w : World) : Calls Try.prog 28 #[] w fun e w' => e = .returned (.pointer (some ⟨w.heap.size, 0, none⟩)) ∧ w' = w.alloc (.cells Try.zeroCells84 84) := by
  go_enter Try.func28, Try.ntmps28
  go_wp2
  go_ret
  exact ⟨rfl, rfl⟩
theorem new_is (w : World) : New w.heap.size (w.alloc (.cells Try.zeroCells84 84)) := by
  have hb : (w.alloc (.cells Try.zeroCells84 84)).heap[w.heap.size]? = some (.cells Try.zeroCells84 84 (0, 0)) := heap_alloc_new w _
  exact ⟨by simp, (blk_cell hb 0).trans z0, (blk_cell hb 1).trans z1, ⟨fun k hk => blk_frozen hb k, (blk_cell hb 3).trans z3, fun k hk => (blk_cell hb _).trans (is32_eq (zc k hk)), fun k hk => (blk_cell hb _).trans (is64_eq (zo k hk)),
    fun k hk => (blk_cell hb _).trans (is32_eq (zf k hk)), fun k hk => (blk_cell hb _).trans (is64_eq (zn k hk)), fun k hk => (blk_cell hb _).trans (is64_eq (zb k hk))⟩⟩
end Go.Proofs.Ythfildmldppihaa.Gl

/- The symbol with a code of a length. -/
namespace Go.Proofs.Ythfildmldppihaa.Gm
open Go.RowKit Go.Proofs.Ythfildmldppihaa.Ga Go.Proofs.Ythfildmldppihaa.Gb Go.Proofs.Ythfildmldppihaa.Gg Go.Proofs.Ythfildmldppihaa.Gh Go.Proofs.Ythfildmldppihaa.Gi Go.Proofs.Ythfildmldppihaa.Gj Go.Proofs.Ythfildmldppihaa.Gk Go.Proofs.Ythfildmldppihaa.Gl Go.Proofs.YthfildmldppihaaW.PrintWords Go.Proofs.YthfildmldppihaaW.PrintLast Go.Proofs.YthfildmldppihaaW.PrintMore
/-- The first code of a length. -/
def F (n : Nat) : Nat := fs 257 n
theorem F_bd : ∀ n, n < 31 → F n < 1073741824 := by decide +kernel
theorem cn_all : ∀ n, n < 31 → cn 257 n = K n := by decide +kernel
theorem bg_all : ∀ n, n < 31 → 0 < K n → bg 257 n = S n := by decide +kernel
theorem bg_bd : ∀ n, n < 31 → bg 257 n ≤ 257 := by decide +kernel
/-- The symbol, or -1. -/
def sy (code n : Nat) : Int := if 0 < K n ∧ F n ≤ code ∧ code < F n + K n then (o (S n + (code - F n)) : Nat) else -1

set_option maxHeartbeats 4000000 in
set_option maxRecDepth 100000 in
theorem symbol_calls (b : Nat) (code n : Nat) (hc : code < 4294967296) (hn : n < 31) (w : World) (H : Md b w) :
    Calls Try.prog 46 #[.pointer (some ⟨b, 0, none⟩), .int .u32 code, .int .i64 n] w fun e w' => e = .returned (.int .i64 (sy code n)) ∧ Drawn0 w w' := by
  have hu80 := Try.underlying80
  have hu81 := Try.underlying81
  have hu82 := Try.underlying82
  have hu84 := Try.underlying84
  have mixed : Try.prog.follows .mixedOrders = true := by kernel_rfl
  have cf := H.tb.fst n hn
  have cc := H.tb.cnt n hn
  have cb := H.tb.beg n hn
  have hF := F_bd n hn
  have hKS := S_bd n hn
  have hb := bg_bd n hn
  have hbg := bg_all n hn
  rw [show fs 257 n = F n from rfl] at cf
  rw [cn_all n hn] at cc
  have HS : Aside0 (sy code n = if 0 < K n ∧ F n ≤ code ∧ code < F n + K n then ((o (S n + (code - F n)) : Nat) : Int) else -1) := ⟨rfl⟩
  have hnz : (n : Int) < 31 := by omega
  generalize F n = f at *
  generalize K n = k at *
  obtain ⟨s, hs⟩ : ∃ s, s = bg 257 n := ⟨_, rfl⟩
  rw [← hs] at cb hb hbg
  have HTB := Aside0.mk H.tb
  clear H hs
  obtain ⟨hS1, hk, hSk⟩ := hKS
  by_cases h1 : 0 < k
  · have e1 : decide ((k : Int) > 0) = true := decide_eq_true (by omega)
    have e1' : (0 : Int) < (k : Int) := by omega
    have hbs := hbg h1
    by_cases h2 : f ≤ code
    · have e2 : (0 : Int) ≤ (code : Int) - (f : Int) := by omega
      by_cases h3 : code < f + k
      · have e3 : (code : Int) - (f : Int) < (k : Int) := by omega
        obtain ⟨q, hq⟩ : ∃ q, q = s + (code - f) := ⟨_, rfl⟩
        have zq : (s : Int) + ((code : Int) - (f : Int)) = (q : Int) := by omega
        have hq2 : q < 257 := by omega
        have hq3 : (q : Int) < 257 := by omega
        have co := HTB.out.order q hq2
        have HQ : Aside0 (sy code n = (o q : Nat)) := ⟨by rw [HS.out, if_pos ⟨h1, h2, h3⟩, hq, hbs]⟩
        generalize o q = v at co HQ
        clear hbs hbg hq
        go_enter Try.func46, Try.ntmps46
        go_wp2
        go_quiet (fail)
        go_wp2
        go_ret
        exact ⟨by rw [HQ.out]; rfl, by repeat (first | exact Drawn0.refl _ | apply Drawn0.step)⟩
      · have e3 : ¬ (code : Int) - (f : Int) < (k : Int) := by omega
        have HQ : Aside0 (sy code n = -1) := ⟨by rw [HS.out, if_neg (by omega)]⟩
        clear hbs hbg
        go_enter Try.func46, Try.ntmps46
        go_wp2
        go_ret
        exact ⟨by rw [HQ.out]; rfl, by repeat (first | exact Drawn0.refl _ | apply Drawn0.step)⟩
    · have e2 : ¬ (0 : Int) ≤ (code : Int) - (f : Int) := by omega
      have HQ : Aside0 (sy code n = -1) := ⟨by rw [HS.out, if_neg (by omega)]⟩
      clear hbs hbg
      go_enter Try.func46, Try.ntmps46
      go_wp2
      go_ret
      exact ⟨by rw [HQ.out]; rfl, by repeat (first | exact Drawn0.refl _ | apply Drawn0.step)⟩
  · have e1 : decide ((k : Int) > 0) = false := decide_eq_false (by omega)
    have e1' : ¬ (0 : Int) < (k : Int) := by omega
    have HQ : Aside0 (sy code n = -1) := ⟨by rw [HS.out, if_neg (by omega)]⟩
    clear hbg
    go_enter Try.func46, Try.ntmps46
    go_wp2
    go_ret
    exact ⟨by rw [HQ.out]; rfl, by repeat (first | exact Drawn0.refl _ | apply Drawn0.step)⟩
end Go.Proofs.Ythfildmldppihaa.Gm

/- The document's lengths. -/
namespace Go.Proofs.Ythfildmldppihaa.Gn
open Go.RowKit Go.Proofs.Ythfildmldppihaa.Ga Go.Proofs.YthfildmldppihaaW.PrintWords Go.Proofs.YthfildmldppihaaW.PrintLast Go.Proofs.YthfildmldppihaaW.PrintMore
/-- The lengths as a row of values. -/
def lensV : List Value := Ga.lens.map (fun n : Nat => Value.int .i64 (n : Int))
theorem wp_build {P : Program} {op : Oper} {a : Act} {w : World} {K : Act → World → Prop} {Q : Exit → Act → World → Prop} (t : TypeId) (parts : Array (Nat × Operand)) (ho : op.op = .build t parts) (v : Value)
    (h : (Instr.build t (parts.map fun (i, x) => (i, a.eval x))).run P w = .ok v w) (hk : K (a.put op.dst v) w) : op.wp P a w K Q := by
  unfold Oper.wp execOp
  simp only [ho, Sem.run_bind, h, Result.andThen_ok, Sem.run_pure]
  exact hk
theorem wp_alloc80 {op : Oper} {a : Act} {w : World} {K : Act → World → Prop} {Q : Exit → Act → World → Prop} (ho : op.op = .alloc 80)
    (hk : K (a.put op.dst (.pointer (some ⟨w.heap.size, 0, none⟩))) (w.alloc (.cells Try.zeroCells80 80))) : op.wp Try.prog a w K Q := by
  unfold Oper.wp execOp
  simp only [ho]
  go_simp
  exact hk
theorem lensV_at (x : Nat) (hx : x < 257) : lensV[x]? = some (.int .i64 (L x : Nat)) := by
  unfold lensV
  rw [List.getElem?_map, List.getElem?_eq_getElem (by rw [lens_length]; exact hx)]
  unfold L
  rw [List.getD_eq_getElem?_getD, List.getElem?_eq_getElem (by rw [lens_length]; exact hx)]
  rfl
theorem lensV_len : lensV.length = 257 := by unfold lensV; rw [List.length_map, lens_length]
theorem zsize : Try.zeroCells80.size = 257 := by kernel_rfl
theorem below_sets {B b : Nat} {a : World} (hb : B ≤ b) : ∀ (vs : List Value) (o : Nat) (w : World), Below B a w → Below B a (w.setCells b o vs)
  | [], _, _, h => h
  | v :: r, o, _, h => below_sets hb r (o + 1) _ (h.setCell (p := ⟨b, o, none⟩) hb v)
theorem fill_eq (W : World) : (Instr.build 80 (Ga.lens.zipIdx.map (fun (n, i) => (i, Value.int .i64 (n : Int)))).toArray).run Try.prog W = .ok (.agg lensV.toArray) W := by
  have hz : (zeroValue 80).run Try.prog W = .ok (.agg Try.zeroCells80) W := by go_simp
  have hs : (Go.sizeOf 3).run Try.prog W = .ok 1 W := by go_simp
  have hu : (underlying 80).run Try.prog W = .ok (.array 257 3) W := run_underlying Try.underlying80 W
  have hf : Instr.fill (fun i => some (i * 1, 1)) Try.zeroCells80 (Ga.lens.zipIdx.map (fun (n, i) => (i, Value.int .i64 (n : Int)))).toArray.toList = some lensV.toArray := by kernel_rfl
  unfold Instr.build
  simp only [Sem.run_bind, hz, Result.andThen_ok, hu, hs, Value.cells, hf, Sem.run_pure]
set_option maxRecDepth 100000 in
set_option maxHeartbeats 4000000 in
theorem length_calls (x : Nat) (hx : x < 257) (w : World) : Calls Try.prog 41 #[.int .i64 x] w fun e w' => e = .returned (.int .i64 (L x)) ∧ Below w.heap.size w w' := by
  have hu80 := Try.underlying80
  go_enter Try.func41, Try.ntmps41
  generalize hp : ((List.toArray _ : Array (Nat × Operand))) = parts
  have hbd : ∀ (a : Act) W, (Instr.build 80 (parts.map fun (i, x) => (i, a.eval x))).run Try.prog W = .ok (.agg lensV.toArray) W := fun a W => by
    have hm : (parts.map fun (i, x) => (i, a.eval x)) = (Ga.lens.zipIdx.map (fun (n, i) => (i, Value.int .i64 (n : Int)))).toArray := by rw [← hp]; kernel_rfl
    rw [hm]
    exact fill_eq W
  have HBD := Aside0.mk hbd
  clear hp hbd
  go_upto_region 1 with fail
  refine wp_region_lit ?_
  refine wpList_plain rfl fun _ hK => wp_build 80 parts rfl _ (HBD.out _ _) (hK _ _ ?_)
  clear hK HBD
  refine wpList_plain rfl fun _ hK => wp_alloc80 rfl (hK _ _ ?_)
  clear hK
  have hb : (w.alloc (.cells Try.zeroCells80 80)).heap[w.heap.size]? = some (.cells Try.zeroCells80 80 (0, 0)) := heap_alloc_new w _
  have hth : (w.alloc (.cells Try.zeroCells80 80)).there w.heap.size 0 257 := fun j hj => ⟨by rw [Nat.zero_add, blk_cell hb j, Array.getElem?_eq_getElem (by rw [zsize]; exact hj)]; rfl, blk_frozen hb _⟩
  refine wpList_store_mid rfl 80 (.tmp 3) (.tmp 4) rfl w.heap.size 0 lensV.toArray rfl rfl (by rw [show lensV.toArray.size = 257 by rw [List.size_toArray, lensV_len]]; exact hth) (by rw [List.size_toArray, lensV_len]; kernel_rfl) (by kernel_rfl) ?_
  have hrg := World.rangeAt_setCells_same (w.alloc (.cells Try.zeroCells80 80)) w.heap.size 0 lensV (by rw [lensV_len]; exact hth)
  have hcell := hrg x _ (lensV_at x hx)
  rw [Nat.zero_add] at hcell
  have hbel : Aside0 (Below w.heap.size w ((w.alloc (.cells Try.zeroCells80 80)).setCells w.heap.size 0 lensV)) := ⟨below_sets (Nat.le_refl _) _ _ _ ((Below.refl _ w).alloc (Nat.le_refl _) _)⟩
  clear hrg hth hb
  simp only [Act.put, List.setIfInBounds_toArray, List.set_cons_zero, List.set_cons_succ]
  obtain ⟨w2, hw2⟩ : ∃ w2, w2 = (w.alloc (.cells Try.zeroCells80 80)).setCells w.heap.size 0 lensV := ⟨_, rfl⟩
  rw [← hw2] at hcell hbel ⊢
  clear hw2
  obtain ⟨lx, hlx⟩ : ∃ lx, lx = L x := ⟨_, rfl⟩
  rw [← hlx] at hcell
  have HLX := Aside0.mk hlx
  clear hlx
  have hxz : (x : Int) < 257 := by omega
  go_wp2
  go_ret
  exact ⟨by rw [← HLX.out]; rfl, hbel.out⟩
end Go.Proofs.Ythfildmldppihaa.Gn
