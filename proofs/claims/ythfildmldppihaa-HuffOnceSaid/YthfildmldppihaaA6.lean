/- squintref02.next: the walk as a program of the kit has printed it; the law of it; codes as texts. Codes as texts of noughts and ones; what squintref02.next tells of one; the order in which the codes are met. -/
import Derived.Test.YthfildmldppihaaProg
import Derived.Below
import Derived.Deep.RegionLaw
import Derived.Deep.Draws
import Derived.Deep.AppendLies
import Derived.Maps.AppendAt
import Derived.OwnWalk
import Derived.Laws.BytesArg
import Derived.Laws.MakeOwn
import Derived.Laws.OwnMore
import Derived.Deep.OwnRows
import Derived.Tactics
import Derived.Lib.ConvBytes
import Derived.Laws.Slices
import Derived.WalkKit
import Derived.KernelRfl
import Derived.RowKit3
import Derived.Deep.LoopGhost
import Derived.Deep.QuietTactic
import Derived.BigQuiet
import Derived.WideLaws
import Derived.Deep.DeepCutAuto
import Derived.Deep.CutBlock
import Derived.Deep.RegionHeld3
import Derived.Laws.Rows
import Derived.Lib.AppendStr
import Derived.ArgAppend
import Derived.Laws.IdiomCopy
import Derived.OrdersHeld
import Derived.Laws.BitsLemmas
import Derived.RowKit
import Derived.Test.YthfildmldppihaaWWords
import Derived.Test.YthfildmldppihaaWLast
import Derived.Test.YthfildmldppihaaWTab
import Derived.Test.YthfildmldppihaaWFour
import Derived.Test.YthfildmldppihaaWQPut
import Derived.Test.YthfildmldppihaaWApart
import Derived.Test.YthfildmldppihaaWArr
import Derived.Test.YthfildmldppihaaWZeros
import Derived.Test.YthfildmldppihaaWFoot
import Derived.Test.YthfildmldppihaaWKept
import Derived.Test.YthfildmldppihaaWShare
import Derived.Test.YthfildmldppihaaWN
import Derived.Test.YthfildmldppihaaWFootNe
import Derived.Test.YthfildmldppihaaWAt
import Derived.Test.YthfildmldppihaaWEqStruct
import Derived.Test.YthfildmldppihaaWRepsOne
import Derived.Test.YthfildmldppihaaWInv
import Derived.Test.YthfildmldppihaaWInvWords
import Derived.Test.YthfildmldppihaaWGuard
import Derived.Test.YthfildmldppihaaWNEv
import Derived.Test.YthfildmldppihaaWMore
import Derived.Test.YthfildmldppihaaA2
/- squintref02.next: the walk as a program of the kit has printed it; the law of it; codes as texts. -/
namespace Go.Proofs.Ythfildmldppihaa.Nx
open Go.RowKit Go.Proofs.YthfildmldppihaaW.PrintWords Go.Proofs.YthfildmldppihaaW.PrintLast Go.Proofs.YthfildmldppihaaW.PrintMore
attribute [local go_sem] max2_int min2_int max_two min_two max_three min_three max_four min_four
set_option linter.unusedVariables false
set_option linter.unusedSimpArgs false
theorem info5 : (Try.prog.info? 5).map (fun i => (i.zero, i.size, i.bytes)) = some (some (.int .u8 0), 1, 1) := by kernel_rfl

/-! ### squintref02_next: function 42 -/
def squintref02_next.l0 : Nat → ByteArray → ByteArray → Bool → Int → Option (ByteArray)
  | 0, _, _, _, _ => none
  | k + 1, x0, x3, x4, x5 => if x5 ≥ 0 then (if 0 ≤ x5 then (if x5 < (x0.size : Int) then (if x4 = true then (if (bt x0 x5) = 48 then ((some (([49] : List Int) : List Int)).bind fun y121 => (if (strOfNums y121).size + x3.size ≤ 9223372036854775807 then (squintref02_next.l0 k x0 ((strOfNums y121) ++ x3) false (wrap64 (x5 - 1))) else (none))) else ((some (([48] : List Int) : List Int)).bind fun y124 => (if (strOfNums y124).size + x3.size ≤ 9223372036854775807 then (squintref02_next.l0 k x0 ((strOfNums y124) ++ x3) x4 (wrap64 (x5 - 1))) else (none)))) else ((some (([bt x0 x5] : List Int) : List Int)).bind fun y127 => (if (strOfNums y127).size + x3.size ≤ 9223372036854775807 then (squintref02_next.l0 k x0 ((strOfNums y127) ++ x3) x4 (wrap64 (x5 - 1))) else (none)))) else (none)) else (none)) else (some x3)
def squintref02_next.f (k : Nat) (a0 : ByteArray) : Option (ByteArray) := squintref02_next.l0 k a0 (⟨#[]⟩ : ByteArray) true (wrap64 ((a0.size : Int) - 1))
theorem squintref02_next.mono_l : ∀ k, (∀ y0 y1 y2 y3, LeO (squintref02_next.l0 k y0 y1 y2 y3) (squintref02_next.l0 (k + 1) y0 y1 y2 y3))
  | 0 => fun _ _ _ _ r h => by simp [squintref02_next.l0] at h
  | k + 1 => by
    have ih0 := squintref02_next.mono_l k
    · intro y0 y1 y2 y3
      unfold squintref02_next.l0
      repeat' first
      | (with_reducible exact ih0 _ _ _ _)
      | (with_reducible exact LeO.refl _)
      | (with_reducible exact LeO.none _)
      | (with_reducible refine LeO.ite ?_ ?_)
      | (with_reducible refine LeO.bind ?_ (fun _ => ?_))
      | exact ih0 _ _ _ _
      | exact LeO.none _
      | refine LeO.ite ?_ ?_
      | refine LeO.bind ?_ (fun _ => ?_)
theorem squintref02_next.mono : ∀ a0 k, LeO (squintref02_next.f k a0) (squintref02_next.f (k + 1) a0) := by
  intro a0 k
  have ih0 := squintref02_next.mono_l k
  unfold squintref02_next.f
  repeat' first
      | (with_reducible exact ih0 _ _ _ _)
      | (with_reducible exact LeO.refl _)
      | (with_reducible exact LeO.none _)
      | (with_reducible refine LeO.ite ?_ ?_)
      | (with_reducible refine LeO.bind ?_ (fun _ => ?_))
      | exact ih0 _ _ _ _
      | exact LeO.none _
      | refine LeO.ite ?_ ?_
      | refine LeO.bind ?_ (fun _ => ?_)
set_option maxHeartbeats 8000000 in
set_option maxRecDepth 100000 in
theorem squintref02_next.calls (k : Nat) (a0 : ByteArray) (r : ByteArray) (w : World) (h : squintref02_next.f k a0 = some r) :
    Calls Try.prog 42 #[.string a0] w fun e w' => e = .returned (.string r) ∧ Below w.heap.size w w' := by
  have HB := Aside0.mk (Below.refl w.heap.size w)
  have H : (squintref02_next.l0 k a0 (⟨#[]⟩ : ByteArray) true (wrap64 ((a0.size : Int) - 1))) = some r := h
  clear h
  have H' := Aside0.mk H
  clear H
  go_enter Try.func42, Try.ntmps42
  go_wp2
  go_loopg [3, 4, 5] k (fun kq v3 v4 v5 w' => ∃ (x3_1 : ByteArray) (x4_1 : Bool) (x5_1 : Int), v3 = .string x3_1 ∧ v4 = .bool x4_1 ∧ v5 = .int .i64 x5_1 ∧ Aside0 (squintref02_next.l0 kq a0 x3_1 x4_1 x5_1 = some r) ∧ Aside0 (kq ≤ k) ∧ Aside0 (Below w.heap.size w w'))
  case atStart => exact ⟨((⟨#[]⟩ : ByteArray)), (true), (wrap64 ((a0.size : Int) - 1)), (by first | rfl | (simp; done) | (simp [*]; done)), (by first | rfl | (simp; done) | (simp [*]; done)), (by first | rfl | (simp; done) | (simp [*]; done)), H', ⟨Nat.le_refl _⟩, ⟨by repeat (first | (with_reducible first | exact HB.out | apply below_alloc | apply pw_below_drewN | apply below_drew1) | exact HB.out)⟩⟩
  case round =>
    clear H'
    obtain ⟨x3_1, x4_1, x5_1, rfl, rfl, rfl, HA, HK1, HB⟩ := hrel
    cases gk with
    | zero => exact absurd HA.out (by simp [squintref02_next.l0])
    | succ k1 =>
      have H := HA.out
      clear HA
      simp only [squintref02_next.l0] at H
      by_cases c2 : x5_1 ≥ 0
      · rw [if_pos c2] at H
        have c2b0 : decide (0 ≤ x5_1) = true := decide_eq_true c2
        clear c2
        by_cases c3 : 0 ≤ x5_1
        · rw [if_pos c3] at H
          have c3b0 : decide (0 ≤ x5_1) = true := decide_eq_true c3
          clear c3
          by_cases c4 : x5_1 < (a0.size : Int)
          · rw [if_pos c4] at H
            have c4b0 : decide (x5_1 < (a0.size : Int)) = true := decide_eq_true c4
            clear c4
            by_cases c6 : x4_1 = true
            · subst c6
              have H1 : (if (bt a0 x5_1) = 48 then ((some (([49] : List Int) : List Int)).bind fun y121 => (if (strOfNums y121).size + x3_1.size ≤ 9223372036854775807 then (squintref02_next.l0 k1 a0 ((strOfNums y121) ++ x3_1) false (wrap64 (x5_1 - 1))) else (none))) else ((some (([48] : List Int) : List Int)).bind fun y124 => (if (strOfNums y124).size + x3_1.size ≤ 9223372036854775807 then (squintref02_next.l0 k1 a0 ((strOfNums y124) ++ x3_1) true (wrap64 (x5_1 - 1))) else (none)))) = some r := by rw [if_pos rfl] at H; exact H
              clear H
              have H := H1
              clear H1
              by_cases c7 : (bt a0 x5_1) = 48
              · rw [if_pos c7] at H
                have c7b0 : ((bt a0 x5_1) == 48) = true := beq_iff_eq.mpr c7
                have c7b1 : ((bt a0 x5_1) != 48) = false := bne_eq_false_iff_eq.mpr c7
                clear c7
                obtain ⟨y121, hy121⟩ : ∃ y_ : List Int, y_ = (([49] : List Int)) := ⟨_, rfl⟩
                replace H : (if (strOfNums y121).size + x3_1.size ≤ 9223372036854775807 then (squintref02_next.l0 k1 a0 ((strOfNums y121) ++ x3_1) false (wrap64 (x5_1 - 1))) else (none)) = some r := by first | (rw [hy121]; with_reducible exact H) | (have H2_ := (Option.bind_some _ _).symm.trans H; rw [hy121]; with_reducible exact H2_) | (have H2_ := (Option.bind_some _ _).symm.trans H; with_reducible exact H2_) | with_reducible exact H | (rw [hy121]; exact H) | exact H
                have Ny121 := Aside0.mk hy121
                clear hy121
                by_cases c8 : (strOfNums y121).size + x3_1.size ≤ 9223372036854775807
                · rw [if_pos c8] at H
                  have c8b0 := eq_true c8
                  have c8b1 : decide ((strOfNums y121).size + x3_1.size ≤ 9223372036854775807) = true := decide_eq_true c8
                  try have c8b2 : (9223372036854775807 < (strOfNums y121).size + x3_1.size) = False := eq_false (Nat.not_lt.2 c8)
                  have H' := Aside0.mk H
                  clear H
                  have p5 : 0 ≤ (x5_1 : Int) := of_decide_eq_true (by first | (with_reducible assumption) | assumption)
                  have q5 : x5_1 < (a0.size : Int) := of_decide_eq_true (by first | (with_reducible assumption) | assumption)
                  have hx5 := bt_at a0 x5_1
                  replace p5 := eq_true p5
                  replace q5 := eq_true q5
                  go_wp2_with (first | ((with_reducible refine gate_dst (N := 21) rfl ?_); refine Kd.R_lit (Kd.int .u8) _ 5 ?hg (N := 21) ?hd (xs := ([49] : List Int)) (inner := [.int .u8 49]) (ok := fun _ => True) (okp := fun _ => True) ?hr ?hp (fun _ hk => hk) trivial (Below.refl _ _) (Nat.le_refl _) (by simp) ?_; (case hd => rfl); (case hg => rfl); (case hr => first | (go_simp; done) | (go_simp; rfl)); (case hp => exact (Reps.one (show Kd.M (Kd.int .u8) _ _ _ 49 [.int .u8 49] from rfl) (Reps.none _ _))); intro v122 w9 ho10 hb hg_ hnew_; clear hg_ hnew_; (first | rw [← Ny121.out] at ho10 | (simp only [Int.reduceToNat] at ho10; rw [← Ny121.out] at ho10)); have n0_ := Aside0.mk (Kd.R_lower ho10 (below_size (by repeat (first | (with_reducible first | exact HB.out | apply below_alloc | apply pw_below_drewN | apply below_drew1) | exact HB.out)))); have n1_ := Aside0.mk (below_step (by repeat (first | (with_reducible first | exact HB.out | apply below_alloc | apply pw_below_drewN | apply below_drew1) | exact HB.out)) hb); clear HB; have HO123 := n0_; have HB := n1_; clear n0_ n1_; clear hb ho10; have hcv11 := own_string (P := Try.prog) Try.underlying22 Try.underlying5 Try.underlying9 (Kd.own_of_R HO123.out)))
                  go_roundg k1
                  case measure => have := HK1.out; omega
                  case rel => exact ⟨((strOfNums y121) ++ x3_1), (false), (wrap64 (x5_1 - 1)), (by first | rfl | (simp; done) | (simp [*]; done)), (by first | rfl | (simp; done) | (simp [*]; done)), (by first | rfl | (simp; done) | (simp [*]; done)), H', ⟨by have := HK1.out; omega⟩, ⟨by repeat (first | (with_reducible first | exact HB.out | apply below_alloc | apply pw_below_drewN | apply below_drew1) | exact HB.out)⟩⟩
                · rw [if_neg c8] at H
                  exact absurd H (by simp)
              · rw [if_neg c7] at H
                have c7b0 : ((bt a0 x5_1) == 48) = false := beq_eq_false_iff_ne.mpr c7
                have c7b1 : ((bt a0 x5_1) != 48) = true := bne_iff_ne.mpr c7
                obtain ⟨y124, hy124⟩ : ∃ y_ : List Int, y_ = (([48] : List Int)) := ⟨_, rfl⟩
                replace H : (if (strOfNums y124).size + x3_1.size ≤ 9223372036854775807 then (squintref02_next.l0 k1 a0 ((strOfNums y124) ++ x3_1) true (wrap64 (x5_1 - 1))) else (none)) = some r := by first | (rw [hy124]; with_reducible exact H) | (have H2_ := (Option.bind_some _ _).symm.trans H; rw [hy124]; with_reducible exact H2_) | (have H2_ := (Option.bind_some _ _).symm.trans H; with_reducible exact H2_) | with_reducible exact H | (rw [hy124]; exact H) | exact H
                have Ny124 := Aside0.mk hy124
                clear hy124
                by_cases c12 : (strOfNums y124).size + x3_1.size ≤ 9223372036854775807
                · rw [if_pos c12] at H
                  have c12b0 := eq_true c12
                  have c12b1 : decide ((strOfNums y124).size + x3_1.size ≤ 9223372036854775807) = true := decide_eq_true c12
                  try have c12b2 : (9223372036854775807 < (strOfNums y124).size + x3_1.size) = False := eq_false (Nat.not_lt.2 c12)
                  have H' := Aside0.mk H
                  clear H
                  have p5 : 0 ≤ (x5_1 : Int) := of_decide_eq_true (by first | (with_reducible assumption) | assumption)
                  have q5 : x5_1 < (a0.size : Int) := of_decide_eq_true (by first | (with_reducible assumption) | assumption)
                  have hx5 := bt_at a0 x5_1
                  replace p5 := eq_true p5
                  replace q5 := eq_true q5
                  go_wp2_with (first | ((with_reducible refine gate_dst (N := 21) rfl ?_); refine Kd.R_lit (Kd.int .u8) _ 5 ?hg (N := 21) ?hd (xs := ([48] : List Int)) (inner := [.int .u8 48]) (ok := fun _ => True) (okp := fun _ => True) ?hr ?hp (fun _ hk => hk) trivial (Below.refl _ _) (Nat.le_refl _) (by simp) ?_; (case hd => rfl); (case hg => rfl); (case hr => first | (go_simp; done) | (go_simp; rfl)); (case hp => exact (Reps.one (show Kd.M (Kd.int .u8) _ _ _ 48 [.int .u8 48] from rfl) (Reps.none _ _))); intro v125 w13 ho14 hb hg_ hnew_; clear hg_ hnew_; (first | rw [← Ny124.out] at ho14 | (simp only [Int.reduceToNat] at ho14; rw [← Ny124.out] at ho14)); have n0_ := Aside0.mk (Kd.R_lower ho14 (below_size (by repeat (first | (with_reducible first | exact HB.out | apply below_alloc | apply pw_below_drewN | apply below_drew1) | exact HB.out)))); have n1_ := Aside0.mk (below_step (by repeat (first | (with_reducible first | exact HB.out | apply below_alloc | apply pw_below_drewN | apply below_drew1) | exact HB.out)) hb); clear HB; have HO126 := n0_; have HB := n1_; clear n0_ n1_; clear hb ho14; have hcv15 := own_string (P := Try.prog) Try.underlying22 Try.underlying5 Try.underlying9 (Kd.own_of_R HO126.out)))
                  go_roundg k1
                  case measure => have := HK1.out; omega
                  case rel => exact ⟨((strOfNums y124) ++ x3_1), (true), (wrap64 (x5_1 - 1)), (by first | rfl | (simp; done) | (simp [*]; done)), (by first | rfl | (simp; done) | (simp [*]; done)), (by first | rfl | (simp; done) | (simp [*]; done)), H', ⟨by have := HK1.out; omega⟩, ⟨by repeat (first | (with_reducible first | exact HB.out | apply below_alloc | apply pw_below_drewN | apply below_drew1) | exact HB.out)⟩⟩
                · rw [if_neg c12] at H
                  exact absurd H (by simp)
            · replace c6 := Bool.eq_false_iff.mpr c6
              subst c6
              have H1 : ((some (([bt a0 x5_1] : List Int) : List Int)).bind fun y127 => (if (strOfNums y127).size + x3_1.size ≤ 9223372036854775807 then (squintref02_next.l0 k1 a0 ((strOfNums y127) ++ x3_1) false (wrap64 (x5_1 - 1))) else (none))) = some r := by rw [if_neg (show ¬ (false = true) by decide)] at H; exact H
              clear H
              have H := H1
              clear H1
              obtain ⟨y127, hy127⟩ : ∃ y_ : List Int, y_ = (([bt a0 x5_1] : List Int)) := ⟨_, rfl⟩
              replace H : (if (strOfNums y127).size + x3_1.size ≤ 9223372036854775807 then (squintref02_next.l0 k1 a0 ((strOfNums y127) ++ x3_1) false (wrap64 (x5_1 - 1))) else (none)) = some r := by first | (rw [hy127]; with_reducible exact H) | (have H2_ := (Option.bind_some _ _).symm.trans H; rw [hy127]; with_reducible exact H2_) | (have H2_ := (Option.bind_some _ _).symm.trans H; with_reducible exact H2_) | with_reducible exact H | (rw [hy127]; exact H) | exact H
              have Ny127 := Aside0.mk hy127
              clear hy127
              by_cases c16 : (strOfNums y127).size + x3_1.size ≤ 9223372036854775807
              · rw [if_pos c16] at H
                have c16b0 := eq_true c16
                have c16b1 : decide ((strOfNums y127).size + x3_1.size ≤ 9223372036854775807) = true := decide_eq_true c16
                try have c16b2 : (9223372036854775807 < (strOfNums y127).size + x3_1.size) = False := eq_false (Nat.not_lt.2 c16)
                have H' := Aside0.mk H
                clear H
                have p5 : 0 ≤ (x5_1 : Int) := of_decide_eq_true (by first | (with_reducible assumption) | assumption)
                have q5 : x5_1 < (a0.size : Int) := of_decide_eq_true (by first | (with_reducible assumption) | assumption)
                have hx5 := bt_at a0 x5_1
                replace p5 := eq_true p5
                replace q5 := eq_true q5
                go_wp2_with (first | ((with_reducible refine gate_dst (N := 21) rfl ?_); refine Kd.R_lit (Kd.int .u8) _ 5 ?hg (N := 21) ?hd (xs := ([bt a0 x5_1] : List Int)) (inner := [.int .u8 (bt a0 x5_1)]) (ok := fun _ => True) (okp := fun _ => True) ?hr ?hp (fun _ hk => hk) trivial (Below.refl _ _) (Nat.le_refl _) (by simp) ?_; (case hd => rfl); (case hg => rfl); (case hr => first | (go_simp; done) | (go_simp; rfl)); (case hp => exact (Reps.one (show Kd.M (Kd.int .u8) _ _ _ (bt a0 x5_1) [.int .u8 (bt a0 x5_1)] from rfl) (Reps.none _ _))); intro v128 w17 ho18 hb hg_ hnew_; clear hg_ hnew_; (first | rw [← Ny127.out] at ho18 | (simp only [Int.reduceToNat] at ho18; rw [← Ny127.out] at ho18)); have n0_ := Aside0.mk (Kd.R_lower ho18 (below_size (by repeat (first | (with_reducible first | exact HB.out | apply below_alloc | apply pw_below_drewN | apply below_drew1) | exact HB.out)))); have n1_ := Aside0.mk (below_step (by repeat (first | (with_reducible first | exact HB.out | apply below_alloc | apply pw_below_drewN | apply below_drew1) | exact HB.out)) hb); clear HB; have HO129 := n0_; have HB := n1_; clear n0_ n1_; clear hb ho18; have hcv19 := own_string (P := Try.prog) Try.underlying22 Try.underlying5 Try.underlying9 (Kd.own_of_R HO129.out)))
                go_roundg k1
                case measure => have := HK1.out; omega
                case rel => exact ⟨((strOfNums y127) ++ x3_1), (false), (wrap64 (x5_1 - 1)), (by first | rfl | (simp; done) | (simp [*]; done)), (by first | rfl | (simp; done) | (simp [*]; done)), (by first | rfl | (simp; done) | (simp [*]; done)), H', ⟨by have := HK1.out; omega⟩, ⟨by repeat (first | (with_reducible first | exact HB.out | apply below_alloc | apply pw_below_drewN | apply below_drew1) | exact HB.out)⟩⟩
              · rw [if_neg c16] at H
                exact absurd H (by simp)
          · rw [if_neg c4] at H
            exact absurd H (by simp)
        · rw [if_neg c3] at H
          exact absurd H (by simp)
      · rw [if_neg c2] at H
        have c2b0 : decide (0 ≤ x5_1) = false := decide_eq_false c2
        clear c2
        obtain rfl := Option.some.inj H
        go_wp2
        go_ret
        exact ⟨by first | rfl | (simp [errW_none, errW_some] <;> rfl) | (simp [*, errW_none, errW_some] <;> rfl), by repeat (first | (with_reducible first | exact HB.out | apply below_alloc | apply pw_below_drewN | apply below_drew1) | exact HB.out)⟩



end Go.Proofs.Ythfildmldppihaa.Nx

/- Codes as texts of noughts and ones; what squintref02.next tells of one; the order in which the codes are met. -/
namespace Go.Proofs.Ythfildmldppihaa.Ny
open Go.RowKit Go.Proofs.Ythfildmldppihaa.Ga Go.Proofs.Ythfildmldppihaa.Gi Go.Proofs.Ythfildmldppihaa.Nx Go.Proofs.YthfildmldppihaaW.PrintWords Go.Proofs.YthfildmldppihaaW.PrintLast Go.Proofs.YthfildmldppihaaW.PrintMore
/-- The last n binary digits of a number, as noughts and ones. -/
def dig : Nat → Nat → List Int
  | 0, _ => []
  | n + 1, c => dig n (c / 2) ++ [((48 + c % 2 : Nat) : Int)]
theorem dig_length : ∀ n c, (dig n c).length = n
  | 0, _ => rfl
  | n + 1, c => by rw [dig, List.length_append, dig_length n]; rfl
theorem dig_mem : ∀ n c, ∀ x ∈ dig n c, x = 48 ∨ x = 49
  | 0, _, x, h => by cases h
  | n + 1, c, x, h => by
    rw [dig, List.mem_append, List.mem_singleton] at h
    rcases h with h | h
    · exact dig_mem n _ x h
    · omega
theorem rd_app_left {a b : List Int} {i : Nat} (h : i < a.length) : rd (a ++ b) i = rd a i := by
  simp [rd, List.getD_eq_getElem?_getD, List.getElem?_append_left h]
theorem rd_app_last {a : List Int} {x : Int} {i : Nat} (h : i = a.length) : rd (a ++ [x]) i = x := by
  subst h; simp [rd, List.getD_eq_getElem?_getD]
theorem dig_at : ∀ (n c i : Nat), i < n → rd (dig n c) i = ((48 + c / 2 ^ (n - 1 - i) % 2 : Nat) : Int)
  | 0, _, _, h => by omega
  | n + 1, c, i, h => by
    rw [dig]
    by_cases hi : i < n
    · rw [rd_app_left (by rw [dig_length]; exact hi), dig_at n (c / 2) i hi, Nat.div_div_eq_div_mul, show n + 1 - 1 - i = (n - 1 - i) + 1 by omega, Nat.pow_succ, Nat.mul_comm (2 ^ _) 2]
    · rw [rd_app_last (by rw [dig_length]; omega), show n + 1 - 1 - i = 0 by omega, Nat.pow_zero, Nat.div_one]
theorem str_app (a b : List Int) : strOfNums a ++ strOfNums b = strOfNums (a ++ b) := by
  apply ByteArray.ext
  simp [strOfNums, ByteArray.data_append]
theorem bt_str {l : List Int} (hl : ∀ x ∈ l, 0 ≤ x ∧ x ≤ 255) {i : Nat} (h : i < l.length) : bt (strOfNums l) i = rd l i := by
  have hs : i < (strOfNums l).size := by rw [strOfNums_size]; exact h
  have hb : 0 ≤ l[i] ∧ l[i] ≤ 255 := hl _ (List.getElem_mem h)
  unfold bt rd
  rw [dif_pos (by simpa using hs)]
  simp only [Int.toNat_natCast, List.getD_eq_getElem?_getD, List.getElem?_eq_getElem h, Option.getD_some]
  show ((((strOfNums l)[i]'hs).toNat : Nat) : Int) = l[i]
  have e : (strOfNums l)[i]'hs = UInt8.ofNat (l[i]).toNat := by
    simp [strOfNums, ByteArray.getElem_eq_getElem_data]
  rw [e, UInt8.toNat_ofNat']
  omega
theorem dig_okb (n c : Nat) : ∀ x ∈ dig n c, 0 ≤ x ∧ x ≤ 255 := fun x h => by have := dig_mem n c x h; omega
theorem next_go (n c : Nat) (hn : n ≤ 1000) : ∀ (m : Nat) (s : List Int) (car : Bool) (k : Nat), m ≤ n → m < k → s.length + m ≤ 1000 →
    squintref02_next.l0 k (strOfNums (dig n c)) (strOfNums s) car ((m : Int) - 1) = some (strOfNums (dig m (c / 2 ^ (n - m) + (if car = true then 1 else 0)) ++ s))
  | 0, s, car, k, _, hk, _ => by
    obtain ⟨k, rfl⟩ : ∃ j, k = j + 1 := ⟨k - 1, by omega⟩
    rw [squintref02_next.l0, if_neg (by omega)]; rfl
  | m + 1, s, car, k, hm, hk, hs => by
    obtain ⟨k, rfl⟩ : ∃ j, k = j + 1 := ⟨k - 1, by omega⟩
    have hz : (((m + 1 : Nat) : Int) - 1) = (m : Int) := by omega
    have hw : wrap64 ((m : Int) - 1) = (m : Int) - 1 := by unfold wrap64; omega
    have hbt : bt (strOfNums (dig n c)) (m : Int) = ((48 + c / 2 ^ (n - (m + 1)) % 2 : Nat) : Int) := by
      rw [bt_str (dig_okb n c) (by rw [dig_length]; omega), dig_at n c m (by omega), show n - 1 - m = n - (m + 1) by omega]
    have hd : c / 2 ^ (n - m) = c / 2 ^ (n - (m + 1)) / 2 := by
      rw [Nat.div_div_eq_div_mul, show n - m = (n - (m + 1)) + 1 by omega, Nat.pow_succ]
    have ih := next_go n c hn m
    obtain ⟨d, hd'⟩ : ∃ d, d = c / 2 ^ (n - (m + 1)) := ⟨_, rfl⟩
    rw [hd] at ih
    rw [← hd'] at hbt ih
    rw [hz, squintref02_next.l0, if_pos (by omega), if_pos (by omega), if_pos (by rw [strOfNums_size, dig_length]; omega), hbt, hw, ← hd']
    have hsz : ∀ x : Int, (strOfNums [x]).size + (strOfNums s).size ≤ 9223372036854775807 := fun x => by rw [strOfNums_size, strOfNums_size]; simp only [List.length_singleton]; omega
    have hpar : d % 2 = 0 ∨ d % 2 = 1 := by omega
    have key : ∀ (x : Int) (car' : Bool) (q : Nat), q = d / 2 + (if car' = true then 1 else 0) → dig (m + 1) (d + (if car = true then 1 else 0)) = dig m q ++ [x] →
        squintref02_next.l0 k (strOfNums (dig n c)) (strOfNums [x] ++ strOfNums s) car' ((m : Int) - 1) = some (strOfNums (dig (m + 1) (d + (if car = true then 1 else 0)) ++ s)) := fun x car' q hq he => by
      rw [str_app, ih ([x] ++ s) car' k (by omega) (by omega) (by simp; omega), he, hq, List.append_assoc]
    cases car with
    | true =>
      rcases hpar with hp | hp
      · rw [if_pos rfl, if_pos (by omega)]
        show (if (strOfNums [49]).size + (strOfNums s).size ≤ 9223372036854775807 then _ else none) = _
        rw [if_pos (hsz 49)]
        exact key 49 false (d / 2) rfl (by rw [if_pos rfl, dig, show (d + 1) / 2 = d / 2 by omega, show (48 + (d + 1) % 2) = 49 by omega]; rfl)
      · rw [if_pos rfl, if_neg (by omega)]
        show (if (strOfNums [48]).size + (strOfNums s).size ≤ 9223372036854775807 then _ else none) = _
        rw [if_pos (hsz 48)]
        exact key 48 true (d / 2 + 1) rfl (by rw [if_pos rfl, dig, show (d + 1) / 2 = d / 2 + 1 by omega, show (48 + (d + 1) % 2) = 48 by omega]; rfl)
    | false =>
      rw [if_neg (by decide)]
      show (if (strOfNums [((48 + d % 2 : Nat) : Int)]).size + (strOfNums s).size ≤ 9223372036854775807 then _ else none) = _
      rw [if_pos (hsz _)]
      exact key _ false (d / 2) rfl (by rw [if_neg (by decide), dig]; rfl)
theorem next_ok (n c : Nat) (hn : n ≤ 999) : squintref02_next.f 1000 (strOfNums (dig n c)) = some (strOfNums (dig n (c + 1))) := by
  have h := next_go n c (by omega) n [] true 1000 (Nat.le_refl _) (by omega) (by simp; omega)
  rw [if_pos rfl, Nat.sub_self, Nat.pow_zero, Nat.div_one, List.append_nil] at h
  unfold squintref02_next.f
  rw [strOfNums_size, dig_length, show wrap64 ((n : Int) - 1) = (n : Int) - 1 by unfold wrap64; omega]
  exact h
theorem next_calls (n c : Nat) (hn : n ≤ 999) (w : World) : Calls Try.prog 42 #[.string (strOfNums (dig n c))] w fun e w' => e = .returned (.string (strOfNums (dig n (c + 1)))) ∧ Below w.heap.size w w' :=
  squintref02_next.calls 1000 _ _ w (next_ok n c hn)
theorem dig_push (n c : Nat) : strOfNums (dig n c) ++ (⟨#[48]⟩ : ByteArray) = strOfNums (dig (n + 1) (c * 2)) := by
  rw [show (⟨#[48]⟩ : ByteArray) = strOfNums [48] from rfl, str_app, dig, Nat.mul_div_cancel _ (by decide), Nat.mul_mod_left]; rfl
/-- How many symbols below x have n bits. -/
def cnt (n x : Nat) : Nat := (lens.take x).count n
theorem cnt_zero (n : Nat) : cnt n 0 = 0 := rfl
theorem cnt_succ (n x : Nat) (hx : x < 257) : cnt n (x + 1) = cnt n x + if L x = n then 1 else 0 := by
  have hl : x < lens.length := by rw [lens_length]; exact hx
  have hL : lens[x] = L x := by unfold L; rw [List.getD_eq_getElem?_getD, List.getElem?_eq_getElem hl]; rfl
  unfold cnt
  rw [List.take_add_one, List.getElem?_eq_getElem hl, List.count_append, hL]
  simp only [Option.toList_some, List.count_singleton, beq_iff_eq]
theorem met : ∀ x, x < 257 → o (S (L x) + cnt (L x) x) = x ∧ S (L x) + cnt (L x) x < 257 := by decide +kernel
theorem met_o : ∀ i, i < 257 → S (L (o i)) + cnt (L (o i)) (o i) = i := by decide +kernel
theorem row_end : ∀ n, n < 30 → S n + cnt n 257 = S (n + 1) := by decide +kernel
theorem last_end : S 30 + cnt 30 257 = 257 := by decide +kernel
theorem S5 : S 5 = 0 := rfl
theorem L_rng : ∀ x, x < 257 → 5 ≤ L x ∧ L x ≤ 30 := by decide +kernel
theorem C_lt : ∀ x, x < 257 → C x < 2 ^ L x := by decide +kernel
theorem o_inj {i j : Nat} (hi : i < 257) (hj : j < 257) (h : o i = o j) : i = j := by rw [← met_o i hi, h, met_o j hj]
/-- The code that was met last, before the i-th symbol. -/
def pv : Nat → ByteArray
  | 0 => ⟨#[]⟩
  | i + 1 => strOfNums (dig (L (o i)) (C (o i)))
def cv (x : Nat) : Value := .string (strOfNums (dig (L x) (C x)))
def codesV : List Value := (List.range 257).map cv
theorem codesV_len : codesV.length = 257 := by unfold codesV; rw [List.length_map, List.length_range]
theorem codesV_at (x : Nat) (hx : x < 257) : codesV[x]? = some (cv x) := by
  unfold codesV; rw [List.getElem?_map, List.getElem?_range hx]; rfl
end Go.Proofs.Ythfildmldppihaa.Ny
