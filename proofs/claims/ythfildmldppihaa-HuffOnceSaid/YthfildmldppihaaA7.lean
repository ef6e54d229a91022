/- squintref02.Codes: all symbols' codes as texts. -/
import Derived.Test.YthfildmldppihaaA6
import Derived.Test.YthfildmldppihaaA3
import Derived.Lib.Bytes
/- squintref02.Codes: all symbols' codes as texts. -/
namespace Go.Proofs.Ythfildmldppihaa.Nz
open Go.RowKit Go.Proofs.Ythfildmldppihaa.Ga Go.Proofs.Ythfildmldppihaa.Gi Go.Proofs.Ythfildmldppihaa.Gn Go.Proofs.Ythfildmldppihaa.Ny Go.Proofs.YthfildmldppihaaW.PrintWords Go.Proofs.YthfildmldppihaaW.PrintLast Go.Proofs.YthfildmldppihaaW.PrintMore
def isS : Option Value → Bool
  | some (.string _) => true
  | _ => false
theorem isS_eq {v : Option Value} (h : isS v = true) : ∃ s, v = some (.string s) := by
  unfold isS at h; split at h
  · exact ⟨_, rfl⟩
  · cases h
theorem zs : ∀ k, k < 257 → isS Try.zeroCells41[k]? = true := by decide +kernel
theorem zsize : Try.zeroCells41.size = 257 := by kernel_rfl
/-- The table under way: the codes of the first i symbols that are met lie in block b; block B waits for the answer. -/
structure Ct (B b i : Nat) (w W : World) : Prop where
  ne : B < b
  lt : b < W.heap.size
  th : ∀ x, x < 257 → ∃ s, W.cell? ⟨b, x, none⟩ = some (.string s)
  fr : ∀ k, W.frozen? ⟨b, k, none⟩ = false
  met : ∀ j, j < i → W.cell? ⟨b, o j, none⟩ = some (cv (o j))
  res : W.there B 0 257
  bel : Below B w W
theorem Ct.keep {B b i : Nat} {w W W' : World} (h : Ct B b i w W) (hb : Below W.heap.size W W') : Ct B b i w W' := by
  have hbb := hb.block b h.lt
  have hBB := hb.block B (Nat.lt_trans h.ne h.lt)
  refine ⟨h.ne, Nat.lt_of_lt_of_le h.lt hb.size, fun x hx => ?_, fun k => (World.frozen?_of_block hbb).trans (h.fr k), fun j hj => (World.cell?_of_block hbb).trans (h.met j hj),
    fun j hj => ⟨by rw [World.cell?_of_block hBB]; exact (h.res j hj).1, by rw [World.frozen?_of_block hBB]; exact (h.res j hj).2⟩, h.bel.trans (hb.mono (Nat.le_trans (Nat.le_of_lt h.ne) (Nat.le_of_lt h.lt)))⟩
  obtain ⟨s, hs⟩ := h.th x hx
  exact ⟨s, (World.cell?_of_block hbb).trans hs⟩
theorem Ct.put {B b i : Nat} {w W : World} (h : Ct B b i w W) (hi : i < 257) : Ct B b (i + 1) w (W.setCell ⟨b, o i, none⟩ (cv (o i))) := by
  have hoi := o_bd i hi
  have hoth : ∀ k, k ≠ b → (W.setCell ⟨b, o i, none⟩ (cv (o i))).heap[k]? = W.heap[k]? := fun k hk => Below.heap_setCell _ _ _ _ hk
  have hne : B ≠ b := Nat.ne_of_lt h.ne
  obtain ⟨s0, hs0⟩ := h.th (o i) hoi
  have hc : ∀ x, (W.setCell ⟨b, o i, none⟩ (cv (o i))).cell? ⟨b, x, none⟩ = if x = o i then some (cv (o i)) else W.cell? ⟨b, x, none⟩ := fun x => by
    by_cases hx : x = o i
    · subst hx; rw [if_pos rfl]; exact World.cell?_setCell_same _ _ _ hs0
    · rw [if_neg hx]; exact World.cell?_setCell_other _ _ _ _ (by intro e; simp only [Addr.mk.injEq] at e; omega)
  refine ⟨h.ne, by simpa using h.lt, fun x hx => ?_, fun k => by rw [World.frozen?_setCell]; exact h.fr k, fun j hj => ?_,
    fun j hj => ⟨by rw [World.cell?_of_block (hoth B hne)]; exact (h.res j hj).1, by rw [World.frozen?_of_block (hoth B hne)]; exact (h.res j hj).2⟩, h.bel.setCell (p := ⟨b, o i, none⟩) (Nat.le_of_lt h.ne) _⟩
  · rw [hc]
    split
    · exact ⟨_, rfl⟩
    · exact h.th x hx
  · rw [hc]
    by_cases hj' : j = i
    · subst hj'; rw [if_pos rfl]
    · have : o j ≠ o i := fun e => hj' (o_inj (by omega) hi e)
      rw [if_neg this]; exact h.met j (by omega)
theorem Ct.start (w : World) : Ct w.heap.size (w.heap.size + 1) 0 w ((w.alloc (.cells Try.zeroCells41 41)).alloc (.cells Try.zeroCells41 41)) := by
  have hb : ((w.alloc (.cells Try.zeroCells41 41)).alloc (.cells Try.zeroCells41 41)).heap[w.heap.size + 1]? = some (.cells Try.zeroCells41 41 (0, 0)) := heap_alloc2_new w _ _
  have hB : ((w.alloc (.cells Try.zeroCells41 41)).alloc (.cells Try.zeroCells41 41)).heap[w.heap.size]? = some (.cells Try.zeroCells41 41 (0, 0)) := heap_alloc2_old w _ _
  refine ⟨Nat.lt_succ_self _, by simp, fun x hx => ?_, fun k => blk_frozen hb k, fun j hj => absurd hj (Nat.not_lt_zero _), fun j hj => ⟨?_, blk_frozen hB _⟩, ((Below.refl _ w).alloc (Nat.le_refl _) _).alloc (by simp) _⟩
  · obtain ⟨s, hs⟩ := isS_eq (zs x hx)
    exact ⟨s, (blk_cell hb x).trans hs⟩
  · obtain ⟨s, hs⟩ := isS_eq (zs j hj)
    rw [Nat.zero_add, blk_cell hB j, hs]; rfl
/-- The cells of the whole table. -/
theorem Ct.whole {B b : Nat} {w W : World} (h : Ct B b 257 w W) : W.rangeAt b 0 codesV := fun j v hv => by
  have hj : j < 257 := by
    have := (List.getElem?_eq_some_iff.1 hv).1
    rw [codesV_len] at this; exact this
  rw [codesV_at j hj] at hv
  obtain ⟨i, hi, hij⟩ := rank_of j hj
  have := h.met i hi
  rw [hij] at this
  rw [Nat.zero_add, this]; exact hv
theorem results_cell_mid {P : Program} {fn : Func} {p : Tmp} {ty : TypeId} (h : fn.results = #[.cell p ty]) (tmps : Array Value) (w : World) (g : Nat) (cs : List Value) (d : TypeDesc)
    (hp : tmps.getD p undef = .pointer (some ⟨g, 0, none⟩)) (hg : w.rangeAt g 0 cs)
    (hu : P.underlying ty = some d) (hd : d.isRow = true) (hi : (P.info? ty).map (·.size) = some cs.length) :
    (results fn tmps).run P w = .ok (.agg cs.toArray) w := by
  have hp' : tmps[p]?.getD undef = .pointer (some ⟨g, 0, none⟩) := by simpa using hp
  simp [results, h, hp', asAddr, run_loadVar_mid w g 0 ty cs d hg hu hd hi]
theorem size_codes : codesV.toArray.size = 257 := by rw [List.size_toArray, codesV_len]
theorem codesV_one : codesV.toArray.all (·.oneCell') = true := all_oneCell_toArray fun v hv => by
  unfold codesV at hv
  obtain ⟨x, _, rfl⟩ := List.mem_map.1 hv
  rfl
def S1 (n : Nat) : Nat := if n < 31 then S n else 257
theorem S1_step (n : Nat) (hn : n < 31) : S n + cnt n 257 = S1 (n + 1) := by
  unfold S1
  by_cases h : n < 30
  · rw [if_pos (by omega)]; exact row_end n h
  · obtain rfl : n = 30 := by omega
    exact last_end
theorem S1_lt {n : Nat} (hn : n < 31) : S1 n = S n := if_pos hn
set_option maxHeartbeats 8000000 in
set_option maxRecDepth 100000 in
theorem codes_calls (w : World) : Calls Try.prog 25 #[] w fun e w' => e = .returned (.agg codesV.toArray) ∧ Below w.heap.size w w' := by
  have HT := Aside0.mk (Ct.start w)
  obtain ⟨B, hB⟩ : ∃ B, B = w.heap.size := ⟨_, rfl⟩
  go_enter Try.func25, Try.ntmps25
  go_wp2
  go_loopg [2, 3] 31 (fun g1 v2 v3 wr => ∃ (n : Nat), v2 = .string (pv (S1 n)) ∧ v3 = .int .i64 n ∧ 5 ≤ n ∧ n ≤ 31 ∧ 31 - n ≤ g1 ∧ Aside0 (Ct w.heap.size (w.heap.size + 1) (S1 n) w wr))
  case atStart => exact ⟨5, rfl, rfl, by omega, by omega, by omega, HT⟩
  case round =>
    clear HT
    obtain ⟨n, rfl, rfl, h5, h31, hg, HT⟩ := hrel
    by_cases hn : n ≤ 30
    · have hnz : (n : Int) ≤ 30 := by omega
      have hnd : decide ((n : Int) ≤ 30) = true := decide_eq_true hnz
      go_wp2
      go_loopg [2, 4] 257 (fun g2 v2 v4 wr => ∃ (x i : Nat), v2 = .string (pv i) ∧ v4 = .int .i64 x ∧ x ≤ 257 ∧ 257 - x ≤ g2 ∧ Aside0 (i = S n + cnt n x) ∧ Aside0 (Ct w.heap.size (w.heap.size + 1) i w wr))
      case atStart => exact ⟨0, S1 n, rfl, rfl, by omega, by omega, ⟨by rw [S1_lt (by omega), cnt_zero]; rfl⟩, HT⟩
      case round =>
        clear HT
        obtain ⟨x, i, rfl, rfl, hx, hg2, HI, HT⟩ := hrel
        by_cases hx' : x < 257
        · have hxz : (x : Int) < 257 := by omega
          have hxd : decide ((x : Int) < 257) = true := decide_eq_true hxz
          have HL := Aside0.mk (length_calls x hx' wr)
          obtain ⟨lx, hlx⟩ : ∃ lx, lx = L x := ⟨_, rfl⟩
          rw [← hlx] at HL
          have HC := Aside0.mk hlx
          clear hlx
          by_cases hln : lx = n
          · subst hln
            have hi : i < 257 ∧ o i = x := by
              have hm := met x hx'
              rw [← HC.out, ← HI.out] at hm
              exact ⟨hm.2, hm.1⟩
            obtain ⟨hi, hoi⟩ := hi
            have HOI := Aside0.mk hoi
            clear hoi
            cases i with
            | zero =>
              have hq1 : ((pv 0).toList == ([] : List UInt8)) = true := by rw [show pv 0 = strOfNums [] from rfl, Lib.strOfNums_toList]; rfl
              have hb0 : pv 0 = (⟨#[]⟩ : ByteArray) := rfl
              rw [hb0]
              go_wp2_with (go_at_call 41; refine HL.out.mono ?_; rintro e w9 ⟨rfl, hb9⟩; have HT9 := Aside0.mk (HT.out.keep hb9); clear hb9)
              have hd0 : (⟨#[48, 48, 48, 48, 48]⟩ : ByteArray) = strOfNums (dig 5 0) := by decide +kernel
              go_loopg [2] 31 (fun g3 v2 wr => ∃ (m d : Nat), v2 = .string (strOfNums (dig m d)) ∧ m ≤ lx ∧ lx - m ≤ g3 ∧ Aside0 (d * 2 ^ (lx - m) = C (o 0)) ∧ Aside0 (Ct w.heap.size (w.heap.size + 1) 0 w wr))
              case atStart => exact ⟨5, 0, by first | rfl | rw [← hd0], by have := L_rng x hx'; rw [← HC.out] at this; omega, by omega, ⟨by have h0 := start0; rw [Nat.zero_mul]; exact h0.1.symm⟩, HT9⟩
              case round =>
                clear HT HT9
                obtain ⟨m, d, rfl, hm, hg3, HD, HT⟩ := hrel
                have hsz : (strOfNums (dig m d)).size = m := by rw [strOfNums_size, dig_length]
                by_cases hml : m < lx
                · have hmz : (m : Int) < (lx : Int) := by omega
                  have hmd : decide ((m : Int) < (lx : Int)) = true := decide_eq_true hmz
                  have hbig : ¬ (9223372036854775807 < m + 1) := by omega
                  have hpush := dig_push m d
                  go_wp2
                  go_roundg (lx - (m + 1))
                  case measure => omega
                  case rel => exact ⟨m + 1, d * 2, by first | rfl | rw [hpush], by omega, by omega, ⟨by rw [← HD.out, show lx - m = (lx - (m + 1)) + 1 by omega, Nat.pow_succ, Nat.mul_assoc, Nat.mul_comm 2]⟩, HT⟩
                · have hmz : ¬ (m : Int) < (lx : Int) := by omega
                  have hmd : decide ((m : Int) < (lx : Int)) = false := decide_eq_false hmz
                  obtain rfl : m = lx := by omega
                  have hdc : d = C (o 0) := by have := HD.out; rw [Nat.sub_self, Nat.pow_zero, Nat.mul_one] at this; exact this
                  have HDC := Aside0.mk hdc
                  clear hdc
                  obtain ⟨s0, hcell⟩ := HT.out.th x hx'
                  have hfr := HT.out.fr x
                  go_wp2
                  go_roundg (257 - (x + 1))
                  case measure => omega
                  case rel => exact ⟨x + 1, 0 + 1, (by rw [show pv (0 + 1) = strOfNums (dig (L (o (0))) (C (o (0)))) from rfl, HOI.out, ← HC.out, HDC.out, HOI.out]), by first | rfl | go_num, by omega, by omega, ⟨by rw [cnt_succ m x hx', if_pos HC.out.symm, ← Nat.add_assoc, ← HI.out]⟩, ⟨by
                    have hp := HT.out.put hi
                    rw [HOI.out] at hp
                    have hv : cv x = .string (strOfNums (dig m d)) := by unfold cv; rw [← HC.out, HDC.out, HOI.out]
                    rw [hv] at hp
                    exact hp⟩⟩
            | succ j =>
              have hq1 : ((pv (j + 1)).toList == ([] : List UInt8)) = false := by
                have hLj := L_rng (o j) (o_bd j (by omega))
                rw [show pv (j + 1) = strOfNums (dig (L (o j)) (C (o j))) from rfl, Lib.strOfNums_toList, beq_eq_false_iff_ne]
                intro e
                have e2 := congrArg List.length e
                simp [Lib.bytesOf, dig_length] at e2
                omega
              have HN := Aside0.mk (fun W => next_calls (L (o j)) (C (o j)) (by have := L_rng (o j) (o_bd j (by omega)); omega) W)
              have hpv : pv (j + 1) = strOfNums (dig (L (o j)) (C (o j))) := rfl
              rw [hpv] at hq1 ⊢
              go_wp2_with (first | (go_at_call 41; refine HL.out.mono ?_; rintro e w9 ⟨rfl, hb9⟩; have HT9 := Aside0.mk (HT.out.keep hb9); clear hb9) | (go_at_call 42; refine (HN.out _).mono ?_; rintro e w10 ⟨rfl, hb10⟩; have HT10 := Aside0.mk (HT9.out.keep hb10); clear HT9 hb10; have HT9 := HT10; clear HT10))
              go_loopg [2] 31 (fun g3 v2 wr => ∃ (m d : Nat), v2 = .string (strOfNums (dig m d)) ∧ m ≤ lx ∧ lx - m ≤ g3 ∧ Aside0 (d * 2 ^ (lx - m) = C (o (j + 1))) ∧ Aside0 (Ct w.heap.size (w.heap.size + 1) (j + 1) w wr))
              case atStart => exact ⟨L (o j), C (o j) + 1, rfl, by have hs := Gi.step j (by omega); rw [HOI.out, ← HC.out] at hs; exact hs.1, by have hs := L_rng x hx'; have h2 := L_rng (o j) (o_bd j (by omega)); rw [← HC.out] at hs; omega, ⟨by have hs := Gi.step j (by omega); rw [HC.out, ← HOI.out]; exact hs.2.symm⟩, HT9⟩
              case round =>
                clear HT HT9
                obtain ⟨m, d, rfl, hm, hg3, HD, HT⟩ := hrel
                have hsz : (strOfNums (dig m d)).size = m := by rw [strOfNums_size, dig_length]
                by_cases hml : m < lx
                · have hmz : (m : Int) < (lx : Int) := by omega
                  have hmd : decide ((m : Int) < (lx : Int)) = true := decide_eq_true hmz
                  have hbig : ¬ (9223372036854775807 < m + 1) := by omega
                  have hpush := dig_push m d
                  go_wp2
                  go_roundg (lx - (m + 1))
                  case measure => omega
                  case rel => exact ⟨m + 1, d * 2, by first | rfl | rw [hpush], by omega, by omega, ⟨by rw [← HD.out, show lx - m = (lx - (m + 1)) + 1 by omega, Nat.pow_succ, Nat.mul_assoc, Nat.mul_comm 2]⟩, HT⟩
                · have hmz : ¬ (m : Int) < (lx : Int) := by omega
                  have hmd : decide ((m : Int) < (lx : Int)) = false := decide_eq_false hmz
                  obtain rfl : m = lx := by omega
                  have hdc : d = C (o (j + 1)) := by have := HD.out; rw [Nat.sub_self, Nat.pow_zero, Nat.mul_one] at this; exact this
                  have HDC := Aside0.mk hdc
                  clear hdc
                  obtain ⟨s0, hcell⟩ := HT.out.th x hx'
                  have hfr := HT.out.fr x
                  go_wp2
                  go_roundg (257 - (x + 1))
                  case measure => omega
                  case rel => exact ⟨x + 1, (j + 1) + 1, (by rw [show pv ((j + 1) + 1) = strOfNums (dig (L (o ((j + 1)))) (C (o ((j + 1))))) from rfl, HOI.out, ← HC.out, HDC.out, HOI.out]), by first | rfl | go_num, by omega, by omega, ⟨by rw [cnt_succ m x hx', if_pos HC.out.symm, ← Nat.add_assoc, ← HI.out]⟩, ⟨by
                    have hp := HT.out.put hi
                    rw [HOI.out] at hp
                    have hv : cv x = .string (strOfNums (dig m d)) := by unfold cv; rw [← HC.out, HDC.out, HOI.out]
                    rw [hv] at hp
                    exact hp⟩⟩
          · have hl1 : ((lx : Int) == (n : Int)) = false := by rw [beq_eq_false_iff_ne]; omega
            have hl2 : ((lx : Int) != (n : Int)) = true := by rw [bne_iff_ne]; omega
            go_wp2_with (go_at_call 41; refine HL.out.mono ?_; rintro e w9 ⟨rfl, hb9⟩; have HT9 := Aside0.mk (HT.out.keep hb9); clear hb9)
            go_roundg (257 - (x + 1))
            case measure => omega
            case rel => exact ⟨x + 1, i, rfl, by first | rfl | go_num, by omega, by omega, ⟨by rw [cnt_succ n x hx', if_neg (by rw [← HC.out]; exact hln), HI.out]; rfl⟩, HT9⟩
        · have hxz : ¬ (x : Int) < 257 := by omega
          have hxd : decide ((x : Int) < 257) = false := decide_eq_false hxz
          obtain rfl : x = 257 := by omega
          have HS : Aside0 (i = S1 (n + 1)) := ⟨by rw [HI.out]; exact S1_step n (by omega)⟩
          go_wp2
          go_roundg (31 - (n + 1))
          case measure => omega
          case rel => exact ⟨n + 1, by rw [HS.out], by first | rfl | go_num, by omega, by omega, by omega, ⟨by rw [← HS.out]; exact HT.out⟩⟩
    · have hnz : ¬ (n : Int) ≤ 30 := by omega
      have hnd : decide ((n : Int) ≤ 30) = false := decide_eq_false hnz
      obtain rfl : n = 31 := by omega
      have hs : S1 31 = 257 := rfl
      rw [hs] at HT
      clear hs hnz
      go_upto_region 16 with fail
      refine wp_region_lit ?_
      refine wpList_load_mid rfl 41 (.tmp 1) rfl (w.heap.size + 1) 0 rfl codesV (.array 257 9) HT.out.whole Try.underlying41 rfl (by rw [codesV_len]; kernel_rfl) ?_
      refine wpList_store_mid rfl 41 (.tmp 0) (.tmp 30) rfl w.heap.size 0 codesV.toArray rfl rfl (by rw [size_codes]; exact HT.out.res) (by rw [size_codes]; kernel_rfl) codesV_one ?_
      have hrg := World.rangeAt_setCells_same _ w.heap.size 0 codesV (by rw [codesV_len]; exact HT.out.res)
      have hbel := below_sets (Nat.le_refl _) codesV 0 _ HT.out.bel
      go_wp2
      refine bodyPost_ret (v := .agg codesV.toArray) ?_ rfl ⟨rfl, hbel⟩
      exact results_cell_mid rfl _ _ w.heap.size codesV (.array 257 9) rfl hrg Try.underlying41 rfl (by rw [codesV_len]; kernel_rfl)
end Go.Proofs.Ythfildmldppihaa.Nz
