/- strings.ContainsAny at the three bytes that no value may have: its contract, for texts of at most 4096 bytes. -/
import Derived.Test.YthmdkkhcpdbdgaaGx
namespace Go.Proofs.Ythmdkkhcpdbdgaa.Gv
open Go.RowKit Go.Lib Go.Proofs.YthmdkkhcpdbdgaaW.PrintWords Go.Proofs.YthmdkkhcpdbdgaaW.PrintLast Go.Proofs.YthmdkkhcpdbdgaaW.PrintMore

/-- A byte of 128 or more, decoded: the bytes that go are all so, and the rune is a right one of 128 or more. -/
theorem decode_wide (s : ByteArray) (pos : Nat) (h : pos < s.size) (ha : 128 ≤ (s[pos]'h).toNat) :
    1 ≤ (Utf8.decode s pos).2 ∧ pos + (Utf8.decode s pos).2 ≤ s.size ∧ (∀ j, j < (Utf8.decode s pos).2 → 128 ≤ (s.get! (pos + j)).toNat) ∧ 128 ≤ (Utf8.decode s pos).1 ∧ Lib.validRune ((Utf8.decode s pos).1 : Int) = true := by
  have h0 : (s.get! (pos + 0)) = s[pos]'h := get_at s pos h
  have hn : ¬ (s[pos]'h).toNat < 128 := by omega
  have hb : ∀ k, (s.get! (pos + k)).toNat < 256 := fun k => (s.get! (pos + k)).toNat_lt
  have b0 := hb 0; have b1 := hb 1; have b2 := hb 2; have b3 := hb 3
  have hv : ∀ c : Nat, Utf8.valid c = true → Lib.validRune (c : Int) = true := fun c hc => by
    simp only [Utf8.valid, Bool.or_eq_true, Bool.and_eq_true, decide_eq_true_eq] at hc
    unfold Lib.validRune
    exact decide_eq_true (by omega)
  have one : ∀ j, j < 1 → 128 ≤ (s.get! (pos + j)).toNat := fun j hj => by obtain rfl : j = 0 := by omega
                                                                           rw [h0]; exact ha
  simp only [Utf8.decode, h0, hn, if_false]
  split
  · rename_i q
    simp only [Bool.and_eq_true, beq_iff_eq, decide_eq_true_eq] at q
    obtain ⟨q1, q2, q3⟩ := q
    split
    · rename_i q4
      refine ⟨by omega, by omega, fun j hj => ?_, by omega, hv _ (by simp only [Utf8.valid, Bool.or_eq_true, Bool.and_eq_true, decide_eq_true_eq]; omega)⟩
      have : j = 0 ∨ j = 1 := by omega
      rcases this with rfl | rfl
      · exact one 0 (by omega)
      · omega
    · exact ⟨by omega, by omega, one, by decide, by decide⟩
  · split
    · rename_i q
      simp only [Bool.and_eq_true, beq_iff_eq, decide_eq_true_eq] at q
      obtain ⟨⟨q1, q2, q3⟩, q5, q6⟩ := q
      split
      · rename_i q4
        simp only [Bool.and_eq_true, decide_eq_true_eq] at q4
        refine ⟨by omega, by omega, fun j hj => ?_, by omega, hv _ q4.2⟩
        have : j = 0 ∨ j = 1 ∨ j = 2 := by omega
        rcases this with rfl | rfl | rfl
        · exact one 0 (by omega)
        · omega
        · omega
      · exact ⟨by omega, by omega, one, by decide, by decide⟩
    · split
      · rename_i q
        simp only [Bool.and_eq_true, beq_iff_eq, decide_eq_true_eq] at q
        obtain ⟨⟨⟨q1, q2, q3⟩, q5, q6⟩, q7, q8⟩ := q
        split
        · rename_i q4
          simp only [Bool.and_eq_true, decide_eq_true_eq] at q4
          refine ⟨by omega, by omega, fun j hj => ?_, by omega, hv _ q4.2⟩
          have : j = 0 ∨ j = 1 ∨ j = 2 ∨ j = 3 := by omega
          rcases this with rfl | rfl | rfl | rfl
          · exact one 0 (by omega)
          · omega
          · omega
          · omega
        · exact ⟨by omega, by omega, one, by decide, by decide⟩
      · exact ⟨by omega, by omega, one, by decide, by decide⟩

theorem valid_of {c : Int} (h : Lib.validRune c = true) : Utf8.valid c = true := by
  unfold Lib.validRune at h
  have := of_decide_eq_true h
  simp only [Utf8.valid, Bool.or_eq_true, Bool.and_eq_true, decide_eq_true_eq]; omega
/-- A rune of 128 or more is not among the three. -/
theorem rune_high {c : Int} (h0 : 128 ≤ c) (hv : Lib.validRune c = true) (w : World) :
    Calls Try.prog 30 #[.string bad, .int .i32 c] w fun e w' => e = .returned (.int .i64 (-1)) ∧ Below w.heap.size w w' := by
  by_cases hc : c = 65533
  · subst hc; exact rune_bad w
  · have hne : (c == 65533) = false := beq_eq_false_iff_ne.2 hc
    rcases enc_high h0 (valid_of hv) with ⟨x, y, he, hy⟩ | ⟨x, y, z, he, hz⟩ | ⟨x, y, z, u, he⟩
    · exact rune_two h0 hne hv x y he hy w
    · exact rune_three h0 hne hv x y z he hz w
    · exact rune_four h0 hne hv x y z u he w
theorem get_data (s : ByteArray) (i : Nat) (h : i < s.size) : s.data.toList[i]? = some (s.get! i) := by
  have := get_at s i h
  rw [Nat.add_zero] at this
  rw [this]; exact Lib.data_getElem? s i h
theorem bad_list : bad.data.toList = [0, 10, 13] := rfl
theorem not_bad {x : UInt8} (h : 128 ≤ x.toNat) : bad.data.toList.contains x = false := by
  rw [bad_list]
  have h1 : x ≠ 0 := fun q => by subst q; revert h; decide
  have h2 : x ≠ 10 := fun q => by subst q; revert h; decide
  have h3 : x ≠ 13 := fun q => by subst q; revert h; decide
  simp [h1, h2, h3]
theorem noAny_many {s : ByteArray} {i : Nat} (h : Lib.NoAny s.data.toList bad.data.toList i) (n : Nat) (hn : i + n ≤ s.size) (hb : ∀ j, j < n → 128 ≤ (s.get! (i + j)).toNat) : Lib.NoAny s.data.toList bad.data.toList (i + n) := by
  induction n with
  | zero => exact h
  | succ n ih =>
    exact (ih (by omega) (fun j hj => hb j (by omega))).succ (get_data s (i + n) (by omega)) (not_bad (hb n (by omega)))

set_option maxHeartbeats 8000000 in
set_option maxRecDepth 1000000 in
theorem any_short (s : ByteArray) (w : World) (h8 : s.size ≤ 8) :
    Calls Try.prog 28 #[.string s, .string bad] w fun e w' => e = .returned (.int .i64 (Lib.indexAny s.data.toList bad.data.toList)) ∧ Below w.heap.size w w' := by
  have h8z : decide ((8 : Int) < (s.size : Int)) = false := decide_eq_false (by omega)
  have hbs : (bad.size : Int) = 3 := rfl
  have HBS : Hid ((bad.size : Int) = 3) := hbs
  have hn1 : ((bad.size : Int) == 1) = false := by decide
  have hn0 : bad.toList.isEmpty = false := by decide +kernel
  clear hbs
  have hbl : Hid (bad.data.toList = [0, 10, 13]) := rfl
  generalize hbd : bad = B at *
  have HBD : Hid (B = bad) := hbd.symm
  clear hbd
  go_enter Try.func28, Try.ntmps28
  go_wp2_with (go_at_call 31; refine (Try.strings_shouldUseASCIISet _ _).mono ?_; rintro e w' ⟨rfl, hw⟩; rw [hw, h8z])
  have hh0 : Hid ((w.iter s 0).heap[w.heap.size]? = some (.stringIter s 0)) := World.iter_heap w s 0
  have hb0 : Hid (Below w.heap.size w (w.iter s 0)) := below_iter w s 0
  go_loopg [9, 10] s.size (fun g _ _ wx => ∃ i : Nat, i ≤ s.size ∧ s.size - i ≤ g ∧ Hid (wx.heap[w.heap.size]? = some (.stringIter s i)) ∧ Hid (Below w.heap.size w wx) ∧ Hid (Lib.NoAny s.data.toList B.data.toList i))
  case atStart => exact ⟨0, by omega, by omega, hh0, hb0, Lib.NoAny.zero _ _⟩
  case round =>
    obtain ⟨i, hi, hg, HH, HW, HN⟩ := hrel
    clear hh0 hb0
    by_cases hlt : i < s.size
    · obtain ⟨g, rfl⟩ : ∃ g, gk = g + 1 := ⟨gk - 1, by omega⟩
      by_cases ha : (s[i]'hlt).toNat < 128
      · obtain ⟨x, hx⟩ : ∃ x : UInt8, s[i]'hlt = x := ⟨_, rfl⟩
        have hnx := fun ty => run_next_ascii_at (P := Try.prog) wr w.heap.size s i ty HH.out hlt ha
        rw [hx] at hnx ha
        have HX : Hid (s.data.toList[i]? = some x) := by rw [← hx]; exact Lib.data_getElem? s i hlt
        clear hx
        have HH' : Hid ((wr.iterAt w.heap.size s (i + 1)).heap[w.heap.size]? = some (.stringIter s (i + 1))) := iterAt_heap wr w.heap.size s i (i + 1) HH.out
        have HW' : Hid (Below w.heap.size w (wr.iterAt w.heap.size s (i + 1))) := below_iterAt HW.out (Nat.le_refl _) s (i + 1)
        have hback : ((x.toNat : Int)).toNat.toUInt8 = x := by simp
        have hcon := Lib.contains_iff_indexByte B.data.toList x
        clear HH HW
        generalize wr.iterAt w.heap.size s (i + 1) = w2 at hnx HH' HW'
        cases hin : B.data.toList.contains x
        · rw [hin] at hcon
          have hl : ¬ ((0 : Int) ≤ Lib.indexByte B.data.toList x) := of_decide_eq_false hcon.symm
          clear hcon
          go_wp2_with (go_at_call 30; refine (Try.strings_IndexRune_ascii _ _ _ (by omega) (by omega)).mono ?_; rintro e w' ⟨rfl, hw⟩; rw [hw, hback])
          go_roundg g
          case measure => omega
          case rel => exact ⟨i + 1, by omega, by omega, HH', HW', HN.out.succ HX.out hin⟩
        · rw [hin] at hcon
          have hl : (0 : Int) ≤ Lib.indexByte B.data.toList x := of_decide_eq_true hcon.symm
          clear hcon
          go_wp2_with (go_at_call 30; refine (Try.strings_IndexRune_ascii _ _ _ (by omega) (by omega)).mono ?_; rintro e w' ⟨rfl, hw⟩; rw [hw, hback])
          go_ret
          exact ⟨by rw [Lib.indexAny_hit HN.out HX.out hin]; rfl, HW'.out⟩
      · obtain ⟨d1, d2, d3, d4, d5⟩ := decode_wide s i hlt (by omega)
        have hnx := fun ty => run_next_any_at (P := Try.prog) wr w.heap.size s i ty HH.out hlt
        have HA : Hid (Lib.NoAny s.data.toList B.data.toList (i + (Utf8.decode s i).2)) := by rw [HBD.out] at HN ⊢; exact noAny_many HN.out _ d2 d3
        have HH' := iterAt_heap wr w.heap.size s i (i + (Utf8.decode s i).2) HH.out
        have HW' : Hid (Below w.heap.size w (wr.iterAt w.heap.size s (i + (Utf8.decode s i).2))) := below_iterAt HW.out (Nat.le_refl _) s _
        clear HH HW HN d3 ha
        generalize wr.iterAt w.heap.size s (i + (Utf8.decode s i).2) = w2 at hnx HH' HW'
        generalize (Utf8.decode s i).2 = n at *
        generalize (Utf8.decode s i).1 = c at *
        have hr := rune_high (c := (c : Int)) (by omega) d5 w2
        rw [← HBD.out] at hr
        have HH2 : Hid (w2.heap[w.heap.size]? = some (.stringIter s (i + n))) := HH'
        clear d5 HH'
        go_wp2_with (go_at_call 30; refine hr.mono ?_; clear hr; rintro e w' ⟨rfl, hb⟩)
        have hlt2 : w.heap.size < w2.heap.size := (Array.getElem?_eq_some_iff.1 HH2.out).1
        go_roundg g
        case measure => omega
        case rel => exact ⟨i + n, by omega, by omega, (hb.block _ hlt2).trans HH2.out, HW'.out.trans (hb.mono (by omega)), HA⟩
    · have hnx := fun ty => run_next_end_at (P := Try.prog) wr w.heap.size s i ty HH.out hlt
      go_wp2
      go_ret
      exact ⟨by rw [Lib.indexAny_none (by rw [← Lib.size_eq, show s.size = i by omega]; exact HN.out)]; rfl, HW.out⟩

theorem zero52 (w : World) : (zeroValue 52).run Try.prog w = .ok (.agg (Array.replicate 256 (.bool false))) w := by kernel_rfl
theorem any_long (s : ByteArray) (w : World) (h8 : 8 < s.size) (hs : s.size ≤ 4096) :
    Calls Try.prog 28 #[.string s, .string bad] w fun e w' => e = .returned (.int .i64 (Lib.indexAny s.data.toList bad.data.toList)) ∧ Below w.heap.size w w' :=
  (Try.strings_IndexAny_long zero52 s bad w (by decide) h8 (by omega) (by decide) (fun j b hb => by
    rw [bad_list] at hb
    have hj : j < 3 := by rw [List.getElem?_eq_some_iff] at hb; exact hb.1
    have : j = 0 ∨ j = 1 ∨ j = 2 := by omega
    rcases this with rfl | rfl | rfl <;> (simp at hb; subst hb; decide))).mono fun e w' ⟨h1, h2⟩ => ⟨h1, by rw [h2]; exact ((Below.refl _ _).alloc (Nat.le_refl _) _).alloc (by simp) _⟩
theorem any_all (s : ByteArray) (w : World) (hs : s.size ≤ 4096) :
    Calls Try.prog 28 #[.string s, .string bad] w fun e w' => e = .returned (.int .i64 (Lib.indexAny s.data.toList bad.data.toList)) ∧ Below w.heap.size w w' := by
  by_cases h : s.size ≤ 8
  · exact any_short s w h
  · exact any_long s w (by omega) hs

def strings_ContainsAny.f (a0 a1 : ByteArray) : Option Bool := if a1 = bad then (if a0.size ≤ 4096 then some (Lib.containsAny a0.data.toList bad.data.toList) else none) else none
set_option maxHeartbeats 2000000 in
set_option maxRecDepth 100000 in
theorem strings_ContainsAny.calls (a0 a1 : ByteArray) (r : Bool) (w : World) (h : strings_ContainsAny.f a0 a1 = some r) :
    Calls Try.prog 23 #[.string a0, .string a1] w fun e w' => e = .returned (.bool r) ∧ Below w.heap.size w w' := by
  unfold strings_ContainsAny.f at h
  split at h
  · rename_i hb
    subst hb
    split at h
    · rename_i hs
      obtain rfl := Option.some.inj h
      clear h
      have c := any_all a0 w hs
      have HC : Hid (Lib.containsAny a0.data.toList bad.data.toList = decide (0 ≤ Lib.indexAny a0.data.toList bad.data.toList)) := rfl
      generalize Lib.containsAny a0.data.toList bad.data.toList = q at HC
      go_enter Try.func23, Try.ntmps23
      go_wp2_with (go_at_call 28; refine c.mono ?_; rintro e w' ⟨rfl, hw⟩)
      go_ret
      exact ⟨by rw [HC.out]; rfl, hw⟩
    · cases h
  · cases h
end Go.Proofs.Ythmdkkhcpdbdgaa.Gv
