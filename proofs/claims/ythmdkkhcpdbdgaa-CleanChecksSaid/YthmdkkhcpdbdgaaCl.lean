/- The clean functions in plain lists and bytes: what each comes to; conditions as each statement says. -/
import Derived.Test.YthmdkkhcpdbdgaaQ3
import Derived.Test.YthmdkkhcpdbdgaaQ4
namespace Go.Proofs.Ythmdkkhcpdbdgaa.Cl
open Go.RowKit Go.Proofs.Ythmdkkhcpdbdgaa.Gv Go.Proofs.Ythmdkkhcpdbdgaa.Q Go.Proofs.YthmdkkhcpdbdgaaW.PrintWords Go.Proofs.YthmdkkhcpdbdgaaW.PrintLast Go.Proofs.YthmdkkhcpdbdgaaW.PrintMore

theorem w64 {x : Int} (h0 : -9223372036854775808 ≤ x) (h1 : x < 9223372036854775808) : wrap64 x = x := by unfold wrap64; omega
theorem bt_in {s : ByteArray} {i : Nat} (h : i < s.size) : bt s i = ((s[i]'h).toNat : Int) := by
  unfold bt; rw [dif_pos (show ((i : Int)).toNat < s.size by omega)]; rfl
theorem bt_bd (s : ByteArray) (i : Int) : 0 ≤ bt s i ∧ bt s i ≤ 255 := by
  unfold bt; split
  · have := (s[i.toNat]).toNat_lt; omega
  · omega

/-! ### Names -/
theorem has_all : ∀ c : Fin 256, clean_has.f (c.val : Int) = some (okc (c.val : Int)) := by decide +kernel
theorem has_ok {c : Int} (h : 0 ≤ c ∧ c ≤ 255) : clean_has.f c = some (okc c) := by
  have := has_all ⟨c.toNat, by omega⟩
  simp only at this
  rw [Int.toNat_of_nonneg h.1] at this
  exact this
theorem name_go {s : ByteArray} (hs : s.size ≤ 140737488351232) (d : Nat) : ∀ (i k : Nat), i + d = s.size → d < k → okUpto s i = true → clean_Name.l0 k s (s.size : Int) i = some (nameB s) := by
  induction d with
  | zero =>
    intro i k hi hk ho
    obtain ⟨k, rfl⟩ : ∃ m, k = m + 1 := ⟨k - 1, by omega⟩
    rw [clean_Name.l0, if_neg (by omega)]
    unfold nameB
    rw [show s.size = i by omega, ho, Bool.and_true]
    by_cases h : 1 ≤ i
    · rw [if_pos (by omega), decide_eq_true h, Bool.true_and]
      congr 1
      exact decide_eq_decide.2 (by omega)
    · rw [if_neg (by omega), decide_eq_false h, Bool.false_and]
  | succ d ih =>
    intro i k hi hk ho
    obtain ⟨k, rfl⟩ : ∃ m, k = m + 1 := ⟨k - 1, by omega⟩
    rw [clean_Name.l0, if_pos (by omega), if_pos (by omega), if_pos (by omega), has_ok (bt_bd _ _)]; simp only [Option.bind_some]
    have hu := okUpto_succ s i (by omega)
    rw [ho, Bool.true_and, ← bt_in (show i < s.size by omega)] at hu
    cases hc : okc (bt s i)
    · rw [if_neg (by decide)]
      rw [hc] at hu
      have := okUpto_mono s (show i + 1 ≤ s.size by omega) hu
      unfold nameB; rw [this, Bool.and_false]
    · rw [if_pos rfl, w64 (by omega) (by omega)]
      exact ih (i + 1) k (by omega) (by omega) (by rw [hu, hc])
theorem name_ok {s : ByteArray} (hs : s.size ≤ 140737488351232) {k : Nat} (hk : s.size < k) : clean_Name.f k s = some (nameB s) := by
  unfold clean_Name.f
  exact name_go hs s.size 0 k (by omega) hk rfl
theorem refName_ok {s : ByteArray} (hs : s.size ≤ 140737488351232) : squintref21_Name.f s = some (nameB s) := by
  unfold squintref21_Name.f; rw [if_pos hs]

/-! ### Values -/
def badI (c : Int) : Bool := c == 0 || c == 10 || c == 13
def blankI (c : Int) : Bool := c == 32 || c == 9
def okv (s : ByteArray) (j : Nat) : Bool := !badI (bt s j) && !((j == 0 || j + 1 == s.size) && blankI (bt s j))
def okvUpto (s : ByteArray) (k : Nat) : Bool := (List.range k).all (okv s)
theorem okvUpto_succ (s : ByteArray) (k : Nat) : okvUpto s (k + 1) = (okvUpto s k && okv s k) := by
  unfold okvUpto; rw [List.range_succ, List.all_append]; simp
theorem okvUpto_mono (s : ByteArray) {k j : Nat} (h : k ≤ j) (hf : okvUpto s k = false) : okvUpto s j = false := by
  induction j with
  | zero => obtain rfl : k = 0 := by omega
            exact hf
  | succ j ih =>
    by_cases e : k = j + 1
    · subst e; exact hf
    · rw [okvUpto_succ, ih (by omega)]; rfl
def valueB (s : ByteArray) : Bool := decide (s.size ≤ 4096) && okvUpto s s.size
theorem edge_all : ∀ c : Fin 256, decide (Lib.indexByte [32, 9] ((c.val : Int)).toNat.toUInt8 ≥ 0) = blankI (c.val : Int) := by decide +kernel
theorem edge_ok {s : ByteArray} {i : Int} (h0 : 0 ≤ i) (h1 : i < s.size) : clean_edge.f s i = some (blankI (bt s i)) := by
  have hb := bt_bd s i
  have := edge_all ⟨(bt s i).toNat, by omega⟩
  simp only at this
  rw [Int.toNat_of_nonneg hb.1] at this
  unfold clean_edge.f strings_IndexByte.f
  rw [if_pos h0, if_pos h1]; simp only [Option.bind_some]
  exact congrArg some this
theorem bad_all : ∀ c : Fin 256, ([0, 10, 13] : List UInt8).contains (UInt8.ofNat c.val) = badI (c.val : Int) := by decide +kernel
theorem bad_iff (c : UInt8) : bad.data.toList.contains c = badI (c.toNat : Int) := by
  have := bad_all ⟨c.toNat, c.toNat_lt⟩
  simp only [UInt8.ofNat_toNat] at this
  rw [bad_list]; exact this
/-- Among the bytes there is a wrong one. -/
theorem contains_any (s : ByteArray) : Lib.containsAny s.data.toList bad.data.toList = (List.range s.size).any fun j => badI (bt s j) := by
  have key : ∀ l : List UInt8, decide (0 ≤ Lib.indexAny l bad.data.toList) = l.any fun c => badI (c.toNat : Int) := by
    intro l
    induction l with
    | nil => rfl
    | cons c l ih =>
      have hg := Lib.indexAny_ge bad.data.toList l
      rw [List.any_cons, ← ih, ← bad_iff, Lib.indexAny]
      cases bad.data.toList.contains c
      · rw [if_neg (by decide), Bool.false_or]
        by_cases e : Lib.indexAny l bad.data.toList = -1
        · rw [if_pos (beq_iff_eq.2 e), e]
        · rw [if_neg (fun q => e (beq_iff_eq.1 q))]
          exact decide_eq_decide.2 (by omega)
      · rw [if_pos rfl]; rfl
  unfold Lib.containsAny
  rw [key]
  have e : s.data.toList = (List.range s.size).map fun j => s.data.toList.getD j 0 := by
    apply List.ext_getElem
    · rw [List.length_map, List.length_range]; exact (Lib.size_eq s).symm
    · intro j h1 h2
      rw [List.getElem_map, List.getElem_range, List.getD_eq_getElem?_getD, List.getElem?_eq_getElem h1]; rfl
  conv => lhs; rw [e]
  rw [List.any_map]
  have : ∀ j, j ∈ List.range s.size → ((fun c : UInt8 => badI (c.toNat : Int)) ∘ fun j => s.data.toList.getD j 0) j = badI (bt s j) := fun j hj => by
    have hj' : j < s.size := List.mem_range.1 hj
    have hl : j < s.data.toList.length := by rw [← Lib.size_eq]; exact hj'
    show badI (((s.data.toList.getD j 0).toNat : Nat) : Int) = _
    rw [bt_in hj', List.getD_eq_getElem?_getD, List.getElem?_eq_getElem hl]; rfl
  rw [Bool.eq_iff_iff, List.any_eq_true, List.any_eq_true]
  exact ⟨fun ⟨j, h, q⟩ => ⟨j, h, by rw [← this j h]; exact q⟩, fun ⟨j, h, q⟩ => ⟨j, h, by rw [this j h]; exact q⟩⟩
/-- A value is right just if no byte is wrong and neither end is blank. -/
theorem value_parts {s : ByteArray} (h : 0 < s.size) : okvUpto s s.size = (!((List.range s.size).any fun j => badI (bt s j)) && (!blankI (bt s 0) && !blankI (bt s ((s.size - 1 : Nat) : Int)))) := by
  rw [Bool.eq_iff_iff]
  simp only [okvUpto, List.all_eq_true, List.mem_range, okv, Bool.and_eq_true, Bool.not_eq_true', Bool.and_eq_false_iff, Bool.or_eq_false_iff, beq_eq_false_iff_ne, List.any_eq_false]
  constructor
  · intro H
    refine ⟨fun j hj => by rw [(H j hj).1]; decide, ?_, ?_⟩
    · rcases (H 0 h).2 with q | q
      · exact absurd rfl q.1
      · exact q
    · rcases (H (s.size - 1) (by omega)).2 with q | q
      · exact absurd (by omega) q.2
      · exact q
  · rintro ⟨H, h0, h1⟩ j hj
    refine ⟨by have := H j hj; revert this; cases badI (bt s j) <;> decide, ?_⟩
    by_cases e : j = 0
    · subst e; exact .inr h0
    · by_cases e' : j + 1 = s.size
      · refine .inr ?_
        rw [show ((s.size - 1 : Nat) : Int) = (j : Int) by omega] at h1; exact h1
      · exact .inl ⟨e, e'⟩
theorem toList_nil (s : ByteArray) : s.toList = ([] : List UInt8) ↔ s.size = 0 := by
  rw [Lib.toList_data, Lib.size_eq]; exact List.length_eq_zero_iff.symm
theorem value_ok (s : ByteArray) {k : Nat} (hk : 1 ≤ k) : clean_Value.f k s = some (valueB s) := by
  obtain ⟨k, rfl⟩ : ∃ m, k = m + 1 := ⟨k - 1, by omega⟩
  unfold clean_Value.f
  by_cases h : s.size ≤ 4096
  · rw [if_neg (by omega)]
    have hc : strings_ContainsAny.f s ⟨#[0, 10, 13]⟩ = some (Lib.containsAny s.data.toList bad.data.toList) := by
      unfold strings_ContainsAny.f; rw [if_pos (show (⟨#[0, 10, 13]⟩ : ByteArray) = bad from rfl), if_pos h]
    rw [hc]; simp only [Option.bind_some]
    rw [contains_any, clean_Value.j0]
    unfold valueB
    rw [decide_eq_true h, Bool.true_and]
    by_cases h0 : s.size = 0
    · rw [h0, if_neg (by simp), if_pos ((toList_nil s).2 h0)]; rfl
    · rw [value_parts (by omega)]
      cases (List.range s.size).any fun j => badI (bt s j)
      · rw [if_neg (by decide), if_neg (fun q => h0 ((toList_nil s).1 q)), edge_ok (Int.le_refl _) (by omega)]; simp only [Option.bind_some]
        cases blankI (bt s 0)
        · rw [if_neg (by decide), w64 (by omega) (by omega), edge_ok (by omega) (by omega)]; simp only [Option.bind_some]
          rw [show ((s.size - 1 : Nat) : Int) = (s.size : Int) - 1 by omega]; rfl
        · rw [if_pos rfl]; rfl
      · rw [if_pos rfl]; rfl
  · rw [if_pos (by omega), clean_Value.j0, if_pos rfl]
    unfold valueB; rw [decide_eq_false h]; rfl
theorem refValue_go {s : ByteArray} (hs : s.size ≤ 4096) (d : Nat) : ∀ (i k : Nat), i + d = s.size → 2 * d < k → okvUpto s i = true → squintref21_Value.l0 k s i = some (okvUpto s s.size) := by
  induction d with
  | zero =>
    intro i k hi hk ho
    obtain ⟨k, rfl⟩ : ∃ m, k = m + 1 := ⟨k - 1, by omega⟩
    rw [squintref21_Value.l0, if_neg (by omega), show s.size = i by omega, ho]
  | succ d ih =>
    intro i k hi hk ho
    obtain ⟨k, rfl⟩ : ∃ m, k = m + 2 := ⟨k - 2, by omega⟩
    have hu := okvUpto_succ s i
    rw [ho, Bool.true_and] at hu
    have no : okv s i = false → okvUpto s s.size = false := fun q => okvUpto_mono s (show i + 1 ≤ s.size by omega) (by rw [hu, q])
    have yes : okv s i = true → squintref21_Value.l0 k s (wrap64 ((i : Int) + 1)) = some (okvUpto s s.size) := fun q => by
      rw [w64 (by omega) (by omega)]
      exact ih (i + 1) k (by omega) (by omega) (by rw [hu, q])
    have wrong : badI (bt s i) = true → squintref21_Value.j1 (k + 1) s i (bt s i) true = some (okvUpto s s.size) := fun q => by
      rw [squintref21_Value.j1, if_pos rfl, no (by unfold okv; rw [q]; rfl)]
    rw [squintref21_Value.l0, if_pos (by omega), if_pos (by omega)]
    by_cases h1 : bt s i = 0
    · rw [if_pos h1, wrong (by unfold badI; rw [h1]; rfl)]
    rw [if_neg h1]
    by_cases h2 : bt s i = 10
    · rw [if_pos h2, wrong (by unfold badI; rw [h2]; rfl)]
    rw [if_neg h2]
    by_cases h3 : bt s i = 13
    · rw [show (bt s i == 13) = true from beq_iff_eq.2 h3, wrong (by unfold badI; rw [h3]; rfl)]
    have hb : badI (bt s i) = false := by
      unfold badI; rw [beq_eq_false_iff_ne.2 h1, beq_eq_false_iff_ne.2 h2, beq_eq_false_iff_ne.2 h3]; rfl
    rw [beq_eq_false_iff_ne.2 h3, squintref21_Value.j1, if_neg (by decide), w64 (x := (s.size : Int) - 1) (by omega) (by omega)]
    have ends : (i = 0 ∨ i + 1 = s.size) → (if bt s i = 32 then some false else if bt s i = 9 then some false else squintref21_Value.l0 k s (wrap64 ((i : Int) + 1))) = some (okvUpto s s.size) := fun q => by
      have he : (i == 0 || i + 1 == s.size) = true := by
        rcases q with q | q
        · rw [beq_iff_eq.2 q]; rfl
        · rw [beq_iff_eq.2 q]; simp
      by_cases h4 : bt s i = 32
      · rw [if_pos h4, no (by unfold okv blankI; rw [hb, he, h4]; rfl)]
      rw [if_neg h4]
      by_cases h5 : bt s i = 9
      · rw [if_pos h5, no (by unfold okv blankI; rw [hb, he, h5]; rfl)]
      rw [if_neg h5, yes (by unfold okv blankI; rw [hb, he, beq_eq_false_iff_ne.2 h4, beq_eq_false_iff_ne.2 h5]; rfl)]
    by_cases h6 : i = 0
    · rw [if_pos (by omega)]; exact ends (.inl h6)
    rw [if_neg (by omega)]
    by_cases h7 : i + 1 = s.size
    · rw [if_pos (by omega)]; exact ends (.inr h7)
    rw [if_neg (by omega), yes (by unfold okv; rw [hb, beq_eq_false_iff_ne.2 h6, beq_eq_false_iff_ne.2 h7]; rfl)]
theorem refValue_ok (s : ByteArray) {k : Nat} (hk : 2 * s.size < k) : squintref21_Value.f k s = some (valueB s) := by
  unfold squintref21_Value.f valueB
  by_cases h : s.size ≤ 4096
  · rw [if_neg (by omega), decide_eq_true h, Bool.true_and]
    exact refValue_go h s.size 0 k (by omega) hk rfl
  · rw [if_pos (by omega), decide_eq_false h]; rfl

/-! ### Hops, sensitive ones -/
theorem hop_ok (a b : ByteArray) {k : Nat} (hk : 1 ≤ k) : clean_Hop.f k a b = some (hopB a b) := by
  obtain ⟨k, rfl⟩ : ∃ m, k = m + 1 := ⟨k - 1, by omega⟩
  have yes : clean_Hop.j0 (k + 1) a true a b = some true := by rw [clean_Hop.j0, if_pos rfl]
  have t0 : ∀ l : List UInt8, a.toList = l → (l == a.toList) = true := fun l h => beq_iff_eq.2 h.symm
  have f0 : ∀ l : List UInt8, ¬ a.toList = l → (l == a.toList) = false := fun l h => beq_eq_false_iff_ne.2 fun q => h q.symm
  have e : hopB a b = (((([99, 111, 110, 110, 101, 99, 116, 105, 111, 110] : List UInt8) == a.toList) || (([107, 101, 101, 112, 45, 97, 108, 105, 118, 101] : List UInt8) == a.toList) || (([112, 114, 111, 120, 121, 45, 99, 111, 110, 110, 101, 99, 116, 105, 111, 110] : List UInt8) == a.toList) || (([116, 114, 97, 110, 115, 102, 101, 114, 45, 101, 110, 99, 111, 100, 105, 110, 103] : List UInt8) == a.toList) || (([117, 112, 103, 114, 97, 100, 101] : List UInt8) == a.toList)) || ((a.toList == ([116, 101] : List UInt8)) && !(b.toList == ([116, 114, 97, 105, 108, 101, 114, 115] : List UInt8)))) := by
    unfold hopB oneB hops
    simp only [List.any_cons, List.any_nil, Bool.or_false, Lib.toList_data, List.isEmpty_cons, Bool.not_false, Bool.true_and, Bool.or_assoc]
  rw [e]
  unfold clean_Hop.f
  split
  · rename_i h; rw [t0 _ h, show (a.toList == _) = true from beq_iff_eq.2 h, yes]; rfl
  · rename_i h1; rw [f0 _ h1]
    split
    · rename_i h; rw [t0 _ h, show (a.toList == _) = true from beq_iff_eq.2 h, yes]; simp
    · rename_i h2; rw [f0 _ h2]
      split
      · rename_i h; rw [t0 _ h, show (a.toList == _) = true from beq_iff_eq.2 h, yes]; simp
      · rename_i h3; rw [f0 _ h3]
        split
        · rename_i h; rw [t0 _ h, show (a.toList == _) = true from beq_iff_eq.2 h, yes]; simp
        · rename_i h4; rw [f0 _ h4]
          by_cases h5 : a.toList = ([117, 112, 103, 114, 97, 100, 101] : List UInt8)
          · rw [t0 _ h5, show (a.toList == _) = true from beq_iff_eq.2 h5, yes]; simp
          · rw [f0 _ h5, show (a.toList == ([117, 112, 103, 114, 97, 100, 101] : List UInt8)) = false from beq_eq_false_iff_ne.2 h5, clean_Hop.j0, if_neg (by decide)]
            by_cases h6 : a.toList = ([116, 101] : List UInt8)
            · rw [if_pos h6, show (a.toList == ([116, 101] : List UInt8)) = true from beq_iff_eq.2 h6]; rfl
            · rw [if_neg h6, show (a.toList == ([116, 101] : List UInt8)) = false from beq_eq_false_iff_ne.2 h6]; rfl
theorem refHop_ok (a b : ByteArray) : squintref21_Hop.f a b = some (hopB a b) := rfl
def sensB (a : ByteArray) : Bool := oneB a sens
theorem sens_ok (a : ByteArray) : clean_Sensitive.f a = some (sensB a) := by
  have t0 : ∀ l : List UInt8, a.toList = l → (l == a.toList) = true := fun l h => beq_iff_eq.2 h.symm
  have f0 : ∀ l : List UInt8, ¬ a.toList = l → (l == a.toList) = false := fun l h => beq_eq_false_iff_ne.2 fun q => h q.symm
  have e : sensB a = ((([97, 117, 116, 104, 111, 114, 105, 122, 97, 116, 105, 111, 110] : List UInt8) == a.toList) || (([112, 114, 111, 120, 121, 45, 97, 117, 116, 104, 111, 114, 105, 122, 97, 116, 105, 111, 110] : List UInt8) == a.toList) || (([99, 111, 111, 107, 105, 101] : List UInt8) == a.toList) || (([115, 101, 116, 45, 99, 111, 111, 107, 105, 101] : List UInt8) == a.toList)) := by
    unfold sensB oneB sens
    simp only [List.any_cons, List.any_nil, Bool.or_false, Lib.toList_data, List.isEmpty_cons, List.isEmpty_nil, Bool.not_false, Bool.not_true, Bool.true_and, Bool.false_and, Bool.or_assoc]
  rw [e]
  unfold clean_Sensitive.f
  split
  · rename_i h; rw [t0 _ h]; rfl
  · rename_i h1; rw [f0 _ h1]
    split
    · rename_i h; rw [t0 _ h]; rfl
    · rename_i h2; rw [f0 _ h2]
      split
      · rename_i h; rw [t0 _ h]; rfl
      · rename_i h3; rw [f0 _ h3]
        split
        · rename_i h; rw [t0 _ h]; rfl
        · rename_i h4; rw [f0 _ h4]; rfl
theorem refSens_ok (a : ByteArray) : squintref21_Sensitive.f a = some (sensB a) := rfl
end Go.Proofs.Ythmdkkhcpdbdgaa.Cl
