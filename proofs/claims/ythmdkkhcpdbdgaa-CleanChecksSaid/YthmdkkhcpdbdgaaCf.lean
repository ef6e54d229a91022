/- Fields and lines of the clean layer in plain lists: what cleaning and checking come to; conditions as each statement says. -/
import Derived.Test.YthmdkkhcpdbdgaaCl
import Derived.Test.YthmdkkhcpdbdgaaQ6
import Derived.Test.YthmdkkhcpdbdgaaQ8
import Derived.Test.YthmdkkhcpdbdgaaQ10
namespace Go.Proofs.Ythmdkkhcpdbdgaa.Cl
open Go.RowKit Go.Proofs.Ythmdkkhcpdbdgaa.Gv Go.Proofs.Ythmdkkhcpdbdgaa.Q Go.Proofs.YthmdkkhcpdbdgaaW.PrintWords Go.Proofs.YthmdkkhcpdbdgaaW.PrintLast Go.Proofs.YthmdkkhcpdbdgaaW.PrintMore

theorem rd23_drop {l : List S23} {i : Nat} (h : i < l.length) : l.drop i = rd_T23 l i :: l.drop (i + 1) := by
  rw [List.drop_eq_getElem_cons h]; congr 1
  unfold rd_T23; rw [show ((i : Int)).toNat = i by omega, List.getD_eq_getElem?_getD, List.getElem?_eq_getElem h]; rfl
theorem rd36_drop {l : List S36} {i : Nat} (h : i < l.length) : l.drop i = rd_T36 l i :: l.drop (i + 1) := by
  rw [List.drop_eq_getElem_cons h]; congr 1
  unfold rd_T36; rw [show ((i : Int)).toNat = i by omega, List.getD_eq_getElem?_getD, List.getElem?_eq_getElem h]; rfl
theorem rd23_mem {l : List S23} {i : Nat} (h : i < l.length) : rd_T23 l i ∈ l := by
  unfold rd_T23; rw [show ((i : Int)).toNat = i by omega, List.getD_eq_getElem?_getD, List.getElem?_eq_getElem h]; exact List.getElem_mem h
theorem rd36_mem {l : List S36} {i : Nat} (h : i < l.length) : rd_T36 l i ∈ l := by
  unfold rd_T36; rw [show ((i : Int)).toNat = i by omega, List.getD_eq_getElem?_getD, List.getElem?_eq_getElem h]; exact List.getElem_mem h

/-- A field's fault: none, a wrong name, a wrong value. -/
def errF (f : S23) : Int := if nameB f.f0 = true then (if valueB f.f1 = true then 0 else 31) else 30
/-- The first fault. -/
def errL : List S23 → Int
  | [] => 0
  | f :: l => if errF f = 0 then errL l else errF f
def lineOf (f : S23) : S36 := ⟨f, sensB f.f0⟩
/-- What may be sent. -/
def sent (l : List S23) : List S36 := (l.filter fun f => !hopB f.f0 f.f1).map lineOf
def cleaned (l : List S23) : List S36 × Int := if errL l = 0 then (sent l, 0) else ([], errL l)
theorem errF_cases (f : S23) : errF f = 0 ∨ errF f = 30 ∨ errF f = 31 := by unfold errF; split <;> (try split) <;> simp
theorem errL_append (a b : List S23) : errL (a ++ b) = if errL a = 0 then errL b else errL a := by
  induction a with
  | nil => rfl
  | cons f a ih =>
    rw [List.cons_append, errL, errL, ih]
    by_cases h : errF f = 0
    · rw [if_pos h, if_pos h]
    · rw [if_neg h, if_neg h, if_neg h]
theorem sent_append (a b : List S23) : sent (a ++ b) = sent a ++ sent b := by unfold sent; rw [List.filter_append, List.map_append]
theorem sent_length (l : List S23) : (sent l).length ≤ l.length := by unfold sent; rw [List.length_map]; exact List.length_filter_le _ _
/-- Texts of at most M bytes. -/
def Short (M : Nat) (l : List S23) : Prop := ∀ f ∈ l, f.f0.size ≤ M ∧ f.f1.size ≤ M
theorem wrong_ok {f : S23} {M k : Nat} (h : f.f0.size ≤ M ∧ f.f1.size ≤ M) (hM : M ≤ 140737488351232) (hk : M < k) : clean_wrong.f k f.f0 f.f1 = some (errF f) := by
  unfold clean_wrong.f errF
  rw [name_ok (by omega) (by omega)]; simp only [Option.bind_some]
  cases nameB f.f0
  · rw [if_neg (by decide), if_neg (by decide)]
  · rw [if_pos rfl, if_pos rfl, value_ok _ (by omega)]; simp only [Option.bind_some]
    cases valueB f.f1
    · rw [if_neg (by decide), if_neg (by decide)]
    · rw [if_pos rfl, if_pos rfl]
theorem fields_go {l : List S23} {M : Nat} (hl : Short M l) (hM : M ≤ 140737488351232) (hn : l.length ≤ 1000000) (d : Nat) : ∀ (i k : Nat) (acc : List S36), i + d = l.length → M + d < k → acc.length ≤ i →
    clean_Fields.l0 k acc l (l.length : Int) i = some (if errL (l.drop i) = 0 then (acc ++ sent (l.drop i), 0) else ([], errL (l.drop i))) := by
  induction d with
  | zero =>
    intro i k acc hi hk ha
    obtain ⟨k, rfl⟩ : ∃ m, k = m + 1 := ⟨k - 1, by omega⟩
    rw [clean_Fields.l0, if_neg (by omega), List.drop_of_length_le (by omega)]
    simp [errL, sent]
  | succ d ih =>
    intro i k acc hi hk ha
    obtain ⟨k, rfl⟩ : ∃ m, k = m + 1 := ⟨k - 1, by omega⟩
    have hil : i < l.length := by omega
    have hf := hl _ (rd23_mem hil)
    rw [clean_Fields.l0, if_pos (by omega), if_pos (by omega), if_pos (by omega), wrong_ok hf hM (by omega)]; simp only [Option.bind_some]
    rw [rd23_drop hil, errL, w64 (x := (i : Int) + 1) (by omega) (by omega)]
    by_cases he : errF (rd_T23 l i) = 0
    · rw [if_pos he, if_pos he, hop_ok _ _ (by omega)]; simp only [Option.bind_some]
      have hs : sent (rd_T23 l i :: l.drop (i + 1)) = if hopB (rd_T23 l i).f0 (rd_T23 l i).f1 = true then sent (l.drop (i + 1)) else lineOf (rd_T23 l i) :: sent (l.drop (i + 1)) := by
        unfold sent; rw [List.filter_cons]
        cases hopB (rd_T23 l i).f0 (rd_T23 l i).f1 <;> simp
      cases hh : hopB (rd_T23 l i).f0 (rd_T23 l i).f1
      · rw [hh, if_neg Bool.false_ne_true] at hs
        rw [hs, if_neg Bool.false_ne_true, sens_ok]; simp only [Option.bind_some]
        rw [if_pos (by omega)]
        have := ih (i + 1) k (acc ++ [lineOf (rd_T23 l i)]) (by omega) (by omega) (by simp; omega)
        rw [show (((i + 1 : Nat)) : Int) = (i : Int) + 1 by omega] at this
        refine Eq.trans this ?_
        rw [List.append_assoc, List.singleton_append]
      · rw [hh, if_pos rfl] at hs
        rw [hs, if_pos rfl]
        have := ih (i + 1) k acc (by omega) (by omega) (by omega)
        rw [show (((i + 1 : Nat)) : Int) = (i : Int) + 1 by omega] at this
        exact this
    · rw [if_neg he, if_neg he, if_neg he]
theorem fields_ok {l : List S23} {M : Nat} (hl : Short M l) (hM : M ≤ 140737488351232) (hn : l.length ≤ 1000000) {k : Nat} (hk : M + l.length < k) : clean_Fields.f k l = some (cleaned l) := by
  unfold clean_Fields.f
  have := fields_go hl hM hn l.length 0 k [] (by omega) hk (Nat.le_refl _)
  rw [List.drop_zero, List.nil_append] at this
  exact this

/-- A line's fault. -/
def errC (f : S23) : Int := if (nameB f.f0 && !hopB f.f0 f.f1) = true then errF f else 30
def chk : List S36 → Int
  | [] => 0
  | x :: l => if errC x.f0 = 0 then chk l else errC x.f0
theorem check_go {l : List S36} {M : Nat} (hl : Short M (l.map S36.f0)) (hM : M ≤ 140737488351232) (hn : l.length ≤ 1000000) (d : Nat) : ∀ (i k : Nat), i + d = l.length → M + 2 * d < k →
    clean_Check.l0 k l (l.length : Int) i = some (chk (l.drop i)) := by
  induction d with
  | zero =>
    intro i k hi hk
    obtain ⟨k, rfl⟩ : ∃ m, k = m + 1 := ⟨k - 1, by omega⟩
    rw [clean_Check.l0, if_neg (by omega), List.drop_of_length_le (by omega)]; rfl
  | succ d ih =>
    intro i k hi hk
    obtain ⟨k, rfl⟩ : ∃ m, k = m + 2 := ⟨k - 2, by omega⟩
    have hil : i < l.length := by omega
    have hf := hl _ (List.mem_map_of_mem (rd36_mem hil))
    have j30 : ∀ q, clean_Check.j1 (k + 1) l (l.length : Int) i true (rd_T36 l i).f0.f0 (rd_T36 l i).f0.f1 q = some 30 := fun q => by rw [clean_Check.j1, if_pos rfl]
    rw [clean_Check.l0, if_pos (by omega), if_pos (by omega), if_pos (by omega), name_ok (by omega) (by omega)]; simp only [Option.bind_some]
    rw [rd36_drop hil, chk]
    have hE : errC (rd_T36 l i).f0 = if (nameB (rd_T36 l i).f0.f0 && !hopB (rd_T36 l i).f0.f0 (rd_T36 l i).f0.f1) = true then errF (rd_T36 l i).f0 else 30 := rfl
    cases hn' : nameB (rd_T36 l i).f0.f0
    · rw [if_neg (by decide), j30, hE, hn']; rfl
    · rw [if_pos rfl, hop_ok _ _ (by omega)]; simp only [Option.bind_some]
      cases hh : hopB (rd_T36 l i).f0.f0 (rd_T36 l i).f0.f1
      · rw [hn', hh, if_pos (by decide)] at hE
        rw [clean_Check.j1, if_neg (by decide), wrong_ok hf hM (by omega)]; simp only [Option.bind_some]
        rw [hE]
        by_cases he : errF (rd_T36 l i).f0 = 0
        · rw [if_pos he, if_pos he, w64 (by omega) (by omega)]
          exact ih (i + 1) k (by omega) (by omega)
        · rw [if_neg he, if_neg he]
      · rw [j30, hE, hn', hh]; rfl
theorem check_ok {l : List S36} {M : Nat} (hl : Short M (l.map S36.f0)) (hM : M ≤ 140737488351232) (hn : l.length ≤ 1000000) {k : Nat} (hk : M + 2 * l.length < k) : clean_Check.f k l = some (chk l) := by
  unfold clean_Check.f
  exact check_go hl hM hn l.length 0 k (by omega) hk

theorem chk_sent (l : List S23) (h : errL l = 0) : chk (sent l) = 0 := by
  induction l with
  | nil => rfl
  | cons f l ih =>
    rw [errL] at h
    by_cases he : errF f = 0
    · rw [if_pos he] at h
      unfold sent
      rw [List.filter_cons]
      have hn : nameB f.f0 = true := by
        unfold errF at he
        cases hn : nameB f.f0
        · rw [hn, if_neg (by decide)] at he; omega
        · rfl
      cases hh : hopB f.f0 f.f1
      · rw [if_pos (by decide), List.map_cons, chk]
        have hE : errC (lineOf f).f0 = 0 := by
          show (if (nameB f.f0 && !hopB f.f0 f.f1) = true then errF f else 30) = 0
          rw [hn, hh, if_pos (by decide), he]
        rw [if_pos hE]; exact ih h
      · rw [if_neg (by decide)]; exact ih h
    · rw [if_neg he] at h; exact absurd h he

theorem map_line (l : List S23) : (l.map lineOf).map S36.f0 = l := by
  induction l with
  | nil => rfl
  | cons f l ih => rw [List.map_cons, List.map_cons, ih]; rfl
theorem sent_f0 (l : List S23) : (sent l).map S36.f0 = l.filter fun f => !hopB f.f0 f.f1 := map_line _
/-- The fields of what may be sent are sent, all of them. -/
theorem sent_sent (l : List S23) (h : errL l = 0) : errL ((sent l).map S36.f0) = 0 ∧ sent ((sent l).map S36.f0) = sent l := by
  rw [sent_f0]
  refine ⟨?_, by unfold sent; rw [List.filter_filter]; congr 1; congr 1; funext f; simp⟩
  induction l with
  | nil => rfl
  | cons f l ih =>
    rw [errL] at h
    by_cases he : errF f = 0
    · rw [if_pos he] at h
      rw [List.filter_cons]
      split
      · rw [errL, if_pos he]; exact ih h
      · exact ih h
    · rw [if_neg he] at h; exact absurd h he

/-! ### How many bytes fields have -/
def tot : List S23 → Int
  | [] => 0
  | f :: l => 5 + f.f0.size + f.f1.size + tot l
theorem tot_len (l : List S23) : 5 * (l.length : Int) ≤ tot l := by
  induction l with
  | nil => exact Int.le_refl _
  | cons f l ih => rw [tot, List.length_cons]; omega
theorem tot_short {l : List S23} {B : Int} (h : tot l ≤ B) : ∀ f ∈ l, (f.f0.size : Int) + f.f1.size + 5 ≤ B := by
  induction l with
  | nil => intro f hf; cases hf
  | cons g l ih =>
    rw [tot] at h
    have h1 := tot_len l
    intro f hf
    rcases List.mem_cons.1 hf with rfl | hf
    · omega
    · exact ih (by omega) f hf
theorem small_go {l : List S23} (hl : Short 140737488351232 l) (hn : l.length ≤ 4398046511104) (d : Nat) : ∀ (i k : Nat) (x : Int), i + d = l.length → d < k → 0 ≤ x → x ≤ 2000 →
    squintlaw21_small.l0 k x l (l.length : Int) i = some (decide (x + tot (l.drop i) ≤ 2000)) := by
  induction d with
  | zero =>
    intro i k x hi hk h0 h1
    obtain ⟨k, rfl⟩ : ∃ m, k = m + 1 := ⟨k - 1, by omega⟩
    rw [squintlaw21_small.l0, if_neg (by omega), List.drop_of_length_le (by omega), tot, decide_eq_true (by omega)]
  | succ d ih =>
    intro i k x hi hk h0 h1
    obtain ⟨k, rfl⟩ : ∃ m, k = m + 1 := ⟨k - 1, by omega⟩
    have hil : i < l.length := by omega
    have hf := hl _ (rd23_mem hil)
    have ht := tot_len (l.drop (i + 1))
    rw [squintlaw21_small.l0, if_pos (by omega), if_pos (by omega), if_pos (by omega), rd23_drop hil, tot]
    rw [w64 (x := 5 + ((rd_T23 l i).f0.size : Int)) (by omega) (by omega), w64 (x := 5 + ((rd_T23 l i).f0.size : Int) + ((rd_T23 l i).f1.size : Int)) (by omega) (by omega), w64 (x := x + _) (by omega) (by omega), w64 (x := (i : Int) + 1) (by omega) (by omega)]
    split
    · rw [decide_eq_false (by omega)]
    · have := ih (i + 1) k (x + (5 + ((rd_T23 l i).f0.size : Int) + ((rd_T23 l i).f1.size : Int))) (by omega) (by omega) (by omega) (by omega)
      rw [show (((i + 1 : Nat)) : Int) = (i : Int) + 1 by omega] at this
      rw [this]
      congr 1
      exact decide_eq_decide.2 (by omega)
theorem small_ok {l : List S23} (hl : Short 140737488351232 l) (hn : l.length ≤ 4398046511104) {k : Nat} (hk : l.length < k) : squintlaw21_small.f k l = some (decide (tot l ≤ 2000)) := by
  unfold squintlaw21_small.f
  have := small_go hl hn l.length 0 k 0 (by omega) hk (Int.le_refl _) (by decide)
  rw [List.drop_zero, Int.zero_add] at this
  exact this
theorem short_of {l : List S23} (h : tot l ≤ 2000) : Short 2000 l ∧ l.length ≤ 400 := by
  have h1 := tot_len l
  exact ⟨fun f hf => by have := tot_short h f hf; omega, by omega⟩

theorem decode_go {l : List S36} (hn : l.length ≤ 3518437208780) (d : Nat) : ∀ (i k : Nat) (acc : List S23), i + d = l.length → d < k → acc.length = i → decode_Fields.l0 k acc l (l.length : Int) i = some (acc ++ (l.drop i).map S36.f0) := by
  induction d with
  | zero =>
    intro i k acc hi hk ha
    obtain ⟨k, rfl⟩ : ∃ m, k = m + 1 := ⟨k - 1, by omega⟩
    rw [decode_Fields.l0, if_neg (by omega), List.drop_of_length_le (by omega), List.map_nil, List.append_nil]
  | succ d ih =>
    intro i k acc hi hk ha
    obtain ⟨k, rfl⟩ : ∃ m, k = m + 1 := ⟨k - 1, by omega⟩
    have hil : i < l.length := by omega
    rw [decode_Fields.l0, if_pos (by omega), if_pos (by omega), if_pos (by omega), if_pos (by omega), rd36_drop hil, w64 (by omega) (by omega)]
    have := ih (i + 1) k (acc ++ [(rd_T36 l i).f0]) (by omega) (by omega) (by simp; omega)
    rw [show (((i + 1 : Nat)) : Int) = (i : Int) + 1 by omega] at this
    refine Eq.trans this ?_
    rw [List.append_assoc, List.singleton_append, List.map_cons]
theorem decode_ok {l : List S36} (hn : l.length ≤ 3518437208780) {k : Nat} (hk : l.length < k) : decode_Fields.f k l = some (l.map S36.f0) := by
  unfold decode_Fields.f
  have := decode_go hn l.length 0 k [] (by omega) hk rfl
  rw [List.drop_zero, List.nil_append] at this
  exact this

theorem awake_at : squintlaw21_awake.f 60 = some true := by kernel_rfl
theorem awake {k : Nat} (hk : 60 ≤ k) : squintlaw21_awake.f k = some true := at_rounds squintlaw21_awake.mono hk awake_at
end Go.Proofs.Ythmdkkhcpdbdgaa.Cl
