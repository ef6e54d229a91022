/- The slots' functions in plain numbers: what each comes to. -/
import Derived.Test.YtfnffnhlfjcplaaQ2
import Derived.Test.YtfnffnhlfjcplaaQ3
namespace Go.Proofs.Ytfnffnhlfjcplaa.Sl
open Go.RowKit Go.Proofs.Ytfnffnhlfjcplaa.Q Go.Proofs.YtfnffnhlfjcplaaW.PrintWords Go.Proofs.YtfnffnhlfjcplaaW.PrintLast Go.Proofs.YtfnffnhlfjcplaaW.PrintMore

theorem w64 {x : Int} (h0 : -9223372036854775808 ≤ x) (h1 : x < 9223372036854775808) : wrap64 x = x := by unfold wrap64; omega
theorem mul_bd {a b A B : Int} (h0 : 0 ≤ a) (h1 : a ≤ A) (h2 : 0 ≤ b) (h3 : b ≤ B) : 0 ≤ a * b ∧ a * b ≤ A * B :=
  ⟨Int.mul_nonneg h0 h2, Int.mul_le_mul h1 h3 h2 (by omega)⟩
theorem tmod_ok {a b : Int} (h : 0 ≤ a) : Int.tmod a b = a % b := Int.tmod_eq_emod_of_nonneg h
theorem tdiv_ok {a b : Int} (h : 0 ≤ a) : Int.tdiv a b = a / b := Int.tdiv_eq_ediv_of_nonneg h

def Right (t n : Int) : Prop := 0 ≤ t ∧ t < 1073741824 ∧ 1 ≤ n ∧ n ≤ 64

theorem right_yes {t n : Int} (h : Right t n) : squintlaw19_right.f t n = some true := by
  obtain ⟨h0, h1, h2, h3⟩ := h
  unfold squintlaw19_right.f
  rw [if_pos h0, if_pos h1, if_pos h2, decide_eq_true h3]
theorem right_no {t n : Int} (h : ¬ Right t n) : squintlaw19_right.f t n = some false := by
  unfold Right at h
  unfold squintlaw19_right.f
  split
  · split
    · split
      · rw [decide_eq_false (by omega)]
      · rfl
    · rfl
  · rfl
theorem time_yes {t : Int} (h0 : 0 ≤ t) (h1 : t < 1073741824) : slots_time.f t = some true := by
  unfold slots_time.f; rw [if_pos h0, decide_eq_true (by omega)]
theorem time_no {t : Int} (h : ¬ (0 ≤ t ∧ t < 1073741824)) : slots_time.f t = some false := by
  unfold slots_time.f
  split
  · rw [decide_eq_false (by omega)]
  · rfl
theorem some_yes {n : Int} (h0 : 1 ≤ n) (h1 : n ≤ 64) : slots_some.f n = some true := by
  unfold slots_some.f; rw [if_pos h0, decide_eq_true h1]
theorem some_no {n : Int} (h : ¬ (1 ≤ n ∧ n ≤ 64)) : slots_some.f n = some false := by
  unfold slots_some.f
  split
  · rw [decide_eq_false (by omega)]
  · rfl
theorem owner_yes {t n : Int} (h : Right t n) : slots_Owner.f t n = some (t % n, 0) := by
  obtain ⟨h0, h1, h2, h3⟩ := h
  unfold slots_Owner.f
  rw [time_yes h0 h1]; simp only [Option.bind_some, if_true]
  rw [some_yes h2 h3]; simp only [Option.bind_some, if_true]
  rw [if_neg (by omega), tmod_ok h0]
theorem owner_no {t n : Int} (h : ¬ Right t n) : slots_Owner.f t n = some (0, 11) := by
  unfold slots_Owner.f
  by_cases ht : 0 ≤ t ∧ t < 1073741824
  · rw [time_yes ht.1 ht.2]; simp only [Option.bind_some, if_true]
    rw [some_no (fun hn => h ⟨ht.1, ht.2, hn.1, hn.2⟩)]; rfl
  · rw [time_no ht]; rfl
theorem round_yes {t n : Int} (h : Right t n) : slots_Round.f t n = some (t / n) := by
  obtain ⟨h0, h1, h2, h3⟩ := h
  unfold slots_Round.f
  rw [time_yes h0 h1]; simp only [Option.bind_some, if_true]
  rw [some_yes h2 h3]; simp only [Option.bind_some, if_true]
  have hd : 0 ≤ t / n := Int.ediv_nonneg h0 (by omega)
  have hd1 : t / n ≤ t := Int.ediv_le_self n h0
  rw [if_neg (by omega), tdiv_ok h0, w64 (by omega) (by omega)]
theorem round_no {t n : Int} (h : ¬ Right t n) : slots_Round.f t n = some 0 := by
  unfold slots_Round.f
  by_cases ht : 0 ≤ t ∧ t < 1073741824
  · rw [time_yes ht.1 ht.2]; simp only [Option.bind_some, if_true]
    rw [some_no (fun hn => h ⟨ht.1, ht.2, hn.1, hn.2⟩)]; rfl
  · rw [time_no ht]; rfl

theorem mod_step {a d n : Int} (_h0 : 0 ≤ a) (hn : 0 < n) (hd : 0 ≤ d) (hdn : d < n) : (a + d) % n = if a % n + d < n then a % n + d else a % n + d - n := by
  have h1 := Int.emod_nonneg a (show n ≠ 0 by omega)
  have h2 := Int.emod_lt_of_pos a hn
  rw [Int.add_emod, Int.emod_eq_of_lt hd hdn]
  split
  · rw [Int.emod_eq_of_lt (by omega) (by assumption)]
  · have : (a % n + d) = (a % n + d - n) + n := by omega
    rw [this, Int.add_emod_right, Int.emod_eq_of_lt (by omega) (by omega)]
    omega

/-- How far a tenant's next tick is. -/
def gap (tenant a n : Int) : Int := (tenant - a % n + n) % n
theorem gap_eq {tenant a n : Int} (hn : 0 < n) (h0 : 0 ≤ tenant) (h1 : tenant < n) : gap tenant a n = if a % n ≤ tenant then tenant - a % n else tenant - a % n + n := by
  have h2 := Int.emod_nonneg a (show n ≠ 0 by omega)
  have h3 := Int.emod_lt_of_pos a hn
  unfold gap
  split
  · rw [Int.add_emod_right, Int.emod_eq_of_lt (by omega) (by omega)]
  · rw [Int.emod_eq_of_lt (by omega) (by omega)]
theorem gap_bd {tenant a n : Int} (hn : 0 < n) (h0 : 0 ≤ tenant) (h1 : tenant < n) : 0 ≤ gap tenant a n ∧ gap tenant a n < n := by
  have h2 := Int.emod_nonneg a (show n ≠ 0 by omega)
  have h3 := Int.emod_lt_of_pos a hn
  rw [gap_eq hn h0 h1]; split <;> omega
theorem gap_hit {tenant a n : Int} (ha : 0 ≤ a) (hn : 0 < n) (h0 : 0 ≤ tenant) (h1 : tenant < n) : (a + gap tenant a n) % n = tenant := by
  have h2 := Int.emod_nonneg a (show n ≠ 0 by omega)
  have h3 := Int.emod_lt_of_pos a hn
  have hb := gap_bd (a := a) hn h0 h1
  rw [mod_step ha hn hb.1 hb.2, gap_eq hn h0 h1]; split <;> split <;> omega
theorem gap_miss {tenant a n d : Int} (ha : 0 ≤ a) (hn : 0 < n) (h0 : 0 ≤ tenant) (h1 : tenant < n) (hd : 0 ≤ d) (hdg : d < gap tenant a n) : (a + d) % n ≠ tenant := by
  have h2 := Int.emod_nonneg a (show n ≠ 0 by omega)
  have h3 := Int.emod_lt_of_pos a hn
  have hb := gap_bd (a := a) hn h0 h1
  rw [gap_eq hn h0 h1] at hdg hb
  rw [mod_step ha hn hd (by omega)]; split <;> split at hdg <;> omega

theorem next_yes {tenant a n : Int} (h : Right a n) (h0 : 0 ≤ tenant) (h1 : tenant < n) (hs : a + gap tenant a n < 1073741824) (k : Nat) : slots_Next.f (k + 1) tenant a n = some (a + gap tenant a n, 0) := by
  obtain ⟨r0, r1, r2, r3⟩ := id h
  have h2 := Int.emod_nonneg a (show n ≠ 0 by omega)
  have h3 := Int.emod_lt_of_pos a (show 0 < n by omega)
  have hb := gap_bd (tenant := tenant) (a := a) (n := n) (by omega) h0 h1
  unfold slots_Next.f
  rw [owner_yes h]; simp only [Option.bind_some, if_true]
  rw [if_neg (by omega), decide_eq_false (by omega)]
  rw [slots_Next.j0]
  rw [if_neg (by decide), if_neg (by omega)]
  rw [w64 (x := tenant - a % n) (by omega) (by omega), w64 (x := tenant - a % n + n) (by omega) (by omega), tmod_ok (by omega)]
  show (slots_time.f (wrap64 (a + gap tenant a n))).bind _ = some (a + gap tenant a n, 0)
  rw [w64 (by omega) (by omega), time_yes (by omega) (by omega)]; simp only [Option.bind_some, if_true]
  show some (wrap64 (a + gap tenant a n), 0) = _
  rw [w64 (by omega) (by omega)]
theorem next_late {tenant a n : Int} (h : Right a n) (h0 : 0 ≤ tenant) (h1 : tenant < n) (hs : 1073741824 ≤ a + gap tenant a n) (k : Nat) : slots_Next.f (k + 1) tenant a n = some (0, 11) := by
  obtain ⟨r0, r1, r2, r3⟩ := id h
  have h2 := Int.emod_nonneg a (show n ≠ 0 by omega)
  have h3 := Int.emod_lt_of_pos a (show 0 < n by omega)
  have hb := gap_bd (tenant := tenant) (a := a) (n := n) (by omega) h0 h1
  unfold slots_Next.f
  rw [owner_yes h]; simp only [Option.bind_some, if_true]
  rw [if_neg (by omega), decide_eq_false (by omega)]
  rw [slots_Next.j0]
  rw [if_neg (by decide), if_neg (by omega)]
  rw [w64 (x := tenant - a % n) (by omega) (by omega), w64 (x := tenant - a % n + n) (by omega) (by omega), tmod_ok (by omega)]
  show (slots_time.f (wrap64 (a + gap tenant a n))).bind _ = some (0, 11)
  rw [w64 (by omega) (by omega), time_no (by omega)]; rfl
theorem next_no {tenant a n : Int} (h : ¬ (Right a n ∧ 0 ≤ tenant ∧ tenant < n)) (k : Nat) : slots_Next.f (k + 1) tenant a n = some (0, 11) := by
  unfold slots_Next.f
  have hj : ∀ x, slots_Next.j0 (k + 1) tenant a n x true = some (0, 11) := fun x => by rw [slots_Next.j0]; rfl
  by_cases hr : Right a n
  · rw [owner_yes hr]; simp only [Option.bind_some, if_true]
    split
    · exact hj _
    · rw [decide_eq_true (by have : ¬ (0 ≤ tenant ∧ tenant < n) := fun q => h ⟨hr, q⟩
                             omega)]; exact hj _
  · rw [owner_no hr]; simp only [Option.bind_some]; exact hj 0

/-- The reference's search. -/
theorem refNext_go {tenant a n : Int} (ha : 0 ≤ a) (ha' : a < 1073741824) (hn : 0 < n) (hn' : n ≤ 64) (h0 : 0 ≤ tenant) (h1 : tenant < n) (j : Nat) : ∀ (d : Int) (k : Nat), 0 ≤ d → d + j = gap tenant a n → j < k → squintref19_Next.l0 k tenant n (a + d) = some (a + gap tenant a n) := by
  have hb := gap_bd (tenant := tenant) (a := a) hn h0 h1
  induction j with
  | zero =>
    intro d k hd hj hk
    obtain ⟨k, rfl⟩ : ∃ m, k = m + 1 := ⟨k - 1, by omega⟩
    obtain rfl : d = gap tenant a n := by omega
    rw [squintref19_Next.l0]
    rw [if_neg (by omega), tmod_ok (by omega), if_pos (gap_hit ha hn h0 h1)]
  | succ j ih =>
    intro d k hd hj hk
    obtain ⟨k, rfl⟩ : ∃ m, k = m + 1 := ⟨k - 1, by omega⟩
    rw [squintref19_Next.l0]
    rw [if_neg (by omega), tmod_ok (by omega), if_neg (gap_miss ha hn h0 h1 hd (by omega)), w64 (by omega) (by omega), Int.add_assoc]
    exact ih (d + 1) k (by omega) (by omega) (by omega)
theorem refNext {tenant a n : Int} (h : Right a n) (h0 : 0 ≤ tenant) (h1 : tenant < n) (k : Nat) (hk : 64 < k) : squintref19_Next.f k tenant a n = some (a + gap tenant a n) := by
  obtain ⟨r0, r1, r2, r3⟩ := h
  have hb := gap_bd (tenant := tenant) (a := a) (n := n) (by omega) h0 h1
  have := refNext_go r0 r1 (show 0 < n by omega) r3 h0 h1 (gap tenant a n).toNat 0 k (Int.le_refl _) (by omega) (by omega)
  rw [Int.add_zero] at this
  exact this

/-- How many slots a tenant has ahead of a tick. -/
def upto (t tenant n : Int) : Int := (t + n - 1 - tenant) / n
theorem upto_bd {t tenant n : Int} (ht : 0 ≤ t) (h0 : 0 ≤ tenant) (h1 : tenant < n) : 0 ≤ upto t tenant n ∧ upto t tenant n ≤ t + n := by
  have h := Int.ediv_nonneg (show 0 ≤ t + n - 1 - tenant by omega) (show 0 ≤ n by omega)
  have h' := Int.ediv_le_self n (show 0 ≤ t + n - 1 - tenant by omega)
  unfold upto; omega
theorem upto_f {t tenant n : Int} (ht : 0 ≤ t) (ht' : t ≤ 4398046511104) (h0 : 0 ≤ tenant) (h1 : tenant < n) (hn : n ≤ 64) : slots_upto.f t tenant n = some (upto t tenant n) := by
  have hb := upto_bd (t := t) ht h0 h1
  unfold slots_upto.f
  rw [if_neg (by omega), w64 (x := t + n) (by omega) (by omega), w64 (x := t + n - 1) (by omega) (by omega), w64 (x := t + n - 1 - tenant) (by omega) (by omega), tdiv_ok (by omega)]
  show some (wrap64 (upto t tenant n)) = _
  rw [w64 (by omega) (by omega)]
theorem upto_succ {t tenant n : Int} (_ht : 0 ≤ t) (h0 : 0 ≤ tenant) (h1 : tenant < n) : upto (t + 1) tenant n = upto t tenant n + if t % n = tenant then 1 else 0 := by
  have hn : 0 < n := by omega
  unfold upto
  have e1 := Int.emod_nonneg t (show n ≠ 0 by omega)
  have e2 := Int.emod_lt_of_pos t hn
  have e3 := Int.mul_ediv_add_emod t n
  have A : ∀ s : Int, -n < s → s < n + n → (t - t % n + s) / n = t / n + (if s < 0 then -1 else if s < n then 0 else 1) := fun s hs1 hs2 => by
    have : t - t % n + s = s + n * (t / n) := by omega
    rw [this, Int.add_mul_ediv_left _ _ (by omega)]
    split
    · have : s / n = -1 := by
        have := Int.add_mul_ediv_left (s + n) (-1) (show n ≠ 0 by omega)
        have z : (s + n) / n = 0 := Int.ediv_eq_zero_of_lt (by omega) (by omega)
        rw [z, Int.mul_neg, Int.mul_one, show s + n + -n = s by omega] at this
        omega
      omega
    · split
      · rw [Int.ediv_eq_zero_of_lt (by omega) (by omega)]; omega
      · have : s / n = 1 := by
          have := Int.add_mul_ediv_left (s - n) 1 (show n ≠ 0 by omega)
          have z : (s - n) / n = 0 := Int.ediv_eq_zero_of_lt (by omega) (by omega)
          rw [z, Int.mul_one, show s - n + n = s by omega] at this
          omega
        omega
  rw [show t + 1 + n - 1 - tenant = t - t % n + (t % n + n - tenant) by omega, show t + n - 1 - tenant = t - t % n + (t % n + n - 1 - tenant) by omega, A _ (by omega) (by omega), A _ (by omega) (by omega)]
  split <;> split <;> split <;> (try split) <;> (try split) <;> omega
theorem upto_rounds {t tenant n c : Int} (h1 : 0 < n) : upto (t + c * n) tenant n = upto t tenant n + c := by
  unfold upto
  rw [show t + c * n + n - 1 - tenant = t + n - 1 - tenant + c * n by omega, Int.add_mul_ediv_right _ _ (by omega)]

theorem between_yes {a b tenant n : Int} (ha : Right a n) (hb : Right b n) (h0 : 0 ≤ tenant) (h1 : tenant < n) (hab : a ≤ b) (k : Nat) : slots_Between.f (k + 1) a b tenant n = some (upto b tenant n - upto a tenant n) := by
  obtain ⟨r0, r1, r2, r3⟩ := ha
  obtain ⟨s0, s1, _, _⟩ := hb
  have b1 := upto_bd (t := a) r0 h0 h1
  have b2 := upto_bd (t := b) s0 h0 h1
  unfold slots_Between.f
  rw [time_yes r0 r1]; simp only [Option.bind_some, if_true]
  rw [time_yes s0 s1]; simp only [Option.bind_some, if_true]
  rw [some_yes r2 r3]; simp only [Option.bind_some, if_true]
  rw [if_neg (by omega), if_neg (by omega), decide_eq_false (by omega)]
  rw [slots_Between.j0]
  rw [if_neg (by decide), upto_f s0 (by omega) h0 h1 r3, upto_f r0 (by omega) h0 h1 r3]; simp only [Option.bind_some]
  rw [w64 (by omega) (by omega)]
theorem between_no {a b tenant n : Int} (h : ¬ (Right a n ∧ Right b n ∧ 0 ≤ tenant ∧ tenant < n ∧ a ≤ b)) (k : Nat) : slots_Between.f (k + 1) a b tenant n = some 0 := by
  have hj : slots_Between.j0 (k + 1) a b tenant n true = some 0 := by rw [slots_Between.j0]; rfl
  unfold slots_Between.f
  by_cases ha : 0 ≤ a ∧ a < 1073741824
  · rw [time_yes ha.1 ha.2]; simp only [Option.bind_some, if_true]
    by_cases hb : 0 ≤ b ∧ b < 1073741824
    · rw [time_yes hb.1 hb.2]; simp only [Option.bind_some, if_true]
      by_cases hn : 1 ≤ n ∧ n ≤ 64
      · rw [some_yes hn.1 hn.2]; simp only [Option.bind_some, if_true]
        split
        · exact hj
        · split
          · exact hj
          · rw [decide_eq_true (by have : ¬ (a ≤ b) := fun q => h ⟨⟨ha.1, ha.2, hn⟩, ⟨hb.1, hb.2, hn⟩, by omega, by omega, q⟩
                                   omega)]; exact hj
      · rw [some_no hn]; exact hj
    · rw [time_no hb]; exact hj
  · rw [time_no ha]; exact hj

theorem refBetween_go {b tenant n : Int} (hb : b < 1073741824) (h0 : 0 ≤ tenant) (h1 : tenant < n) (_hn : n ≤ 64) (j : Nat) : ∀ (t x : Int) (k : Nat), 0 ≤ t → t + j = b → 0 ≤ x → x + j ≤ 4398046511104 → j < k → squintref19_Between.l0 k b tenant n x t = some (x + (upto b tenant n - upto t tenant n)) := by
  induction j with
  | zero =>
    intro t x k ht hj hx hx' hk
    obtain ⟨k, rfl⟩ : ∃ m, k = m + 1 := ⟨k - 1, by omega⟩
    obtain rfl : t = b := by omega
    rw [squintref19_Between.l0]
    rw [if_neg (by omega)]; congr 1; omega
  | succ j ih =>
    intro t x k ht hj hx hx' hk
    obtain ⟨k, rfl⟩ : ∃ m, k = m + 1 := ⟨k - 1, by omega⟩
    rw [squintref19_Between.l0]
    have hu := upto_succ ht h0 h1
    rw [if_pos (by omega), if_neg (by omega), tmod_ok ht, w64 (x := t + 1) (by omega) (by omega)]
    split
    · rename_i hc
      rw [if_pos hc] at hu
      rw [w64 (by omega) (by omega), ih (t + 1) (x + 1) k (by omega) (by omega) (by omega) (by omega) (by omega)]; congr 1; omega
    · rename_i hc
      rw [if_neg hc] at hu
      rw [ih (t + 1) x k (by omega) (by omega) (by omega) (by omega) (by omega)]; congr 1; omega
theorem refBetween {a b tenant n : Int} (ha : Right a n) (hb : Right b n) (h0 : 0 ≤ tenant) (h1 : tenant < n) (hab : a ≤ b) (k : Nat) (hk : b - a < k) : squintref19_Between.f k a b tenant n = some (upto b tenant n - upto a tenant n) := by
  obtain ⟨r0, r1, r2, r3⟩ := ha
  obtain ⟨s0, s1, _, _⟩ := hb
  have := refBetween_go s1 h0 h1 r3 (b - a).toNat a 0 k r0 (by omega) (Int.le_refl _) (by omega) (by omega)
  rw [Int.zero_add] at this
  exact this

theorem within_yes {a b c : Int} (k : Nat) (ha : 0 ≤ a ∧ a ≤ 1048576) (hb : 0 ≤ b ∧ b ≤ 1048576) (hc : 0 ≤ c ∧ c ≤ 1048576) : slots_within.f (k + 4) [a, b, c] = some true := by
  unfold slots_within.f
  simp only [List.length_cons, List.length_nil]
  rw [slots_within.l0]
  rw [if_pos (by decide), if_pos (by decide), show (([a, b, c] : List Int).length : Int) = 3 from rfl, if_pos (by decide), show rd [a, b, c] 0 = a from rfl, if_neg (by omega), if_neg (by omega), w64 (by decide) (by decide)]
  rw [slots_within.l0]
  rw [if_pos (by decide), if_pos (by decide), show (([a, b, c] : List Int).length : Int) = 3 from rfl, if_pos (by decide), show rd [a, b, c] (0 + 1) = b from rfl, if_neg (by omega), if_neg (by omega), w64 (by decide) (by decide)]
  rw [slots_within.l0]
  rw [if_pos (by decide), if_pos (by decide), show (([a, b, c] : List Int).length : Int) = 3 from rfl, if_pos (by decide), show rd [a, b, c] (0 + 1 + 1) = c from rfl, if_neg (by omega), if_neg (by omega), w64 (by decide) (by decide)]
  rw [slots_within.l0]
  rw [if_neg (by decide)]
theorem within_no {a b c : Int} (k : Nat) (h : ¬ ((0 ≤ a ∧ a ≤ 1048576) ∧ (0 ≤ b ∧ b ≤ 1048576) ∧ (0 ≤ c ∧ c ≤ 1048576))) : slots_within.f (k + 4) [a, b, c] = some false := by
  unfold slots_within.f
  simp only [List.length_cons, List.length_nil]
  rw [slots_within.l0]
  rw [if_pos (by decide), if_pos (by decide), show (([a, b, c] : List Int).length : Int) = 3 from rfl, if_pos (by decide), show rd [a, b, c] 0 = a from rfl, w64 (by decide) (by decide)]
  split; · rfl
  split; · rfl
  rw [slots_within.l0]
  rw [if_pos (by decide), if_pos (by decide), show (([a, b, c] : List Int).length : Int) = 3 from rfl, if_pos (by decide), show rd [a, b, c] (0 + 1) = b from rfl, w64 (by decide) (by decide)]
  split; · rfl
  split; · rfl
  rw [slots_within.l0]
  rw [if_pos (by decide), if_pos (by decide), show (([a, b, c] : List Int).length : Int) = 3 from rfl, if_pos (by decide), show rd [a, b, c] (0 + 1 + 1) = c from rfl, w64 (by decide) (by decide)]
  split; · rfl
  split; · rfl
  omega
theorem wait_yes {a b c : Int} (k : Nat) (ha : 0 ≤ a ∧ a ≤ 1048576) (hb : 0 ≤ b ∧ b ≤ 1048576) (hc : 0 ≤ c ∧ c ≤ 1048576) : slots_Wait.f (k + 4) a b c = some ((a + b) * c) := by
  unfold slots_Wait.f
  rw [within_yes k ha hb hc]; simp only [Option.bind_some, if_true]
  have := mul_bd (a := a + b) (b := c) (A := 2097152) (B := 1048576) (by omega) (by omega) hc.1 hc.2
  rw [w64 (x := a + b) (by omega) (by omega), w64 (by omega) (by omega)]
theorem wait_no {a b c : Int} (k : Nat) (h : ¬ ((0 ≤ a ∧ a ≤ 1048576) ∧ (0 ≤ b ∧ b ≤ 1048576) ∧ (0 ≤ c ∧ c ≤ 1048576))) : slots_Wait.f (k + 4) a b c = some 0 := by
  unfold slots_Wait.f
  rw [within_no k h]; rfl

theorem awake_at : squintlaw19_awake.f 20 = some true := by kernel_rfl
theorem awake (k : Nat) (hk : 20 ≤ k) : squintlaw19_awake.f k = some true := at_rounds squintlaw19_awake.mono hk awake_at
end Go.Proofs.Ytfnffnhlfjcplaa.Sl
