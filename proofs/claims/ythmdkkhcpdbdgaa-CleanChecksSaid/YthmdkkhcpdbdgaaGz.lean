/- The reference's Name: its contract, for every text of at most 140737488351232 bytes. -/
import Derived.Test.YthmdkkhcpdbdgaaGy
namespace Go.Proofs.Ythmdkkhcpdbdgaa.Gv
open Go.RowKit Go.Lib Go.Proofs.YthmdkkhcpdbdgaaW.PrintWords Go.Proofs.YthmdkkhcpdbdgaaW.PrintLast Go.Proofs.YthmdkkhcpdbdgaaW.PrintMore

def signs : ByteArray := ⟨#[33, 35, 36, 37, 38, 39, 42, 43, 45, 46, 94, 95, 124, 126]⟩
def found (c : Int) (j : Nat) : Bool := (signs.data.toList.take j).any fun b => ((b.toNat : Int) == c)
theorem found_succ (c : Int) (j : Nat) (h : j < signs.size) : found c (j + 1) = (found c j || (((signs[j]'h).toNat : Int) == c)) := by
  have hl : j < signs.data.toList.length := h
  unfold found
  rw [List.take_succ_eq_append_getElem hl, List.any_append]
  simp only [List.any_cons, List.any_nil, Bool.or_false]; rfl
def okc (c : Int) : Bool := (decide (48 ≤ c) && decide (c ≤ 57)) || (decide (97 ≤ c) && decide (c ≤ 122)) || found c 14 || (c == 96)
theorem okc_mid {x : Int} (hd : ¬ (48 ≤ x ∧ x ≤ 57)) (hl : ¬ (97 ≤ x ∧ x ≤ 122)) : okc x = (found x 14 || (x == 96)) := by
  have h1 : (decide (48 ≤ x) && decide (x ≤ 57)) = false := by
    rw [← Bool.decide_and]; exact decide_eq_false hd
  have h2 : (decide (97 ≤ x) && decide (x ≤ 122)) = false := by
    rw [← Bool.decide_and]; exact decide_eq_false hl
  unfold okc; rw [h1, h2]; simp
def okUpto (s : ByteArray) (k : Nat) : Bool := (s.data.toList.take k).all fun b => okc (b.toNat : Int)
theorem okUpto_succ (s : ByteArray) (k : Nat) (h : k < s.size) : okUpto s (k + 1) = (okUpto s k && okc ((s[k]'h).toNat : Int)) := by
  have hl : k < s.data.toList.length := by rw [← Lib.size_eq]; exact h
  unfold okUpto
  rw [List.take_succ_eq_append_getElem hl, List.all_append]
  simp only [List.all_cons, List.all_nil, Bool.and_true]; rfl
theorem okUpto_mono (s : ByteArray) {k j : Nat} (h : k ≤ j) (hf : okUpto s k = false) : okUpto s j = false := by
  unfold okUpto at hf ⊢
  rw [show s.data.toList.take j = s.data.toList.take k ++ (s.data.toList.drop k).take (j - k) by rw [← List.take_add]; congr 1; omega, List.all_append, hf]; rfl
def nameB (s : ByteArray) : Bool := decide (1 ≤ s.size) && decide (s.size ≤ 4096) && okUpto s s.size
def squintref21_Name.f (a0 : ByteArray) : Option Bool := if a0.size ≤ 140737488351232 then some (nameB a0) else none

theorem bool_eq {a b : Bool} (h : a = b) : Value.bool a = .bool b := by rw [h]
theorem bool_ret {a b : Bool} (h : a = b) : Ending.returned (.bool a) = .returned (.bool b) := by rw [h]
set_option maxHeartbeats 4000000 in
set_option maxRecDepth 100000 in
theorem name_mid (s : ByteArray) (w : World) (h1 : 1 ≤ s.size) (h2 : s.size ≤ 4096) :
    Calls Try.prog 10 #[.string s] w fun e w' => e = .returned (.bool (okUpto s s.size)) ∧ w' = w := by
  have hz : signs.size = 14 := rfl
  have HZ : Hid (signs.size = 14) := hz
  clear hz
  have hS : (⟨#[33, 35, 36, 37, 38, 39, 42, 43, 45, 46, 94, 95, 124, 126]⟩ : ByteArray) = signs := rfl
  have e1 : decide ((s.size : Int) < 1) = false := decide_eq_false (by omega)
  have e2 : decide ((4096 : Int) < (s.size : Int)) = false := decide_eq_false (by omega)
  go_enter Try.func10, Try.ntmps10
  go_wp2
  go_loop [3] (fun i => ∃ k : Nat, k ≤ s.size ∧ i = .int .i64 k ∧ Hid (okUpto s k = true)) (fun i => s.size - (RowKit.intOf i).toNat)
  case atStart => exact ⟨0, Nat.zero_le _, rfl, rfl⟩
  case round =>
    obtain ⟨k, hk, rfl, H⟩ := hrel
    by_cases hlt : k < s.size
    · have hsucc := okUpto_succ s k hlt
      rw [H.out, Bool.true_and] at hsucc
      have hb := (s[k]'hlt).toNat_lt
      obtain ⟨x, hx⟩ : ∃ x : Int, ((s[k]'hlt).toNat : Int) = x := ⟨_, rfl⟩
      rw [hx] at hsucc
      have hx0 : 0 ≤ x := by omega
      have hx1 : x ≤ 255 := by omega
      have HS : Hid (okUpto s (k + 1) = okc x) := hsucc
      clear hsucc hb
      by_cases hd : 48 ≤ x ∧ x ≤ 57
      · obtain ⟨d1, d2⟩ := hd
        go_wp2
        go_round
        case rel => exact ⟨k + 1, by omega, by go_num, (show okUpto s (k + 1) = true by rw [HS.out]; simp [okc, d1, d2])⟩
        case measure => simp [RowKit.intOf]; omega
      · by_cases hl : 97 ≤ x ∧ x ≤ 122
        · obtain ⟨d1, d2⟩ := hl
          have d3 : ¬ x ≤ 57 := by omega
          have d4 : 48 ≤ x := by omega
          clear hd
          go_wp2
          go_round
          case rel => exact ⟨k + 1, by omega, by go_num, (show okUpto s (k + 1) = true by rw [HS.out]; simp [okc, d1, d2])⟩
          case measure => simp [RowKit.intOf]; omega
        · have HO : Hid (okc x = (found x 14 || (x == 96))) := okc_mid hd hl
          have fin : (∀ b : Bool, b = found x 14 → (b = true ∨ x = 96) → okUpto s (k + 1) = true) ∧ (found x 14 = false → ¬ x = 96 → okUpto s s.size = false) := by
            refine ⟨fun b hb h => ?_, fun h h' => ?_⟩
            · rw [HS.out, HO.out, ← hb]
              rcases h with h | h
              · rw [h]; rfl
              · rw [h]; simp
            · refine okUpto_mono s (show k + 1 ≤ s.size by omega) ?_
              rw [HS.out, HO.out, h]; simpa using h'
          have FIN : Hid _ := fin
          have h3 : x < 48 ∨ (57 < x ∧ x < 97) ∨ 122 < x := by omega
          clear fin HS HO H hd hl
          have f1 : decide (48 ≤ x) = true ∧ decide (x ≤ 57) = false ∧ decide (97 ≤ x) = false ∨ decide (48 ≤ x) = true ∧ decide (x ≤ 57) = false ∧ decide (97 ≤ x) = true ∧ decide (x ≤ 122) = false ∨ decide (48 ≤ x) = false ∧ decide (97 ≤ x) = false := by
            rcases h3 with h3 | ⟨h3, h4⟩ | h3
            · exact .inr (.inr ⟨decide_eq_false (by omega), decide_eq_false (by omega)⟩)
            · exact .inl ⟨decide_eq_true (by omega), decide_eq_false (by omega), decide_eq_false (by omega)⟩
            · exact .inr (.inl ⟨decide_eq_true (by omega), decide_eq_false (by omega), decide_eq_true (by omega), decide_eq_false (by omega)⟩)
          clear h3
          rcases f1 with ⟨f1, f2, f3⟩ | ⟨f1, f2, f3, f4⟩ | ⟨f1, f2⟩
          all_goals
            go_wp2
            go_loop [5, 7] (fun v i => ∃ j : Nat, j ≤ 14 ∧ i = .int .i64 j ∧ v = .bool (found x j)) (fun _ i => 14 - (RowKit.intOf i).toNat)
            case atStart => exact ⟨0, Nat.zero_le _, rfl, rfl⟩
            case round =>
              obtain ⟨j, hj, rfl, rfl⟩ := hrel
              by_cases hjl : j < 14
              · have hjs : j < signs.size := by rw [HZ.out]; exact hjl
                have HF : Hid (found x (j + 1) = (found x j || (((signs[j]'hjs).toNat : Int) == x))) := found_succ x j hjs
                cases ht : (((signs[j]'hjs).toNat : Int) == x)
                · go_wp2
                  go_round
                  case rel => exact ⟨j + 1, by omega, by go_num, bool_eq (by rw [HF.out, ht, Bool.or_false])⟩
                  case measure => simp [RowKit.intOf]; omega
                · go_wp2
                  go_round
                  case rel => exact ⟨j + 1, by omega, by go_num, bool_eq (by rw [HF.out, ht, Bool.or_true])⟩
                  case measure => simp [RowKit.intOf]; omega
              · obtain rfl : j = 14 := by omega
                cases hf : found x 14
                · by_cases hx96 : x = 96
                  · have hne : (x != 96) = false := by rw [hx96]; rfl
                    have HX : Hid (x = 96) := hx96
                    clear hx96
                    go_wp2
                    go_round
                    case rel => exact ⟨k + 1, by omega, by go_num, FIN.out.1 _ rfl (.inr HX.out)⟩
                    case measure => simp [RowKit.intOf]; omega
                  · have hne : (x != 96) = true := bne_iff_ne.2 hx96
                    go_wp2
                    go_ret
                    exact ⟨bool_ret (FIN.out.2 hf hx96).symm, rfl⟩
                · go_wp2
                  go_round
                  case rel => exact ⟨k + 1, by omega, by go_num, FIN.out.1 _ rfl (.inl hf)⟩
                  case measure => simp [RowKit.intOf]; omega
    · go_wp2
      go_ret
      exact ⟨by rw [show s.size = k by omega, H.out]; rfl, rfl⟩

set_option maxHeartbeats 2000000 in
set_option maxRecDepth 100000 in
theorem squintref21_Name.calls (a0 : ByteArray) (r : Bool) (w : World) (h : squintref21_Name.f a0 = some r) :
    Calls Try.prog 10 #[.string a0] w fun e w' => e = .returned (.bool r) ∧ Drawn0 w w' := by
  unfold squintref21_Name.f at h
  split at h
  · rename_i hs
    obtain rfl := Option.some.inj h
    clear h
    by_cases h1 : 1 ≤ a0.size
    · by_cases h2 : a0.size ≤ 4096
      · refine (name_mid a0 w h1 h2).mono fun e w' ⟨he, hw⟩ => ⟨?_, hw ▸ Drawn0.refl _⟩
        rw [he]; unfold nameB; rw [decide_eq_true h1, decide_eq_true h2]; rfl
      · have HN : Hid (nameB a0 = false) := by show nameB a0 = false; unfold nameB; rw [decide_eq_false h2]; simp
        have e1 : decide ((a0.size : Int) < 1) = false := decide_eq_false (by omega)
        have e2 : decide ((4096 : Int) < (a0.size : Int)) = true := decide_eq_true (by omega)
        generalize nameB a0 = q at HN
        go_enter Try.func10, Try.ntmps10
        go_wp2
        go_ret
        exact ⟨bool_ret HN.out.symm, Drawn0.refl _⟩
    · have HN : Hid (nameB a0 = false) := by show nameB a0 = false; unfold nameB; rw [decide_eq_false h1]; simp
      have e1 : decide ((a0.size : Int) < 1) = true := decide_eq_true (by omega)
      generalize nameB a0 = q at HN
      go_enter Try.func10, Try.ntmps10
      go_wp2
      go_ret
      exact ⟨bool_ret HN.out.symm, Drawn0.refl _⟩
  · cases h
end Go.Proofs.Ythmdkkhcpdbdgaa.Gv
