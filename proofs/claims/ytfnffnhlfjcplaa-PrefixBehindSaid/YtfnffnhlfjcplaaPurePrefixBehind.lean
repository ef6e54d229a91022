/- PrefixBehind answers true at every number, number of bits and row of bytes; no condition. -/
import Derived.OpenShut
import Derived.Test.YtfnffnhlfjcplaaPx
import Derived.Test.YtfnffnhlfjcplaaQ8
namespace Go.Proofs.Ytfnffnhlfjcplaa.Pure
open Go.RowKit Go.Proofs.Ytfnffnhlfjcplaa.Q Go.Proofs.Ytfnffnhlfjcplaa.Px Go.Proofs.YtfnffnhlfjcplaaW.PrintWords Go.Proofs.YtfnffnhlfjcplaaW.PrintLast Go.Proofs.YtfnffnhlfjcplaaW.PrintMore

theorem behind_loop {n b : Int} (h : Right n b 0) (j : Nat) : ∀ (i k : Nat), i + j = (enc n b 0).length → 40 + j < k → squintlaw03_PrefixBehind.l0 k b (enc n b 0) ((enc n b 0).length : Int) i = some true := by
  have hl := len_enc h
  have hd := dl_bd (n - (P2 b - 1))
  have hlen : (enc n b 0).length ≤ 6 := by split at hl <;> omega
  obtain ⟨h0, h1, _⟩ := id h
  induction j with
  | zero =>
    intro i k hi hk
    obtain ⟨k, rfl⟩ : ∃ m, k = m + 1 := ⟨k - 1, by omega⟩
    rw [squintlaw03_PrefixBehind.l0, if_neg (by omega), awake (by omega)]; rfl
  | succ j ih =>
    intro i k hi hk
    obtain ⟨k, rfl⟩ : ∃ m, k = m + 1 := ⟨k - 1, by omega⟩
    rw [squintlaw03_PrefixBehind.l0, if_pos (by omega), if_pos (by omega), if_pos (by omega), show ((i : Int)).toNat = i by omega]
    rw [decode_yes (fun x hx => enc_okb h x (List.mem_of_mem_take hx)) (by rw [List.length_take]; omega) h0 h1 (by omega), decode_short h (by omega)]; simp only [Option.bind_some, if_true]
    rw [w64 (by omega) (by omega)]
    exact ih (i + 1) k (by omega) (by omega)
theorem PrefixBehind : squintlaw03_PrefixBehind.Pure := by
  intro n b more _ _ _ hl hw
  refine ⟨60, ?_⟩
  have hok : Okb more := fun x hx => bounds_u8 (hw x hx)
  have hbad : squintlaw03_PrefixBehind.j0 60 n b more true = some true := by
    rw [squintlaw03_PrefixBehind.j0, if_pos rfl, awake (by decide)]; rfl
  unfold squintlaw03_PrefixBehind.f
  by_cases h : Right n b 0
  · rw [refRight_yes h (by decide)]; simp only [Option.bind_some, if_true]
    by_cases hm : (more.length : Int) > 50
    · rw [decide_eq_true hm]; exact hbad
    · have hle := len_enc h
      have hd := dl_bd (n - (P2 b - 1))
      have hlen : (enc n b 0).length ≤ 6 := by split at hle <;> omega
      obtain ⟨h0, h1, _⟩ := id h
      have hall : Okb ([] ++ enc n b 0 ++ more) := fun x hx => by
        rcases List.mem_append.1 hx with hx | hx
        · exact enc_okb h x (by simpa using hx)
        · exact hok x hx
      have hz : ([] ++ enc n b 0 ++ more).length ≤ 140737488351232 := by simp; omega
      rw [decide_eq_false hm, squintlaw03_PrefixBehind.j0, if_neg (by decide), encode_yes h (by decide)]; simp only [Option.bind_some]
      rw [if_pos trivial, if_pos (by simp; omega), if_pos (by simp; omega), decode_yes hall hz h0 h1 (by decide), List.nil_append, decode_enc h]; simp only [Option.bind_some]
      rw [if_pos trivial, if_pos trivial, bne_self_eq_false, squintlaw03_PrefixBehind.j1, if_neg (by decide)]
      exact behind_loop h (enc n b 0).length 0 58 (by omega) (by omega)
  · rw [refRight_no h (by decide)]; exact hbad

end Go.Proofs.Ytfnffnhlfjcplaa.Pure
