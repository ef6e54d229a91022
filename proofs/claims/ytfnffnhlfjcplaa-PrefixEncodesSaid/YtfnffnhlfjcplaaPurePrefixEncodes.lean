/- PrefixEncodes answers true at every number, number of bits and mark; no condition. -/
import Derived.Test.YtfnffnhlfjcplaaPx
import Derived.Test.YtfnffnhlfjcplaaQ10
namespace Go.Proofs.Ytfnffnhlfjcplaa.Pure
open Go.RowKit Go.Proofs.Ytfnffnhlfjcplaa.Q Go.Proofs.Ytfnffnhlfjcplaa.Px Go.Proofs.YtfnffnhlfjcplaaW.PrintWords Go.Proofs.YtfnffnhlfjcplaaW.PrintLast Go.Proofs.YtfnffnhlfjcplaaW.PrintMore

theorem enc_mark {n b m : Int} (h : Right n b m) : enc n b m ≠ [] ∧ rd (enc n b m) 0 / P2 b = m ∧ (enc n b m).length ≤ 6 := by
  have hl := len_enc h
  have hd := dl_bd (n - (P2 b - 1))
  have hlen : (enc n b m).length ≤ 6 := by split at hl <;> omega
  obtain ⟨h0, h1, h2, h3, h4, h5⟩ := h
  have hb := P2_bd (b := b) (by omega) h1
  have hq : ∀ x : Int, 0 ≤ x → x < P2 b → (m * P2 b + x) / P2 b = m := fun x hx hx' => by
    rw [Int.add_comm, Int.add_mul_ediv_right _ _ (by omega), Int.ediv_eq_zero_of_lt hx hx']; omega
  refine ⟨?_, ?_, hlen⟩
  · unfold enc; split <;> simp
  · unfold enc; split
    · exact hq n h2 (by omega)
    · exact hq (P2 b - 1) (by omega) (by omega)
theorem PrefixEncodes : squintlaw03_PrefixEncodes.Pure := by
  intro n b m _ _ _
  refine ⟨60, ?_⟩
  unfold squintlaw03_PrefixEncodes.f
  by_cases h : Right n b m
  · obtain ⟨hne, hm, hlen⟩ := enc_mark h
    obtain ⟨h0, h1, h2, h3, h4, h5⟩ := id h
    have hd := decode_enc h []
    rw [List.append_nil] at hd
    have h' : Right n b 0 := ⟨h0, h1, h2, h3, Int.le_refl _, by have := P2_bd (b := 8 - b) (by omega) (by omega); omega⟩
    rw [encode_yes h (by decide)]; simp only [Option.bind_some]
    rw [refRight_yes h (by decide)]; simp only [Option.bind_some, if_true]
    rw [decode_yes (enc_okb h) (by omega) h0 h1 (by decide), hd]; simp only [Option.bind_some]
    rw [mark_ok (enc_okb h) hne h0 h1]; simp only [Option.bind_some, if_true]
    rw [refEncode h (by decide)]; simp only [Option.bind_some, if_true]
    have hl : (enc n b m).length = (enc n b 0).length := by
      have l1 := len_enc h
      have l2 := len_enc h'
      split at l1 <;> split at l2 <;> omega
    rw [len_yes h' (by decide)]; simp only [Option.bind_some]
    rw [if_pos (by omega), if_pos hm, awake (by decide)]; rfl
  · rw [encode_no h (by decide)]; simp only [Option.bind_some]
    rw [refRight_no h (by decide)]; simp only [Option.bind_some]
    rw [if_neg (by decide), if_pos trivial, if_pos (by decide)]
    by_cases h' : Right n b 0
    · rw [refRight_yes h' (by decide)]; simp only [Option.bind_some, if_true]
      rw [awake (by decide)]; rfl
    · rw [refRight_no h' (by decide)]; simp only [Option.bind_some]
      rw [if_neg (by decide), len_no h' (by decide)]; simp only [Option.bind_some, if_true]
      rw [awake (by decide)]; rfl
end Go.Proofs.Ytfnffnhlfjcplaa.Pure
