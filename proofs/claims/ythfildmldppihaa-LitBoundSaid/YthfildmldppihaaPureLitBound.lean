/- LitBound's plain law; no condition. -/
import Derived.Test.YthfildmldppihaaQ5
import Derived.Test.YthfildmldppihaaPl
namespace Go.Proofs.Ythfildmldppihaa.Pure
open Go.RowKit Go.Proofs.Ythfildmldppihaa.Q Go.Proofs.Ythfildmldppihaa.Gv Go.Proofs.Ythfildmldppihaa.Pt Go.Proofs.YthfildmldppihaaW.PrintWords Go.Proofs.YthfildmldppihaaW.PrintLast
theorem LitBound : squintlaw04_LitBound.Pure := by
  intro n c _
  obtain ⟨k, hk⟩ : ∃ k, 100 < k := ⟨101, by omega⟩
  refine ⟨k + 1, ?_⟩
  have hj : squintlaw04_LitBound.j0 (k + 1) n c true = some true := by
    rw [squintlaw04_LitBound.j0, if_pos rfl, awake4 (by omega)]; rfl
  unfold squintlaw04_LitBound.f
  by_cases h0 : n < 0
  · rw [if_pos h0]; exact hj
  · rw [if_neg h0]
    by_cases h1 : n > 5000
    · rw [decide_eq_true h1]; exact hj
    · rw [decide_eq_false h1, squintlaw04_LitBound.j0]
      have c0 : (0 : Int) ≤ n := by omega
      have c1 : n.toNat ≤ 281474976710656 := by omega
      obtain ⟨l, hl⟩ : ∃ l, l = List.replicate n.toNat (0 : Int) := ⟨_, rfl⟩
      have hll : l.length = n.toNat := by rw [hl, List.length_replicate]
      have hlb : Byt l := fun x hx => by rw [hl] at hx; have := List.eq_of_mem_replicate hx; omega
      rw [if_neg (by decide), if_pos c0, if_pos c1, ← hl]
      by_cases hb : n > 4096
      · have hl4 : 4096 < l.length := by omega
        have hlen : lit_Len.f k l c = some 0 := by unfold lit_Len.f; rw [encode_big hl4]; rfl
        have hsh : lit_Short.f k l = some [] := by unfold lit_Short.f; rw [encode_big hl4]; rfl
        rw [encode_big hl4, Option.bind_some]
        dsimp only
        rw [if_pos hb, if_pos rfl, if_pos (by rfl), hlen, Option.bind_some, if_pos rfl, hsh, Option.bind_some, if_pos (by rfl), awake4 (by omega)]; rfl
      · have hl4 : l.length ≤ 4096 := by omega
        have hb1 := lenc_byt hlb hl4 c
        have hb2 := lenc_len hlb hl4 c
        have hd : ∀ lim, lit_Decode.f k (lenc l c) lim = some (if (l.length : Int) > lim then ([], 0, 22) else (l, ((lenc l c).length : Int), 0)) := fun lim => by
          rw [decode_lit hb1 (by omega) lim (by omega)]
          have h := ldec_lenc hlb hl4 c [] lim
          rw [List.append_nil] at h
          rw [h]
        have w1 : wrap64 (n - 1) = n - 1 := by unfold wrap64; omega
        have d1 : ¬ (l.length : Int) > n := by omega
        have d2 : (l.length : Int) > n - 1 := by omega
        have d3 : (l.length : Int) = n := by omega
        rw [encode_lit hlb hl4 c (by omega), Option.bind_some]
        dsimp only
        rw [if_neg hb, hd, hd, w1, if_neg d1, if_pos d2, Option.bind_some, Option.bind_some]
        dsimp only
        rw [if_pos rfl, if_pos rfl, if_pos rfl, if_pos d3, if_pos rfl, awake4 (by omega)]; rfl
end Go.Proofs.Ythfildmldppihaa.Pure
