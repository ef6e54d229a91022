/- clean.Lower makes letters small: its contract, for texts of at most 140737488351232 bytes. -/
import Derived.Test.YthmdkkhcpdbdgaaGv
namespace Go.Proofs.Ythmdkkhcpdbdgaa.Gv
open Go.RowKit Go.Lib Go.Proofs.YthmdkkhcpdbdgaaW.PrintWords Go.Proofs.YthmdkkhcpdbdgaaW.PrintLast Go.Proofs.YthmdkkhcpdbdgaaW.PrintMore

theorem low_upd {s : ByteArray} {w wr : World} {k : Nat} (h : Low s w wr k) (hks : k < s.size) {x : Int} (hx : Value.int .u8 x = Value.int .u8 (lowI (byteAt s k))) : Low s w (wr.setCell ⟨w.heap.size, k, none⟩ (.int .u8 x)) (k + 1) := by
  rw [hx]; exact low_store h hks
theorem low_back {s : ByteArray} {w wr : World} {k : Nat} (h : Low s w wr k) (hk : k = s.size) (cap : Nat) :
    (convert 45 9 (.slice (some ⟨w.heap.size, 0, none⟩) s.size cap)).run Try.prog wr = .ok (.string (strOfNums (lowOf s))) wr := by
  subst hk
  exact run_convert_bytes_arg (P := Try.prog) wr 45 5 Try.underlying45 Try.underlying5 w.heap.size 0 s.size cap (lowOf s) (lowOf_length s) (fun i hi => by rw [Nat.zero_add, h.cell i hi, lowOf_at s i hi]) 9 Try.underlying9
set_option maxHeartbeats 1000000 in
set_option maxRecDepth 100000 in
theorem clean_Lower.calls (a0 : ByteArray) (r : ByteArray) (w : World) (h : clean_Lower.f a0 = some r) :
    Calls Try.prog 17 #[.string a0] w fun e w' => e = .returned (.string r) ∧ Below w.heap.size w w' := by
  unfold clean_Lower.f at h
  split at h
  · rename_i hs
    obtain rfl := Option.some.inj h
    clear h
    have hconv := Lib.run_convert_string_bytes (P := Try.prog) w 9 45 5 a0 Try.underlying9 Try.underlying45 Try.underlying5
    have hlow : Hid (Low a0 w (bytesWorld w 5 a0) 0) := low_start a0 w
    obtain ⟨cap, hcap⟩ : ∃ cap, grownCap w a0.size 0 5 = cap := ⟨_, rfl⟩
    obtain ⟨W1, hW1⟩ : ∃ W1, bytesWorld w 5 a0 = W1 := ⟨_, rfl⟩
    rw [hcap, hW1] at hconv
    rw [hW1] at hlow
    clear hcap hW1
    go_enter Try.func17, Try.ntmps17
    go_wp2
    go_loopw [10] (fun i wr => ∃ k : Nat, k ≤ a0.size ∧ i = .int .i64 k ∧ Hid (Low a0 w wr k)) (fun i _ => a0.size - (RowKit.intOf i).toNat)
    case atStart => exact ⟨0, Nat.zero_le _, rfl, hlow⟩
    case round =>
      obtain ⟨k, hk, rfl, H⟩ := hrel
      clear hlow hconv
      by_cases hlt : k < a0.size
      · have hc := H.out.cell k hlt
        have hf := H.out.free k hlt
        have hl : lowAt a0 k k = byteAt a0 k := by unfold lowAt; rw [if_neg (by omega)]
        rw [hl] at hc
        have hb := byteAt_bd a0 k
        have HL : Hid (lowI (byteAt a0 k) = if 65 ≤ byteAt a0 k ∧ byteAt a0 k ≤ 90 then byteAt a0 k + 32 else byteAt a0 k) := rfl
        clear hl
        generalize hx : byteAt a0 k = x at hc hb HL
        have HX : Hid (byteAt a0 k = x) := hx
        clear hx
        by_cases h1 : 65 ≤ x
        · by_cases h2 : x ≤ 90
          · go_wp2
            go_roundw
            case rel => exact ⟨k + 1, by omega, by go_num, low_upd H.out hlt (by rw [HX.out, HL.out, if_pos ⟨h1, h2⟩])⟩
            case measure => simp [RowKit.intOf]; omega
          · go_wp2
            go_roundw
            case rel => exact ⟨k + 1, by omega, by go_num, low_keep H.out (by rw [HX.out, HL.out, if_neg (by omega)])⟩
            case measure => simp [RowKit.intOf]; omega
        · go_wp2
          go_roundw
          case rel => exact ⟨k + 1, by omega, by go_num, low_keep H.out (by rw [HX.out, HL.out, if_neg (by omega)])⟩
          case measure => simp [RowKit.intOf]; omega
      · have hback := low_back H.out (show k = a0.size by omega) cap
        go_wp2
        go_ret
        exact ⟨rfl, H.out.below⟩
  · cases h
end Go.Proofs.Ythmdkkhcpdbdgaa.Gv
