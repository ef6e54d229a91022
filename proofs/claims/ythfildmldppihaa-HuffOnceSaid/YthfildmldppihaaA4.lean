/- Coder.Encode. huff.Encode, as the driver wants it. Coder.Decode. huff.Decode, as the driver wants it. -/
import Derived.Test.YthfildmldppihaaA3
import Derived.Test.YthfildmldppihaaProg
import Derived.Below
import Derived.Deep.RegionLaw
import Derived.Deep.Draws
import Derived.Deep.AppendLies
import Derived.Maps.AppendAt
import Derived.OwnWalk
import Derived.Laws.BytesArg
import Derived.Laws.MakeOwn
import Derived.Laws.OwnMore
import Derived.Deep.OwnRows
import Derived.Tactics
import Derived.Lib.ConvBytes
import Derived.Laws.Slices
import Derived.WalkKit
import Derived.KernelRfl
import Derived.RowKit3
import Derived.Deep.LoopGhost
import Derived.Deep.QuietTactic
import Derived.BigQuiet
import Derived.WideLaws
import Derived.Deep.DeepCutAuto
import Derived.Deep.CutBlock
import Derived.Deep.RegionHeld3
import Derived.Laws.Rows
import Derived.Lib.AppendStr
import Derived.ArgAppend
import Derived.Laws.IdiomCopy
import Derived.OrdersHeld
import Derived.Laws.BitsLemmas
import Derived.RowKit
import Derived.Test.YthfildmldppihaaWWords
import Derived.Test.YthfildmldppihaaWLast
import Derived.Test.YthfildmldppihaaWTab
import Derived.Test.YthfildmldppihaaWFour
import Derived.Test.YthfildmldppihaaWQPut
import Derived.Test.YthfildmldppihaaWApart
import Derived.Test.YthfildmldppihaaWArr
import Derived.Test.YthfildmldppihaaWZeros
import Derived.Test.YthfildmldppihaaWFoot
import Derived.Test.YthfildmldppihaaWKept
import Derived.Test.YthfildmldppihaaWShare
import Derived.Test.YthfildmldppihaaWN
import Derived.Test.YthfildmldppihaaWFootNe
import Derived.Test.YthfildmldppihaaWAt
import Derived.Test.YthfildmldppihaaWEqStruct
import Derived.Test.YthfildmldppihaaWRepsOne
import Derived.Test.YthfildmldppihaaWInv
import Derived.Test.YthfildmldppihaaWInvWords
import Derived.Test.YthfildmldppihaaWGuard
import Derived.Test.YthfildmldppihaaWNEv
import Derived.Test.YthfildmldppihaaWMore
/- Coder.Encode. -/
namespace Go.Proofs.Ythfildmldppihaa.Gp
open Go.RowKit Go.Proofs.Ythfildmldppihaa.Ga Go.Proofs.Ythfildmldppihaa.Gi Go.Proofs.Ythfildmldppihaa.Gj Go.Proofs.Ythfildmldppihaa.Gk Go.Proofs.YthfildmldppihaaW.PrintWords Go.Proofs.YthfildmldppihaaW.PrintLast Go.Proofs.YthfildmldppihaaW.PrintMore

def inn : Nat → Nat → Nat → List Int → List Int × Nat
  | 0, _, n, out => (out, n)
  | k + 1, h, n, out => if 8 ≤ n then inn k h (n - 8) (out ++ [((h / 2 ^ (n - 8) % 256 : Nat) : Int)]) else (out, n)
def nextH (h c : Nat) : Nat := (h * 2 ^ L c % 18446744073709551616) ||| C c
def encL : List Int → Nat → Nat → List Int → List Int
  | [], h, n, out => if 0 < n then out ++ [((h * 2 ^ (8 - n) % 256 ||| (2 ^ (8 - n) - 1) : Nat) : Int)] else out
  | c :: l, h, n, out => encL l (nextH h c.toNat) (inn 5 (nextH h c.toNat) (n + L c.toNat) out).2 (inn 5 (nextH h c.toNat) (n + L c.toNat) out).1

theorem inn_stop (k h n : Nat) (out : List Int) (hn : ¬ 8 ≤ n) : inn k h n out = (out, n) := by cases k <;> simp [inn, hn]
theorem drop_rd (l : List Int) (i : Nat) (h : i < l.length) : l.drop i = rd l (i : Int) :: l.drop (i + 1) := by
  rw [List.drop_eq_getElem_cons h]
  congr 1
  simp [rd, h]
theorem bits_or_u8_nat (a b : Nat) (ha : a < 256) (hb : b < 256) : bits .or .u8 (a : Int) (b : Int) = ((a ||| b : Nat) : Int) := by
  have hx : a ||| b < 2 ^ 8 := Nat.or_lt_two_pow (by omega) (by omega)
  have h1 : (BitVec.ofInt 8 (a : Int)).toNat = a := by
    rw [BitVec.ofInt_natCast, BitVec.toNat_ofNat]; exact Nat.mod_eq_of_lt (by omega)
  have h2 : (BitVec.ofInt 8 (b : Int)).toNat = b := by
    rw [BitVec.ofInt_natCast, BitVec.toNat_ofNat]; exact Nat.mod_eq_of_lt (by omega)
  show IntKind.u8.wrap ((BitVec.ofInt 8 (a : Int) ||| BitVec.ofInt 8 (b : Int)).toNat : Int) = _
  rw [BitVec.toNat_or, h1, h2, IntKind.wrap_u8]
  omega
theorem last_byte (h m : Nat) (hm : m < 8) : bits .or .u8 (IntKind.u8.wrap (IntKind.u64.wrap ((h : Int) * 2 ^ m))) (IntKind.u8.wrap (IntKind.u8.wrap (2 ^ m) - 1)) = ((h * 2 ^ m % 256 ||| (2 ^ m - 1) : Nat) : Int) := by
  have e1 : IntKind.u8.wrap (IntKind.u64.wrap ((h : Int) * 2 ^ m)) = ((h * 2 ^ m % 256 : Nat) : Int) := by
    rw [IntKind.wrap_u8, IntKind.wrap_u64, show (h : Int) * 2 ^ m = ((h * 2 ^ m : Nat) : Int) by rw [Int.natCast_mul, Int.natCast_pow]; rfl]
    omega
  have e2 : IntKind.u8.wrap (IntKind.u8.wrap (2 ^ m) - 1) = ((2 ^ m - 1 : Nat) : Int) := by
    have hc : m = 0 ∨ m = 1 ∨ m = 2 ∨ m = 3 ∨ m = 4 ∨ m = 5 ∨ m = 6 ∨ m = 7 := by omega
    rcases hc with rfl | rfl | rfl | rfl | rfl | rfl | rfl | rfl <;> decide
  rw [e1, e2]
  refine bits_or_u8_nat _ _ (Nat.mod_lt _ (by decide)) ?_
  have hc : m = 0 ∨ m = 1 ∨ m = 2 ∨ m = 3 ∨ m = 4 ∨ m = 5 ∨ m = 6 ∨ m = 7 := by omega
  rcases hc with rfl | rfl | rfl | rfl | rfl | rfl | rfl | rfl <;> decide
theorem md_grown {b : Nat} {W W' : World} {row : Option Nat} (h : Md b W) (hg : W.grownBy W' row) (hne : row ≠ some b) : Md b W' := by
  have hb : W'.heap[b]? = W.heap[b]? := hg.block b h.lt (fun e => hne e.symm)
  exact ⟨Nat.lt_of_lt_of_le h.lt hg.size, (World.cell?_of_block hb).trans h.c0, tb_keep h.tb (fun q _ => World.cell?_of_block hb) (fun q => World.frozen?_of_block hb)⟩
theorem info5 : (Try.prog.info? 5).map (fun i => (i.zero, i.size, i.bytes)) = some (some (.int .u8 0), 1, 1) := by kernel_rfl
set_option maxHeartbeats 8000000 in
set_option maxRecDepth 100000 in
theorem encode_calls (b : Nat) (W0 W : World) (hbase : W0.heap.size ≤ b) (hB : Below W0.heap.size W0 W) (hget : Calls Try.prog 45 #[.pointer (some ⟨b, 0, none⟩)] W fun e w' => e = .returned (.pointer (some ⟨b, 0, none⟩)) ∧ Md b w' ∧ Else b W w')
    (A0 : Option Addr) (c0 : Nat) (l0 : List Int) (hr0 : Kd.C (Kd.int .u8) W0 A0 l0.length l0) (hlen : l0.length ≤ 100000) (h8 : ∀ i : Nat, i < l0.length → 0 ≤ rd l0 i ∧ rd l0 i < 256) :
    Calls Try.prog 32 #[.pointer (some ⟨b, 0, none⟩), .slice A0 l0.length c0] W fun e w' => (∃ v, e = .returned v ∧ Kd.R (Kd.int .u8) 5 w' W0.heap.size (fun k => k ≠ b) v (encL l0 0 0 [])) ∧ Below W0.heap.size W0 w' ∧ Md b w' := by
  have hu79 := Try.underlying79
  have hu84 := Try.underlying84
  have mixed : Try.prog.follows .mixedOrders = true := by kernel_rfl
  have HG : Aside0 (Calls Try.prog 45 #[.pointer (some ⟨b, 0, none⟩)] W fun e w' => e = .returned (.pointer (some ⟨b, 0, none⟩)) ∧ Md b w' ∧ Below W0.heap.size W0 w') := ⟨hget.mono fun e w' ⟨he, hm, hel⟩ => ⟨he, hm, hB.trans ⟨hel.os, hel.tape, hel.output, hel.size, fun k hk => hel.block k (Nat.lt_of_lt_of_le hk hB.size) (by omega)⟩⟩⟩
  have HR0 := Aside0.mk hr0
  clear hget hr0 hB
  go_enter Try.func32, Try.ntmps32
  go_wp2_with (go_at_call 45; refine HG.out.mono ?_; rintro e w1 ⟨rfl, hm, hb⟩; have HM := Aside0.mk hm; have HB := Aside0.mk hb; clear hm hb)
  go_loopg [5, 6, 7, 14] l0.length (fun g1 v5 v6 v7 vi wr => ∃ (i h n : Nat) (out : List Int), v6 = .int .u64 h ∧ v7 = .int .i64 n ∧ vi = .int .i64 i ∧ i ≤ l0.length ∧ l0.length - i ≤ g1 ∧ h < 18446744073709551616 ∧ n < 8 ∧ out.length ≤ 5 * i ∧
      Aside0 (Kd.R (Kd.int .u8) 5 wr W0.heap.size (fun k => k ≠ b) v5 out) ∧ Aside0 (Below W0.heap.size W0 wr) ∧ Aside0 (Md b wr) ∧ Hid (encL (l0.drop i) h n out = encL l0 0 0 []))
  case atStart => exact ⟨0, 0, 0, [], rfl, rfl, rfl, by omega, by omega, by decide, by decide, by simp, ⟨Kd.R_nil _ _ _ _ _⟩, HB, HM, rfl⟩
  case round =>
    clear HB HM
    obtain ⟨i, h, n, out, rfl, rfl, rfl, hi, hg, hh, hn, ho, HO, HB, HM, HE⟩ := hrel
    by_cases hlt : i < l0.length
    · have hlz : (i : Int) < (l0.length : Int) := by omega
      have hd : decide ((i : Int) < (l0.length : Int)) = true := decide_eq_true hlz
      obtain ⟨c1, c2⟩ := h8 i hlt
      obtain ⟨ad, ead, hcell⟩ := Kd.at_int (Kd.C_below HR0.out HB.out) (i : Int) (by omega) hlz
      obtain ⟨c, hc⟩ : ∃ c : Nat, rd l0 i = (c : Int) := ⟨(rd l0 i).toNat, by omega⟩
      rw [hc, Int.toNat_natCast] at hcell
      rw [hc] at c1 c2
      have HC := Aside0.mk hc
      clear hc
      cases ead
      have hcl : c < 257 := by omega
      have hl1 : ∀ w, Calls Try.prog 43 #[.int .i64 (c : Int)] w fun e w' => e = .returned (.int .i64 (L c)) ∧ w' = w := fun w => long_calls c hcl w
      have hcode : wr.cell? ⟨b, 4 + c, none⟩ = some (.int .u32 (C c : Nat)) := by
        obtain ⟨j, hj, rfl⟩ := rank_of c hcl
        exact HM.out.tb.code j hj
      have hLb := L_bd c hcl
      have hCb := C_bd c hcl
      obtain ⟨lc, hlc⟩ : ∃ lc, lc = L c := ⟨_, rfl⟩
      obtain ⟨cc, hcc⟩ : ∃ cc, cc = C c := ⟨_, rfl⟩
      rw [← hlc] at hl1 hLb
      rw [← hcc] at hcode hCb
      have HLC := Aside0.mk hlc
      have HCC := Aside0.mk hcc
      obtain ⟨hN, hhN⟩ : ∃ hN, hN = nextH h c := ⟨_, rfl⟩
      have hNb : hN < 18446744073709551616 := by
        rw [hhN]; unfold nextH
        exact Nat.or_lt_two_pow (n := 64) (Nat.mod_lt _ (by decide)) (by rw [← hcc]; omega)
      have hbits : bits .or .u64 (IntKind.u64.wrap ((h : Int) * 2 ^ lc)) (cc : Int) = (hN : Int) := by
        have e1 : IntKind.u64.wrap ((h : Int) * 2 ^ lc) = ((h * 2 ^ lc % 18446744073709551616 : Nat) : Int) := by
          rw [IntKind.wrap_u64, show (h : Int) * 2 ^ lc = ((h * 2 ^ lc : Nat) : Int) by rw [Int.natCast_mul, Int.natCast_pow]; rfl]; rfl
        rw [e1, bits_or_u64_nat _ _ (Nat.mod_lt _ (by decide)) (by omega), hhN]
        unfold nextH
        rw [hlc, hcc]
      have HHN := Aside0.mk hhN
      clear hlc hcc hhN
      go_wp2
      go_quiet (first | (go_at_call 43; exact (hl1 _).mono (by rintro e w' ⟨rfl, rfl⟩; exact ⟨rfl, _, rfl⟩)))
      clear hbits
      go_wp2
      go_loopg [5, 7] 5 (fun g2 v5 v7 wr => ∃ (n2 : Nat) (out2 : List Int), v7 = .int .i64 n2 ∧ n2 ≤ 8 * g2 + 7 ∧ n2 < 40 ∧ out2.length + g2 ≤ 5 * i + 5 ∧
        Aside0 (Kd.R (Kd.int .u8) 5 wr W0.heap.size (fun k => k ≠ b) v5 out2) ∧ Aside0 (Below W0.heap.size W0 wr) ∧ Aside0 (Md b wr) ∧ Hid (inn g2 hN n2 out2 = inn 5 hN (n + lc) out))
      case atStart => exact ⟨n + lc, out, by first | rfl | (congr 1; omega), by omega, by omega, by omega, ⟨HO.out⟩, ⟨pw_below_drewN HB.out nq⟩, ⟨HM.out.keep (pw_below_drewN (Below.refl _ _) nq)⟩, rfl⟩
      case round =>
        clear HO HB HM hcode hcell
        obtain ⟨n2, out2, rfl, hn2, hn3, ho2, HO, HB, HM, HI⟩ := hrel
        by_cases h8n : 8 ≤ n2
        · have h8z : (8 : Int) ≤ (n2 : Int) := by omega
          have h8d : decide ((n2 : Int) ≥ 8) = true := decide_eq_true h8z
          obtain ⟨k, rfl⟩ : ∃ k, gk = k + 1 := ⟨gk - 1, by omega⟩
          obtain ⟨m, hm⟩ : ∃ m, m + 8 = n2 := ⟨n2 - 8, by omega⟩
          have zm : (n2 : Int) - 8 = (m : Int) := by omega
          go_wp2_with (first | ((with_reducible refine gate_builtin (b := .append) (xs := #[.tmp 40, .tmp 46]) rfl ?_); at_builtin; refine Kd.R_append (Kd.int .u8) (w0 := W0) W0.heap.size rfl (.tmp 40) (.tmp 46) 22 5 (.int .u8 0) 1 rfl Try.underlying22 info5 rfl (by decide) (by omega) u5 out2 ((hN : Int) / 2 ^ m % 256) [.int .u8 ((hN : Int) / 2 ^ m % 256)] (fun k => k ≠ b) (fun _ => False) rfl rfl ?aP (fun _ hk => hk.elim) ?aF ?aO ?aB ?aS ?aL ?_; (case aP => exact rfl); (case aB => exact HB.out); (case aF => exact (fun k hk => by have := HM.out.lt; omega)); (case aO => exact HO.out); (case aS => exact below_size HB.out); (case aL => omega); intro v8 w8 ho hb hg hat; have HM8 := Aside0.mk (md_grown HM.out hg (fun q => HO.out.1 b q rfl)); have HO8 := Aside0.mk ho; have HB8 := Aside0.mk hb; clear HO HB HM ho hb hg hat))
          go_roundg k
          case measure => omega
          case rel => exact ⟨m, out2 ++ [(hN : Int) / 2 ^ m % 256], by first | rfl | (congr 1; omega), by omega, by omega, by simp; omega, HO8, HB8, HM8, (show _ = _ from by rw [← HI.out, ← hm, inn, if_pos (by omega), show m + 8 - 8 = m by omega]; simp)⟩
        · have h8z : ¬ (8 : Int) ≤ (n2 : Int) := by omega
          have h8d : decide ((n2 : Int) ≥ 8) = false := decide_eq_false h8z
          have HII : Aside0 (inn 5 hN (n + lc) out = (out2, n2)) := ⟨by rw [← HI.out, inn_stop _ _ _ _ h8n]⟩
          clear HI
          go_wp2
          go_roundg (l0.length - (i + 1))
          case measure => omega
          case rel => exact ⟨i + 1, hN, n2, out2, rfl, rfl, by first | rfl | go_num, by omega, by omega, hNb, by omega, by omega, HO, HB, HM, (show _ = _ from by
              rw [← HE.out, drop_rd l0 i hlt, HC.out]
              show _ = encL (l0.drop (i + 1)) (nextH h (c : Int).toNat) (inn 5 (nextH h (c : Int).toNat) (n + L (c : Int).toNat) out).2 (inn 5 (nextH h (c : Int).toNat) (n + L (c : Int).toNat) out).1
              rw [Int.toNat_natCast, ← HHN.out, ← HLC.out, HII.out])⟩
    · have hlz : ¬ (i : Int) < (l0.length : Int) := by omega
      have hd : decide ((i : Int) < (l0.length : Int)) = false := decide_eq_false hlz
      have hil : i = l0.length := by omega
      have HEE : Aside0 (encL l0 0 0 [] = if 0 < n then out ++ [((h * 2 ^ (8 - n) % 256 ||| (2 ^ (8 - n) - 1) : Nat) : Int)] else out) := ⟨by rw [← HE.out, List.drop_eq_nil_of_le (by omega)]; rfl⟩
      clear HE hil
      by_cases hn0 : 0 < n
      · have hnz : (0 : Int) < (n : Int) := by omega
        have hnd : decide ((n : Int) > 0) = true := decide_eq_true hnz
        obtain ⟨m, hm⟩ : ∃ m, m + n = 8 := ⟨8 - n, by omega⟩
        have zm : (8 : Int) - (n : Int) = (m : Int) := by omega
        have hm1 : m < 8 := by omega
        have hm2 : 0 < m := by omega
        have ra : IntKind.i64.wrap ((8 : Int) - (n : Int)) = (m : Int) := by rw [IntKind.wrap_i64]; omega
        have rb : IntKind.i64.wrap (m : Int) = (m : Int) := by rw [IntKind.wrap_i64]; omega
        have hsu : ∀ W, (Op.shift .shl .u64 (h : Int) .i64 (m : Int)).run Try.prog W = .ok (.int .u64 (IntKind.u64.wrap ((h : Int) * 2 ^ m))) W := fun W => by go_simp
        have hs8 : ∀ W, (Op.shift .shl .u8 1 .i64 (m : Int)).run Try.prog W = .ok (.int .u8 (IntKind.u8.wrap (1 * 2 ^ m))) W := fun W => by go_simp
        obtain ⟨y, hy⟩ : ∃ y, y = (h * 2 ^ m % 256 ||| (2 ^ m - 1)) := ⟨_, rfl⟩
        have hbX : bits .or .u8 (IntKind.u8.wrap (IntKind.u64.wrap ((h : Int) * 2 ^ m))) (IntKind.u8.wrap (IntKind.u8.wrap (2 ^ m) - 1)) = (y : Int) := by rw [hy]; exact last_byte h m hm1
        have HY := Aside0.mk hy
        clear hy
        go_wp2
        go_region_law (refine Kd.R_append_step (Kd.int .u8) (w0 := W0) (W := wr.drew) W0.heap.size rfl (.tmp 51) (.tmp 62) 22 5 (.int .u8 0) 1 rfl Try.underlying22 info5 rfl (by decide) (by decide) u5 out (y : Int) [.int .u8 (y : Int)] (fun k => k ≠ b) (fun _ => False) rfl rfl rfl (fun _ hk => hk.elim) (fun k hk => by have h1 := HM.out.lt; intro e; subst e; exact Nat.lt_irrefl _ (Nat.lt_of_lt_of_le h1 hk)) (Kd.R_drew HO.out) (below_drew1 HB.out) (below_size (below_drew1 HB.out)) (by omega) ?_; intro v8 w8 ho hb hg hat; have HM8 := Aside0.mk (md_grown (HM.out.keep (below_drew1 (Below.refl _ _))) hg (fun q => HO.out.1 b q rfl)); have HO8 := Aside0.mk ho; have HB8 := Aside0.mk hb; clear HO HB HM ho hb hg hat)
        go_wp2
        go_ret
        exact ⟨⟨_, rfl, by rw [HEE.out, if_pos hn0, show 8 - n = m by omega, ← HY.out]; exact HO8.out⟩, HB8.out, HM8.out⟩
      · have hnz : ¬ (0 : Int) < (n : Int) := by omega
        have hnd : decide ((n : Int) > 0) = false := decide_eq_false hnz
        go_wp2
        go_ret
        exact ⟨⟨_, rfl, by rw [HEE.out, if_neg hn0]; exact HO.out⟩, HB.out, HM.out⟩
end Go.Proofs.Ythfildmldppihaa.Gp

/- huff.Encode, as the driver wants it. -/
namespace Go.Proofs.Ythfildmldppihaa.Gv
open Go.RowKit Go.Proofs.Ythfildmldppihaa.Gk Go.Proofs.Ythfildmldppihaa.Gl Go.Proofs.Ythfildmldppihaa.Gp Go.Proofs.YthfildmldppihaaW.PrintWords Go.Proofs.YthfildmldppihaaW.PrintLast Go.Proofs.YthfildmldppihaaW.PrintMore
def huff_Encode.f (l0 : List Int) : Option (List Int) := if l0.length ≤ 100000 ∧ ∀ i : Nat, i < l0.length → 0 ≤ rd l0 i ∧ rd l0 i < 256 then some (encL l0 0 0 []) else none
set_option maxRecDepth 100000 in
set_option maxHeartbeats 2000000 in
theorem huff_Encode.calls (A0 : Option Addr) (c0 : Nat) (l0 : List Int) (r : List Int) (w : World) (hr0 : Kd.C (Kd.int .u8) w A0 l0.length l0) (_hc0 : l0.length ≤ c0) (h : huff_Encode.f l0 = some r) :
    Calls Try.prog 23 #[.slice A0 l0.length c0] w fun e w' => ∃ v0_ : Value, e = .returned v0_ ∧ Kd.R (Kd.int .u8) 5 w' w.heap.size (fun _ => True) v0_ r ∧ Below w.heap.size w w' := by
  unfold huff_Encode.f at h
  split at h
  · rename_i hh
    obtain ⟨h1, h2⟩ := hh
    obtain rfl := Option.some.inj h
    have HE := Aside0.mk (encode_calls w.heap.size w (w.alloc (.cells Try.zeroCells84 84)) (Nat.le_refl _) ((Below.refl _ w).alloc (Nat.le_refl _) _) (get_first _ _ (new_is w)) A0 c0 l0 hr0 h1 h2)
    clear hr0 h h2
    go_enter Try.func23, Try.ntmps23
    go_wp2_with (first | (go_at_call 28; refine (new_calls _).mono ?_; rintro e w1 ⟨rfl, rfl⟩) | (go_at_call 32; refine HE.out.mono ?_; rintro e w2 ⟨⟨v, rfl, ho⟩, hb, hm⟩; have HO := Aside0.mk ho; have HB := Aside0.mk hb; clear ho hb hm))
    go_ret
    exact ⟨_, rfl, Kd.R_mono HO.out (fun _ _ => trivial), HB.out⟩
  · cases h
def huff_long.f (a0 : Int) : Option Int := if 0 ≤ a0 ∧ a0 < 257 then some ((Ga.L a0.toNat : Nat) : Int) else none
theorem huff_long.calls (a0 : Int) (r : Int) (w : World) (h : huff_long.f a0 = some r) : Calls Try.prog 43 #[.int .i64 a0] w fun e w' => e = .returned (.int .i64 r) ∧ Drawn0 w w' := by
  unfold huff_long.f at h
  split at h
  · rename_i hh
    obtain rfl := Option.some.inj h
    have q := Ga.long_calls a0.toNat (by omega) w
    rw [show ((a0.toNat : Nat) : Int) = a0 by omega] at q
    exact q.mono fun e w' hw => ⟨hw.1, by rw [hw.2]; exact Drawn0.refl _⟩
  · cases h
end Go.Proofs.Ythfildmldppihaa.Gv

/- Coder.Decode. -/
namespace Go.Proofs.Ythfildmldppihaa.Gs
open Go.RowKit Go.Proofs.Ythfildmldppihaa.Ga Go.Proofs.Ythfildmldppihaa.Gi Go.Proofs.Ythfildmldppihaa.Gj Go.Proofs.Ythfildmldppihaa.Gk Go.Proofs.Ythfildmldppihaa.Gm Go.Proofs.Ythfildmldppihaa.Gp Go.Proofs.YthfildmldppihaaW.PrintWords Go.Proofs.YthfildmldppihaaW.PrintLast Go.Proofs.YthfildmldppihaaW.PrintMore

/-- Where decoding stands: the code so far, its bits, whether all were ones, what has come out. -/
structure St where
  code : Nat
  n : Nat
  ones : Bool
  out : List Int
/-- One bit more; none: no code is so long; an inner none: the text's end was met. -/
def bitD (bit : Nat) (s : St) : Option (Option St) :=
  if s.n < 30 ∧ s.code < 1073741824 then
    (if sy (s.code * 2 + bit) (s.n + 1) < 0 then some (some ⟨s.code * 2 + bit, s.n + 1, s.ones && bit == 1, s.out⟩)
     else if sy (s.code * 2 + bit) (s.n + 1) = 256 then some none
     else some (some ⟨0, 0, true, s.out ++ [sy (s.code * 2 + bit) (s.n + 1)]⟩))
  else none
/-- A byte's last i bits. -/
def byteD (c : Nat) : Nat → St → Option (Option St)
  | 0, s => some (some s)
  | i + 1, s => match bitD (c / 2 ^ i % 2) s with
    | some (some s') => byteD c i s'
    | some none => some none
    | none => none
def decD : List Int → St → Option (Option St)
  | [], s => some (some s)
  | c :: l, s => match byteD c.toNat 8 s with
    | some (some s') => decD l s'
    | some none => some none
    | none => none
/-- What comes out, and the error's number. -/
def dec (l : List Int) : Option (List Int × Int) :=
  match decD l ⟨0, 0, true, []⟩ with
  | some (some s) => if 7 < s.n ∨ s.ones = false then some ([], 20) else some (s.out, 0)
  | some none => some ([], 21)
  | none => none
theorem sy_bd (code n : Nat) (hn : n < 31) : -1 ≤ sy code n ∧ sy code n < 257 := by
  unfold sy
  split
  · rename_i h
    have hS := S_bd n hn
    have := o_bd (S n + (code - F n)) (by omega)
    omega
  · omega

theorem bits_or_u32_nat (a b : Nat) (ha : a < 4294967296) (hb : b < 4294967296) : bits .or .u32 (a : Int) (b : Int) = ((a ||| b : Nat) : Int) := by
  have hx : a ||| b < 2 ^ 32 := Nat.or_lt_two_pow (by omega) (by omega)
  have h1 : (BitVec.ofInt 32 (a : Int)).toNat = a := by
    rw [BitVec.ofInt_natCast, BitVec.toNat_ofNat]; exact Nat.mod_eq_of_lt (by omega)
  have h2 : (BitVec.ofInt 32 (b : Int)).toNat = b := by
    rw [BitVec.ofInt_natCast, BitVec.toNat_ofNat]; exact Nat.mod_eq_of_lt (by omega)
  show IntKind.u32.wrap ((BitVec.ofInt 32 (a : Int) ||| BitVec.ofInt 32 (b : Int)).toNat : Int) = _
  rw [BitVec.toNat_or, h1, h2, IntKind.wrap_u32]
  omega
theorem bits_and1_u32_nat (a : Nat) (ha : a < 4294967296) : bits .and .u32 (a : Int) 1 = ((a % 2 : Nat) : Int) := by
  have h1 : (BitVec.ofInt 32 (a : Int)).toNat = a := by
    rw [BitVec.ofInt_natCast, BitVec.toNat_ofNat]; exact Nat.mod_eq_of_lt (by omega)
  show IntKind.u32.wrap ((BitVec.ofInt 32 (a : Int) &&& BitVec.ofInt 32 (1 : Int)).toNat : Int) = _
  rw [BitVec.toNat_and, h1, show (BitVec.ofInt 32 (1 : Int)).toNat = 1 from rfl, Nat.and_one_is_mod, IntKind.wrap_u32]
  omega
set_option maxHeartbeats 8000000 in
set_option maxRecDepth 100000 in
theorem decode_calls (b : Nat) (W0 W : World) (hbase : W0.heap.size ≤ b) (hB : Below W0.heap.size W0 W) (hget : Calls Try.prog 45 #[.pointer (some ⟨b, 0, none⟩)] W fun e w' => e = .returned (.pointer (some ⟨b, 0, none⟩)) ∧ Md b w' ∧ Else b W w')
    (A0 : Option Addr) (c0 : Nat) (l0 : List Int) (hr0 : Kd.C (Kd.int .u8) W0 A0 l0.length l0) (hlen : l0.length ≤ 100000) (h8 : ∀ i : Nat, i < l0.length → 0 ≤ rd l0 i ∧ rd l0 i < 256) (r1 : List Int) (r2 : Int) (hd : dec l0 = some (r1, r2)) :
    Calls Try.prog 31 #[.pointer (some ⟨b, 0, none⟩), .slice A0 l0.length c0] W fun e w' => (∃ v, e = .returned (.tuple #[v, .int .i64 r2]) ∧ Kd.R (Kd.int .u8) 5 w' W0.heap.size (fun k => k ≠ b) v r1) ∧ Below W0.heap.size W0 w' ∧ Md b w' := by
  have hu84 := Try.underlying84
  have mixed : Try.prog.follows .mixedOrders = true := by kernel_rfl
  have HG : Aside0 (Calls Try.prog 45 #[.pointer (some ⟨b, 0, none⟩)] W fun e w' => e = .returned (.pointer (some ⟨b, 0, none⟩)) ∧ Md b w' ∧ Below W0.heap.size W0 w') := ⟨hget.mono fun e w' ⟨he, hm, hel⟩ => ⟨he, hm, hB.trans ⟨hel.os, hel.tape, hel.output, hel.size, fun k hk => hel.block k (Nat.lt_of_lt_of_le hk hB.size) (by omega)⟩⟩⟩
  have HR0 := Aside0.mk hr0
  have HD := Aside0.mk hd
  clear hget hr0 hB hd
  go_enter Try.func31, Try.ntmps31
  go_wp2_with (go_at_call 45; refine HG.out.mono ?_; rintro e w1 ⟨rfl, hm, hb⟩; have HM := Aside0.mk hm; have HB := Aside0.mk hb; clear hm hb)
  go_loopg [6, 7, 8, 9, 19] l0.length (fun g1 v6 v7 v8 v9 vi wr => ∃ (i : Nat) (s : St), v7 = .int .u32 s.code ∧ v8 = .int .i64 s.n ∧ v9 = .bool s.ones ∧ vi = .int .i64 i ∧ i ≤ l0.length ∧ l0.length - i ≤ g1 ∧ s.out.length ≤ 8 * i ∧
      Aside0 (Kd.R (Kd.int .u8) 5 wr W0.heap.size (fun k => k ≠ b) v6 s.out) ∧ Aside0 (Below W0.heap.size W0 wr) ∧ Aside0 (Md b wr) ∧ Hid (decD (l0.drop i) s = decD l0 ⟨0, 0, true, []⟩))
  case atStart => exact ⟨0, ⟨0, 0, true, []⟩, rfl, rfl, rfl, rfl, by omega, by omega, by simp, ⟨Kd.R_nil _ _ _ _ _⟩, HB, HM, rfl⟩
  case round =>
    clear HB HM
    obtain ⟨i, s, rfl, rfl, rfl, rfl, hi, hg, ho, HO, HB, HM, HE⟩ := hrel
    by_cases hlt : i < l0.length
    · have hlz : (i : Int) < (l0.length : Int) := by omega
      have hd : decide ((i : Int) < (l0.length : Int)) = true := decide_eq_true hlz
      obtain ⟨c1, c2⟩ := h8 i hlt
      obtain ⟨ad, ead, hcell⟩ := Kd.at_int (Kd.C_below HR0.out HB.out) (i : Int) (by omega) hlz
      obtain ⟨c, hc⟩ : ∃ c : Nat, rd l0 i = (c : Int) := ⟨(rd l0 i).toNat, by omega⟩
      rw [hc, Int.toNat_natCast] at hcell
      rw [hc] at c1 c2
      have HC := Aside0.mk hc
      clear hc
      cases ead
      go_wp2
      go_loopg [6, 7, 8, 9, 12] 8 (fun g2 v6 v7 v8 v9 vj wr => ∃ (j : Nat) (t : St), v7 = .int .u32 t.code ∧ v8 = .int .i64 t.n ∧ v9 = .bool t.ones ∧ vj = .int .i64 ((j : Int) - 1) ∧ j ≤ 8 ∧ j ≤ g2 ∧ t.out.length + j ≤ 8 * i + 8 ∧
        Aside0 (Kd.R (Kd.int .u8) 5 wr W0.heap.size (fun k => k ≠ b) v6 t.out) ∧ Aside0 (Below W0.heap.size W0 wr) ∧ Aside0 (Md b wr) ∧ Hid (byteD c j t = byteD c 8 s))
      case atStart => exact ⟨8, s, rfl, rfl, rfl, by first | rfl | (congr 1), by omega, by omega, by omega, HO, HB, HM, rfl⟩
      case round =>
        clear HO HB HM hcell
        obtain ⟨j, t, rfl, rfl, rfl, rfl, hj8, hjg, hto, HO, HB, HM, HI⟩ := hrel
        cases j with
        | zero =>
          have hjz : ¬ (0 : Int) ≤ (-1 : Int) := by omega
          go_wp2
          go_roundg (l0.length - (i + 1))
          case measure => omega
          case rel => exact ⟨i + 1, t, rfl, rfl, rfl, by first | rfl | go_num, by omega, by omega, by omega, HO, HB, HM, (show _ = _ from by
            rw [← HE.out, drop_rd l0 i hlt, HC.out, decD, Int.toNat_natCast, ← HI.out]; rfl)⟩
        | succ jp =>
          have zj : ((jp + 1 : Nat) : Int) - 1 = (jp : Int) := by omega
          have hjz : (0 : Int) ≤ (jp : Int) := by omega
          have hjd : decide ((jp : Int) ≥ 0) = true := decide_eq_true hjz
          have hj7 : jp < 8 := by omega
          have hgd : t.n < 30 ∧ t.code < 1073741824 := by
            refine Decidable.byContradiction fun hn => ?_
            have h1 : byteD c (jp + 1) t = none := by rw [byteD, bitD, if_neg hn]
            have h2 : decD (l0.drop i) s = none := by
              rw [drop_rd l0 i hlt, HC.out, decD, Int.toNat_natCast, ← HI.out, h1]
            have h3 := HD.out
            unfold dec at h3
            rw [← HE.out, h2] at h3
            cases h3
          obtain ⟨hn30, hc30⟩ := hgd
          obtain ⟨bit, hb⟩ : ∃ bit, bit = c / 2 ^ jp % 2 := ⟨_, rfl⟩
          have hb2 : bit < 2 := by omega
          have hbit : bits .and .u32 ((c : Int) / 2 ^ jp % 4294967296) 1 = (bit : Int) := by
            have e1 : (c : Int) / 2 ^ jp % 4294967296 = ((c / 2 ^ jp % 4294967296 : Nat) : Int) := by
              rw [Int.natCast_emod, Int.natCast_ediv, Int.natCast_pow]; rfl
            rw [e1, bits_and1_u32_nat _ (Nat.mod_lt _ (by decide)), hb]; omega
          have hcode : bits .or .u32 ((t.code : Int) * 2 % 4294967296) (bit : Int) = ((t.code * 2 + bit : Nat) : Int) := by
            rw [show (t.code : Int) * 2 % 4294967296 = ((t.code * 2 : Nat) : Int) by omega, bits_or_u32_nat _ _ (by omega) (by omega)]
            congr 1
            have hbb : bit = 0 ∨ bit = 1 := by omega
            rcases hbb with rfl | rfl
            · simp
            · have h := Nat.two_pow_add_eq_or_of_lt (i := 1) (b := 1) (by decide) t.code
              rw [Nat.pow_one, Nat.mul_comm] at h
              exact h.symm
          have HBIT := Aside0.mk hb
          clear hb
          obtain ⟨code, n, ones, out⟩ := t
          dsimp only at *
          have hnz : (n : Int) < 30 := by omega
          have HSY := Aside0.mk (symbol_calls b (code * 2 + bit) (n + 1) (by omega) (by omega) wr HM.out)
          obtain ⟨o2, ho2⟩ : ∃ o2, o2 = (ones && bit == 1) := ⟨_, rfl⟩
          have HO2 := Aside0.mk ho2
          have hob : (ones = true ∧ ((bit : Int) == 1) = o2) ∨ (ones = false ∧ o2 = false) := by
            cases ones with
            | true => left; refine ⟨rfl, ?_⟩; rw [ho2]; have hbb : bit = 0 ∨ bit = 1 := by omega
                      rcases hbb with rfl | rfl <;> rfl
            | false => right; exact ⟨rfl, ho2⟩
          obtain ⟨cd, hcd⟩ : ∃ cd, cd = code * 2 + bit := ⟨_, rfl⟩
          obtain ⟨n1, hn1⟩ : ∃ n1, n1 = n + 1 := ⟨_, rfl⟩
          obtain ⟨sv, hsvd⟩ : ∃ sv, sv = sy cd n1 := ⟨_, rfl⟩
          have zn : (n : Int) + 1 = (n1 : Int) := by omega
          have hcode' : bits .or .u32 ((code : Int) * 2) (bit : Int) = (cd : Int) := by
            rw [← Int.emod_eq_of_lt (a := (code : Int) * 2) (b := 4294967296) (by omega) (by omega), hcode, hcd]
          have hsvb : -1 ≤ sv ∧ sv < 257 := by rw [hsvd]; exact sy_bd cd n1 (by omega)
          have hsv : sv < 0 ∨ sv = 256 ∨ (0 ≤ sv ∧ sv < 256) := by omega
          rw [← hcd] at hcode HSY
          rw [← hn1] at HSY
          rw [← hsvd] at HSY
          have HCD := Aside0.mk hcd
          have HN1 := Aside0.mk hn1
          have HSV := Aside0.mk hsvd
          have hn1b : n1 < 31 := by omega
          have hcdb : cd < 2147483648 := by omega
          clear hcd hn1 hsvd hsvb ho2
          rcases hob with ⟨rfl, hob⟩ | ⟨rfl, rfl⟩
          · have hob' : ((bit : Int) != 1) = !o2 := by rw [bne, hob]
            rcases hsv with hs | hs | hs
            · have hsd : decide (sv < 0) = true := decide_eq_true hs
              go_wp2_with (first | (go_at_call 46; refine HSY.out.mono ?_; rintro e w9 ⟨rfl, ⟨nd, rfl⟩⟩))
              go_roundg jp
              case measure => omega
              case rel => exact ⟨jp, ⟨cd, n1, o2, out⟩, rfl, by first | rfl | (congr 1; omega), by first | rfl | (congr 1) , by first | rfl | (congr 1; omega), by omega, by omega, by (show out.length + jp ≤ _; omega), ⟨Kd.R_drewN HO.out nd⟩, ⟨pw_below_drewN HB.out nd⟩, ⟨HM.out.keep (pw_below_drewN (Below.refl _ _) nd)⟩, (show _ = _ from by
                  rw [← HI.out, byteD, bitD, if_pos ⟨hn30, hc30⟩, ← HBIT.out, ← HCD.out, ← HN1.out, ← HSV.out, if_pos hs, ← HO2.out])⟩
            · subst hs
              go_wp2_with (first | (go_at_call 46; refine HSY.out.mono ?_; rintro e w9 ⟨rfl, ⟨nd, rfl⟩⟩))
              go_ret2
              have hr : r1 = [] ∧ r2 = 21 := by
                have h1 : byteD c (jp + 1) ⟨code, n, true, out⟩ = some none := by
                  rw [byteD, bitD, if_pos ⟨hn30, hc30⟩, ← HBIT.out, ← HCD.out, ← HN1.out, ← HSV.out, if_neg (by decide), if_pos rfl]
                have h2 : decD (l0.drop i) s = some none := by rw [drop_rd l0 i hlt, HC.out, decD, Int.toNat_natCast, ← HI.out, h1]
                have h3 := HD.out
                unfold dec at h3
                rw [← HE.out, h2] at h3
                injection h3 with h3; injection h3 with h4 h5; exact ⟨h4.symm, h5.symm⟩
              obtain ⟨rfl, rfl⟩ := hr
              exact ⟨⟨_, rfl, Kd.R_nil _ _ _ _ _⟩, pw_below_drewN HB.out nd, HM.out.keep (pw_below_drewN (Below.refl _ _) nd)⟩
            · obtain ⟨hs1, hs2⟩ := hs
              have hsd : decide (sv < 0) = false := decide_eq_false (by omega)
              have hs256 : (sv == 256) = false := by rw [beq_eq_false_iff_ne]; omega
              have hs256n : (sv != 256) = true := by rw [bne_iff_ne]; omega
              have hsm : sv % 256 = sv := by omega
              go_wp2_with (first | (go_at_call 46; refine HSY.out.mono ?_; rintro e w9 ⟨rfl, ⟨nd, rfl⟩⟩) | ((with_reducible refine gate_builtin (b := .append) (xs := #[.tmp 51, .tmp 54]) rfl ?_); at_builtin; refine Kd.R_append (Kd.int .u8) (w0 := W0) W0.heap.size rfl (.tmp 51) (.tmp 54) 22 5 (.int .u8 0) 1 rfl Try.underlying22 info5 rfl (by decide) (by omega) u6 out sv [.int .u8 sv] (fun k => k ≠ b) (fun _ => False) rfl rfl ?aP (fun _ hk => hk.elim) ?aF ?aO ?aB ?aS ?aL ?_; (case aP => exact rfl); (case aB => exact pw_below_drewN HB.out nd); (case aF => exact (fun k hk => by have := (HM.out.keep (pw_below_drewN (Below.refl _ _) nd)).lt; omega)); (case aO => exact Kd.R_drewN HO.out nd); (case aS => exact below_size (pw_below_drewN HB.out nd)); (case aL => omega); intro v8 w8 ho hb hg hat; have HM8 := Aside0.mk (md_grown (HM.out.keep (pw_below_drewN (Below.refl _ _) nd)) hg (fun q => HO.out.1 b q rfl)); have HO8 := Aside0.mk ho; have HB8 := Aside0.mk hb; clear HO HB HM ho hb hg hat))
              go_roundg jp
              case measure => omega
              case rel => exact ⟨jp, ⟨0, 0, true, out ++ [sv]⟩, rfl, rfl, rfl, by first | rfl | (congr 1; omega), by omega, by omega, by (show (out ++ [sv]).length + jp ≤ _; rw [List.length_append, List.length_singleton]; omega), HO8, HB8, HM8, (show _ = _ from by
                  rw [← HI.out, byteD, bitD, if_pos ⟨hn30, hc30⟩, ← HBIT.out, ← HCD.out, ← HN1.out, ← HSV.out, if_neg (by omega), if_neg (by omega)])⟩
          · rcases hsv with hs | hs | hs
            · have hsd : decide (sv < 0) = true := decide_eq_true hs
              go_wp2_with (first | (go_at_call 46; refine HSY.out.mono ?_; rintro e w9 ⟨rfl, ⟨nd, rfl⟩⟩))
              go_roundg jp
              case measure => omega
              case rel => exact ⟨jp, ⟨cd, n1, false, out⟩, rfl, by first | rfl | (congr 1; omega), by first | rfl | (congr 1) , by first | rfl | (congr 1; omega), by omega, by omega, by (show out.length + jp ≤ _; omega), ⟨Kd.R_drewN HO.out nd⟩, ⟨pw_below_drewN HB.out nd⟩, ⟨HM.out.keep (pw_below_drewN (Below.refl _ _) nd)⟩, (show _ = _ from by
                  rw [← HI.out, byteD, bitD, if_pos ⟨hn30, hc30⟩, ← HBIT.out, ← HCD.out, ← HN1.out, ← HSV.out, if_pos hs, ← HO2.out])⟩
            · subst hs
              go_wp2_with (first | (go_at_call 46; refine HSY.out.mono ?_; rintro e w9 ⟨rfl, ⟨nd, rfl⟩⟩))
              go_ret2
              have hr : r1 = [] ∧ r2 = 21 := by
                have h1 : byteD c (jp + 1) ⟨code, n, false, out⟩ = some none := by
                  rw [byteD, bitD, if_pos ⟨hn30, hc30⟩, ← HBIT.out, ← HCD.out, ← HN1.out, ← HSV.out, if_neg (by decide), if_pos rfl]
                have h2 : decD (l0.drop i) s = some none := by rw [drop_rd l0 i hlt, HC.out, decD, Int.toNat_natCast, ← HI.out, h1]
                have h3 := HD.out
                unfold dec at h3
                rw [← HE.out, h2] at h3
                injection h3 with h3; injection h3 with h4 h5; exact ⟨h4.symm, h5.symm⟩
              obtain ⟨rfl, rfl⟩ := hr
              exact ⟨⟨_, rfl, Kd.R_nil _ _ _ _ _⟩, pw_below_drewN HB.out nd, HM.out.keep (pw_below_drewN (Below.refl _ _) nd)⟩
            · obtain ⟨hs1, hs2⟩ := hs
              have hsd : decide (sv < 0) = false := decide_eq_false (by omega)
              have hs256 : (sv == 256) = false := by rw [beq_eq_false_iff_ne]; omega
              have hs256n : (sv != 256) = true := by rw [bne_iff_ne]; omega
              have hsm : sv % 256 = sv := by omega
              go_wp2_with (first | (go_at_call 46; refine HSY.out.mono ?_; rintro e w9 ⟨rfl, ⟨nd, rfl⟩⟩) | ((with_reducible refine gate_builtin (b := .append) (xs := #[.tmp 51, .tmp 54]) rfl ?_); at_builtin; refine Kd.R_append (Kd.int .u8) (w0 := W0) W0.heap.size rfl (.tmp 51) (.tmp 54) 22 5 (.int .u8 0) 1 rfl Try.underlying22 info5 rfl (by decide) (by omega) u6 out sv [.int .u8 sv] (fun k => k ≠ b) (fun _ => False) rfl rfl ?aP (fun _ hk => hk.elim) ?aF ?aO ?aB ?aS ?aL ?_; (case aP => exact rfl); (case aB => exact pw_below_drewN HB.out nd); (case aF => exact (fun k hk => by have := (HM.out.keep (pw_below_drewN (Below.refl _ _) nd)).lt; omega)); (case aO => exact Kd.R_drewN HO.out nd); (case aS => exact below_size (pw_below_drewN HB.out nd)); (case aL => omega); intro v8 w8 ho hb hg hat; have HM8 := Aside0.mk (md_grown (HM.out.keep (pw_below_drewN (Below.refl _ _) nd)) hg (fun q => HO.out.1 b q rfl)); have HO8 := Aside0.mk ho; have HB8 := Aside0.mk hb; clear HO HB HM ho hb hg hat))
              go_roundg jp
              case measure => omega
              case rel => exact ⟨jp, ⟨0, 0, true, out ++ [sv]⟩, rfl, rfl, rfl, by first | rfl | (congr 1; omega), by omega, by omega, by (show (out ++ [sv]).length + jp ≤ _; rw [List.length_append, List.length_singleton]; omega), HO8, HB8, HM8, (show _ = _ from by
                  rw [← HI.out, byteD, bitD, if_pos ⟨hn30, hc30⟩, ← HBIT.out, ← HCD.out, ← HN1.out, ← HSV.out, if_neg (by omega), if_neg (by omega)])⟩
    · have hlz : ¬ (i : Int) < (l0.length : Int) := by omega
      have hd : decide ((i : Int) < (l0.length : Int)) = false := decide_eq_false hlz
      have hil : i = l0.length := by omega
      have HEE : Aside0 ((if 7 < s.n ∨ s.ones = false then some (([] : List Int), (20 : Int)) else some (s.out, 0)) = some (r1, r2)) := ⟨by
        have h3 := HD.out
        unfold dec at h3
        rw [← HE.out, List.drop_eq_nil_of_le (by omega)] at h3
        exact h3⟩
      clear HE hil
      obtain ⟨code, n, ones, out⟩ := s
      dsimp only at *
      by_cases hn7 : 7 < n
      · have hnz : (7 : Int) < (n : Int) := by omega
        have hnd : decide ((n : Int) > 7) = true := decide_eq_true hnz
        have hr : r1 = [] ∧ r2 = 20 := by
          have h3 := HEE.out; rw [if_pos (Or.inl hn7)] at h3
          injection h3 with h3; injection h3 with h4 h5; exact ⟨h4.symm, h5.symm⟩
        obtain ⟨rfl, rfl⟩ := hr
        go_wp2
        go_ret2
        exact ⟨⟨_, rfl, Kd.R_nil _ _ _ _ _⟩, HB.out, HM.out⟩
      · have hnz : ¬ (7 : Int) < (n : Int) := by omega
        have hnd : decide ((n : Int) > 7) = false := decide_eq_false hnz
        cases ones with
        | false =>
          have hr : r1 = [] ∧ r2 = 20 := by
            have h3 := HEE.out; rw [if_pos (Or.inr rfl)] at h3
            injection h3 with h3; injection h3 with h4 h5; exact ⟨h4.symm, h5.symm⟩
          obtain ⟨rfl, rfl⟩ := hr
          go_wp2
          go_ret2
          exact ⟨⟨_, rfl, Kd.R_nil _ _ _ _ _⟩, HB.out, HM.out⟩
        | true =>
          have hr : r1 = out ∧ r2 = 0 := by
            have h3 := HEE.out; rw [if_neg (by simp; omega)] at h3
            injection h3 with h3; injection h3 with h4 h5; exact ⟨h4.symm, h5.symm⟩
          obtain ⟨rfl, rfl⟩ := hr
          go_wp2
          go_ret2
          exact ⟨⟨_, rfl, HO.out⟩, HB.out, HM.out⟩
end Go.Proofs.Ythfildmldppihaa.Gs

/- huff.Decode, as the driver wants it. -/
namespace Go.Proofs.Ythfildmldppihaa.Gv
open Go.RowKit Go.Proofs.Ythfildmldppihaa.Gk Go.Proofs.Ythfildmldppihaa.Gl Go.Proofs.Ythfildmldppihaa.Gp Go.Proofs.Ythfildmldppihaa.Gs Go.Proofs.YthfildmldppihaaW.PrintWords Go.Proofs.YthfildmldppihaaW.PrintLast Go.Proofs.YthfildmldppihaaW.PrintMore
def huff_Decode.f (l0 : List Int) : Option (List Int × Int) := if l0.length ≤ 100000 ∧ ∀ i : Nat, i < l0.length → 0 ≤ rd l0 i ∧ rd l0 i < 256 then dec l0 else none
set_option maxRecDepth 100000 in
set_option maxHeartbeats 2000000 in
theorem huff_Decode.calls (A0 : Option Addr) (c0 : Nat) (l0 : List Int) (r1 : List Int) (r2 : Int) (w : World) (hr0 : Kd.C (Kd.int .u8) w A0 l0.length l0) (_hc0 : l0.length ≤ c0) (h : huff_Decode.f l0 = some (r1, r2)) :
    Calls Try.prog 20 #[.slice A0 l0.length c0] w fun e w' => ∃ v0_ : Value, e = .returned (.tuple #[v0_, .int .i64 r2]) ∧ Kd.R (Kd.int .u8) 5 w' w.heap.size (fun _ => True) v0_ r1 ∧ Below w.heap.size w w' := by
  unfold huff_Decode.f at h
  split at h
  · rename_i hh
    obtain ⟨h1, h2⟩ := hh
    have HE := Aside0.mk (decode_calls w.heap.size w (w.alloc (.cells Try.zeroCells84 84)) (Nat.le_refl _) ((Below.refl _ w).alloc (Nat.le_refl _) _) (get_first _ _ (new_is w)) A0 c0 l0 hr0 h1 h2 r1 r2 h)
    clear hr0 h h2
    go_enter Try.func20, Try.ntmps20
    go_wp2_with (first | (go_at_call 28; refine (new_calls _).mono ?_; rintro e w1 ⟨rfl, rfl⟩) | (go_at_call 31; refine HE.out.mono ?_; rintro e w2 ⟨⟨v, rfl, ho⟩, hb, hm⟩; have HO := Aside0.mk ho; have HB := Aside0.mk hb; clear ho hb hm))
    go_ret2
    exact ⟨_, rfl, Kd.R_mono HO.out (fun _ _ => trivial), HB.out⟩
  · cases h
end Go.Proofs.Ythfildmldppihaa.Gv
