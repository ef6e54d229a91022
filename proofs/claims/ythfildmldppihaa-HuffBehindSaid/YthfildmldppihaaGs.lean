/- Coder.Decode. -/
import Derived.Test.YthfildmldppihaaGr
import Derived.Test.YthfildmldppihaaProg
import Derived.Below
import Derived.Deep.RegionLaw
import Derived.Deep.Draws
import Derived.Deep.AppendLies
import Derived.Maps.AppendAt
import Derived.OwnWalk
import Derived.Laws.BytesArg
import Derived.Laws.MakeOwn
import Derived.Laws.OwnMore
import Derived.Deep.OwnRows
import Derived.Tactics
import Derived.Lib.ConvBytes
import Derived.Laws.Slices
import Derived.WalkKit
import Derived.KernelRfl
import Derived.RowKit3
import Derived.Deep.LoopGhost
import Derived.Deep.QuietTactic
import Derived.BigQuiet
import Derived.WideLaws
import Derived.Deep.DeepCutAuto
import Derived.Deep.CutBlock
import Derived.Deep.RegionHeld3
import Derived.Laws.Rows
import Derived.Lib.AppendStr
import Derived.ArgAppend
import Derived.Laws.IdiomCopy
import Derived.OrdersHeld
import Derived.Laws.BitsLemmas
import Derived.RowKit
import Derived.Test.YthfildmldppihaaWWords
import Derived.Test.YthfildmldppihaaWLast
import Derived.Test.YthfildmldppihaaWTab
import Derived.Test.YthfildmldppihaaWFour
import Derived.Test.YthfildmldppihaaWQPut
import Derived.Test.YthfildmldppihaaWApart
import Derived.Test.YthfildmldppihaaWArr
import Derived.Test.YthfildmldppihaaWZeros
import Derived.Test.YthfildmldppihaaWFoot
import Derived.Test.YthfildmldppihaaWKept
import Derived.Test.YthfildmldppihaaWShare
import Derived.Test.YthfildmldppihaaWN
import Derived.Test.YthfildmldppihaaWFootNe
import Derived.Test.YthfildmldppihaaWAt
import Derived.Test.YthfildmldppihaaWEqStruct
import Derived.Test.YthfildmldppihaaWRepsOne
import Derived.Test.YthfildmldppihaaWInv
import Derived.Test.YthfildmldppihaaWInvWords
import Derived.Test.YthfildmldppihaaWGuard
import Derived.Test.YthfildmldppihaaWNEv
import Derived.Test.YthfildmldppihaaWMore
namespace Go.Proofs.Ythfildmldppihaa.Gs
open Go.RowKit Go.Proofs.Ythfildmldppihaa.Ga Go.Proofs.Ythfildmldppihaa.Gi Go.Proofs.Ythfildmldppihaa.Gj Go.Proofs.Ythfildmldppihaa.Gk Go.Proofs.Ythfildmldppihaa.Gm Go.Proofs.Ythfildmldppihaa.Gp Go.Proofs.YthfildmldppihaaW.PrintWords Go.Proofs.YthfildmldppihaaW.PrintLast Go.Proofs.YthfildmldppihaaW.PrintMore

/-- Where decoding stands: the code so far, its bits, whether all were ones, what has come out. -/
structure St where
  code : Nat
  n : Nat
  ones : Bool
  out : List Int
/-- One bit more; none: no code is so long; an inner none: the text's end was met. -/
def bitD (bit : Nat) (s : St) : Option (Option St) :=
  if s.n < 30 ∧ s.code < 1073741824 then
    (if sy (s.code * 2 + bit) (s.n + 1) < 0 then some (some ⟨s.code * 2 + bit, s.n + 1, s.ones && bit == 1, s.out⟩)
     else if sy (s.code * 2 + bit) (s.n + 1) = 256 then some none
     else some (some ⟨0, 0, true, s.out ++ [sy (s.code * 2 + bit) (s.n + 1)]⟩))
  else none
/-- A byte's last i bits. -/
def byteD (c : Nat) : Nat → St → Option (Option St)
  | 0, s => some (some s)
  | i + 1, s => match bitD (c / 2 ^ i % 2) s with
    | some (some s') => byteD c i s'
    | some none => some none
    | none => none
def decD : List Int → St → Option (Option St)
  | [], s => some (some s)
  | c :: l, s => match byteD c.toNat 8 s with
    | some (some s') => decD l s'
    | some none => some none
    | none => none
/-- What comes out, and the error's number. -/
def dec (l : List Int) : Option (List Int × Int) :=
  match decD l ⟨0, 0, true, []⟩ with
  | some (some s) => if 7 < s.n ∨ s.ones = false then some ([], 20) else some (s.out, 0)
  | some none => some ([], 21)
  | none => none
theorem sy_bd (code n : Nat) (hn : n < 31) : -1 ≤ sy code n ∧ sy code n < 257 := by
  unfold sy
  split
  · rename_i h
    have hS := S_bd n hn
    have := o_bd (S n + (code - F n)) (by omega)
    omega
  · omega

theorem bits_or_u32_nat (a b : Nat) (ha : a < 4294967296) (hb : b < 4294967296) : bits .or .u32 (a : Int) (b : Int) = ((a ||| b : Nat) : Int) := by
  have hx : a ||| b < 2 ^ 32 := Nat.or_lt_two_pow (by omega) (by omega)
  have h1 : (BitVec.ofInt 32 (a : Int)).toNat = a := by
    rw [BitVec.ofInt_natCast, BitVec.toNat_ofNat]; exact Nat.mod_eq_of_lt (by omega)
  have h2 : (BitVec.ofInt 32 (b : Int)).toNat = b := by
    rw [BitVec.ofInt_natCast, BitVec.toNat_ofNat]; exact Nat.mod_eq_of_lt (by omega)
  show IntKind.u32.wrap ((BitVec.ofInt 32 (a : Int) ||| BitVec.ofInt 32 (b : Int)).toNat : Int) = _
  rw [BitVec.toNat_or, h1, h2, IntKind.wrap_u32]
  omega
theorem bits_and1_u32_nat (a : Nat) (ha : a < 4294967296) : bits .and .u32 (a : Int) 1 = ((a % 2 : Nat) : Int) := by
  have h1 : (BitVec.ofInt 32 (a : Int)).toNat = a := by
    rw [BitVec.ofInt_natCast, BitVec.toNat_ofNat]; exact Nat.mod_eq_of_lt (by omega)
  show IntKind.u32.wrap ((BitVec.ofInt 32 (a : Int) &&& BitVec.ofInt 32 (1 : Int)).toNat : Int) = _
  rw [BitVec.toNat_and, h1, show (BitVec.ofInt 32 (1 : Int)).toNat = 1 from rfl, Nat.and_one_is_mod, IntKind.wrap_u32]
  omega
set_option maxHeartbeats 8000000 in
set_option maxRecDepth 100000 in
theorem decode_calls (b : Nat) (W0 W : World) (hbase : W0.heap.size ≤ b) (hB : Below W0.heap.size W0 W) (hget : Calls Try.prog 45 #[.pointer (some ⟨b, 0, none⟩)] W fun e w' => e = .returned (.pointer (some ⟨b, 0, none⟩)) ∧ Md b w' ∧ Else b W w')
    (A0 : Option Addr) (c0 : Nat) (l0 : List Int) (hr0 : Kd.C (Kd.int .u8) W0 A0 l0.length l0) (hlen : l0.length ≤ 100000) (h8 : ∀ i : Nat, i < l0.length → 0 ≤ rd l0 i ∧ rd l0 i < 256) (r1 : List Int) (r2 : Int) (hd : dec l0 = some (r1, r2)) :
    Calls Try.prog 31 #[.pointer (some ⟨b, 0, none⟩), .slice A0 l0.length c0] W fun e w' => (∃ v, e = .returned (.tuple #[v, .int .i64 r2]) ∧ Kd.R (Kd.int .u8) 5 w' W0.heap.size (fun k => k ≠ b) v r1) ∧ Below W0.heap.size W0 w' ∧ Md b w' := by
  have hu84 := Try.underlying84
  have mixed : Try.prog.follows .mixedOrders = true := by kernel_rfl
  have HG : Aside0 (Calls Try.prog 45 #[.pointer (some ⟨b, 0, none⟩)] W fun e w' => e = .returned (.pointer (some ⟨b, 0, none⟩)) ∧ Md b w' ∧ Below W0.heap.size W0 w') := ⟨hget.mono fun e w' ⟨he, hm, hel⟩ => ⟨he, hm, hB.trans ⟨hel.os, hel.tape, hel.output, hel.size, fun k hk => hel.block k (Nat.lt_of_lt_of_le hk hB.size) (by omega)⟩⟩⟩
  have HR0 := Aside0.mk hr0
  have HD := Aside0.mk hd
  clear hget hr0 hB hd
  go_enter Try.func31, Try.ntmps31
  go_wp2_with (go_at_call 45; refine HG.out.mono ?_; rintro e w1 ⟨rfl, hm, hb⟩; have HM := Aside0.mk hm; have HB := Aside0.mk hb; clear hm hb)
  go_loopg [6, 7, 8, 9, 19] l0.length (fun g1 v6 v7 v8 v9 vi wr => ∃ (i : Nat) (s : St), v7 = .int .u32 s.code ∧ v8 = .int .i64 s.n ∧ v9 = .bool s.ones ∧ vi = .int .i64 i ∧ i ≤ l0.length ∧ l0.length - i ≤ g1 ∧ s.out.length ≤ 8 * i ∧
      Aside0 (Kd.R (Kd.int .u8) 5 wr W0.heap.size (fun k => k ≠ b) v6 s.out) ∧ Aside0 (Below W0.heap.size W0 wr) ∧ Aside0 (Md b wr) ∧ Hid (decD (l0.drop i) s = decD l0 ⟨0, 0, true, []⟩))
  case atStart => exact ⟨0, ⟨0, 0, true, []⟩, rfl, rfl, rfl, rfl, by omega, by omega, by simp, ⟨Kd.R_nil _ _ _ _ _⟩, HB, HM, rfl⟩
  case round =>
    clear HB HM
    obtain ⟨i, s, rfl, rfl, rfl, rfl, hi, hg, ho, HO, HB, HM, HE⟩ := hrel
    by_cases hlt : i < l0.length
    · have hlz : (i : Int) < (l0.length : Int) := by omega
      have hd : decide ((i : Int) < (l0.length : Int)) = true := decide_eq_true hlz
      obtain ⟨c1, c2⟩ := h8 i hlt
      obtain ⟨ad, ead, hcell⟩ := Kd.at_int (Kd.C_below HR0.out HB.out) (i : Int) (by omega) hlz
      obtain ⟨c, hc⟩ : ∃ c : Nat, rd l0 i = (c : Int) := ⟨(rd l0 i).toNat, by omega⟩
      rw [hc, Int.toNat_natCast] at hcell
      rw [hc] at c1 c2
      have HC := Aside0.mk hc
      clear hc
      cases ead
      go_wp2
      go_loopg [6, 7, 8, 9, 12] 8 (fun g2 v6 v7 v8 v9 vj wr => ∃ (j : Nat) (t : St), v7 = .int .u32 t.code ∧ v8 = .int .i64 t.n ∧ v9 = .bool t.ones ∧ vj = .int .i64 ((j : Int) - 1) ∧ j ≤ 8 ∧ j ≤ g2 ∧ t.out.length + j ≤ 8 * i + 8 ∧
        Aside0 (Kd.R (Kd.int .u8) 5 wr W0.heap.size (fun k => k ≠ b) v6 t.out) ∧ Aside0 (Below W0.heap.size W0 wr) ∧ Aside0 (Md b wr) ∧ Hid (byteD c j t = byteD c 8 s))
      case atStart => exact ⟨8, s, rfl, rfl, rfl, by first | rfl | (congr 1), by omega, by omega, by omega, HO, HB, HM, rfl⟩
      case round =>
        clear HO HB HM hcell
        obtain ⟨j, t, rfl, rfl, rfl, rfl, hj8, hjg, hto, HO, HB, HM, HI⟩ := hrel
        cases j with
        | zero =>
          have hjz : ¬ (0 : Int) ≤ (-1 : Int) := by omega
          go_wp2
          go_roundg (l0.length - (i + 1))
          case measure => omega
          case rel => exact ⟨i + 1, t, rfl, rfl, rfl, by first | rfl | go_num, by omega, by omega, by omega, HO, HB, HM, (show _ = _ from by
            rw [← HE.out, drop_rd l0 i hlt, HC.out, decD, Int.toNat_natCast, ← HI.out]; rfl)⟩
        | succ jp =>
          have zj : ((jp + 1 : Nat) : Int) - 1 = (jp : Int) := by omega
          have hjz : (0 : Int) ≤ (jp : Int) := by omega
          have hjd : decide ((jp : Int) ≥ 0) = true := decide_eq_true hjz
          have hj7 : jp < 8 := by omega
          have hgd : t.n < 30 ∧ t.code < 1073741824 := by
            refine Decidable.byContradiction fun hn => ?_
            have h1 : byteD c (jp + 1) t = none := by rw [byteD, bitD, if_neg hn]
            have h2 : decD (l0.drop i) s = none := by
              rw [drop_rd l0 i hlt, HC.out, decD, Int.toNat_natCast, ← HI.out, h1]
            have h3 := HD.out
            unfold dec at h3
            rw [← HE.out, h2] at h3
            cases h3
          obtain ⟨hn30, hc30⟩ := hgd
          obtain ⟨bit, hb⟩ : ∃ bit, bit = c / 2 ^ jp % 2 := ⟨_, rfl⟩
          have hb2 : bit < 2 := by omega
          have hbit : bits .and .u32 ((c : Int) / 2 ^ jp % 4294967296) 1 = (bit : Int) := by
            have e1 : (c : Int) / 2 ^ jp % 4294967296 = ((c / 2 ^ jp % 4294967296 : Nat) : Int) := by
              rw [Int.natCast_emod, Int.natCast_ediv, Int.natCast_pow]; rfl
            rw [e1, bits_and1_u32_nat _ (Nat.mod_lt _ (by decide)), hb]; omega
          have hcode : bits .or .u32 ((t.code : Int) * 2 % 4294967296) (bit : Int) = ((t.code * 2 + bit : Nat) : Int) := by
            rw [show (t.code : Int) * 2 % 4294967296 = ((t.code * 2 : Nat) : Int) by omega, bits_or_u32_nat _ _ (by omega) (by omega)]
            congr 1
            have hbb : bit = 0 ∨ bit = 1 := by omega
            rcases hbb with rfl | rfl
            · simp
            · have h := Nat.two_pow_add_eq_or_of_lt (i := 1) (b := 1) (by decide) t.code
              rw [Nat.pow_one, Nat.mul_comm] at h
              exact h.symm
          have HBIT := Aside0.mk hb
          clear hb
          obtain ⟨code, n, ones, out⟩ := t
          dsimp only at *
          have hnz : (n : Int) < 30 := by omega
          have HSY := Aside0.mk (symbol_calls b (code * 2 + bit) (n + 1) (by omega) (by omega) wr HM.out)
          obtain ⟨o2, ho2⟩ : ∃ o2, o2 = (ones && bit == 1) := ⟨_, rfl⟩
          have HO2 := Aside0.mk ho2
          have hob : (ones = true ∧ ((bit : Int) == 1) = o2) ∨ (ones = false ∧ o2 = false) := by
            cases ones with
            | true => left; refine ⟨rfl, ?_⟩; rw [ho2]; have hbb : bit = 0 ∨ bit = 1 := by omega
                      rcases hbb with rfl | rfl <;> rfl
            | false => right; exact ⟨rfl, ho2⟩
          obtain ⟨cd, hcd⟩ : ∃ cd, cd = code * 2 + bit := ⟨_, rfl⟩
          obtain ⟨n1, hn1⟩ : ∃ n1, n1 = n + 1 := ⟨_, rfl⟩
          obtain ⟨sv, hsvd⟩ : ∃ sv, sv = sy cd n1 := ⟨_, rfl⟩
          have zn : (n : Int) + 1 = (n1 : Int) := by omega
          have hcode' : bits .or .u32 ((code : Int) * 2) (bit : Int) = (cd : Int) := by
            rw [← Int.emod_eq_of_lt (a := (code : Int) * 2) (b := 4294967296) (by omega) (by omega), hcode, hcd]
          have hsvb : -1 ≤ sv ∧ sv < 257 := by rw [hsvd]; exact sy_bd cd n1 (by omega)
          have hsv : sv < 0 ∨ sv = 256 ∨ (0 ≤ sv ∧ sv < 256) := by omega
          rw [← hcd] at hcode HSY
          rw [← hn1] at HSY
          rw [← hsvd] at HSY
          have HCD := Aside0.mk hcd
          have HN1 := Aside0.mk hn1
          have HSV := Aside0.mk hsvd
          have hn1b : n1 < 31 := by omega
          have hcdb : cd < 2147483648 := by omega
          clear hcd hn1 hsvd hsvb ho2
          rcases hob with ⟨rfl, hob⟩ | ⟨rfl, rfl⟩
          · have hob' : ((bit : Int) != 1) = !o2 := by rw [bne, hob]
            rcases hsv with hs | hs | hs
            · have hsd : decide (sv < 0) = true := decide_eq_true hs
              go_wp2_with (first | (go_at_call 46; refine HSY.out.mono ?_; rintro e w9 ⟨rfl, ⟨nd, rfl⟩⟩))
              go_roundg jp
              case measure => omega
              case rel => exact ⟨jp, ⟨cd, n1, o2, out⟩, rfl, by first | rfl | (congr 1; omega), by first | rfl | (congr 1) , by first | rfl | (congr 1; omega), by omega, by omega, by (show out.length + jp ≤ _; omega), ⟨Kd.R_drewN HO.out nd⟩, ⟨pw_below_drewN HB.out nd⟩, ⟨HM.out.keep (pw_below_drewN (Below.refl _ _) nd)⟩, (show _ = _ from by
                  rw [← HI.out, byteD, bitD, if_pos ⟨hn30, hc30⟩, ← HBIT.out, ← HCD.out, ← HN1.out, ← HSV.out, if_pos hs, ← HO2.out])⟩
            · subst hs
              go_wp2_with (first | (go_at_call 46; refine HSY.out.mono ?_; rintro e w9 ⟨rfl, ⟨nd, rfl⟩⟩))
              go_ret2
              have hr : r1 = [] ∧ r2 = 21 := by
                have h1 : byteD c (jp + 1) ⟨code, n, true, out⟩ = some none := by
                  rw [byteD, bitD, if_pos ⟨hn30, hc30⟩, ← HBIT.out, ← HCD.out, ← HN1.out, ← HSV.out, if_neg (by decide), if_pos rfl]
                have h2 : decD (l0.drop i) s = some none := by rw [drop_rd l0 i hlt, HC.out, decD, Int.toNat_natCast, ← HI.out, h1]
                have h3 := HD.out
                unfold dec at h3
                rw [← HE.out, h2] at h3
                injection h3 with h3; injection h3 with h4 h5; exact ⟨h4.symm, h5.symm⟩
              obtain ⟨rfl, rfl⟩ := hr
              exact ⟨⟨_, rfl, Kd.R_nil _ _ _ _ _⟩, pw_below_drewN HB.out nd, HM.out.keep (pw_below_drewN (Below.refl _ _) nd)⟩
            · obtain ⟨hs1, hs2⟩ := hs
              have hsd : decide (sv < 0) = false := decide_eq_false (by omega)
              have hs256 : (sv == 256) = false := by rw [beq_eq_false_iff_ne]; omega
              have hs256n : (sv != 256) = true := by rw [bne_iff_ne]; omega
              have hsm : sv % 256 = sv := by omega
              go_wp2_with (first | (go_at_call 46; refine HSY.out.mono ?_; rintro e w9 ⟨rfl, ⟨nd, rfl⟩⟩) | ((with_reducible refine gate_builtin (b := .append) (xs := #[.tmp 51, .tmp 54]) rfl ?_); at_builtin; refine Kd.R_append (Kd.int .u8) (w0 := W0) W0.heap.size rfl (.tmp 51) (.tmp 54) 22 5 (.int .u8 0) 1 rfl Try.underlying22 info5 rfl (by decide) (by omega) u6 out sv [.int .u8 sv] (fun k => k ≠ b) (fun _ => False) rfl rfl ?aP (fun _ hk => hk.elim) ?aF ?aO ?aB ?aS ?aL ?_; (case aP => exact rfl); (case aB => exact pw_below_drewN HB.out nd); (case aF => exact (fun k hk => by have := (HM.out.keep (pw_below_drewN (Below.refl _ _) nd)).lt; omega)); (case aO => exact Kd.R_drewN HO.out nd); (case aS => exact below_size (pw_below_drewN HB.out nd)); (case aL => omega); intro v8 w8 ho hb hg hat; have HM8 := Aside0.mk (md_grown (HM.out.keep (pw_below_drewN (Below.refl _ _) nd)) hg (fun q => HO.out.1 b q rfl)); have HO8 := Aside0.mk ho; have HB8 := Aside0.mk hb; clear HO HB HM ho hb hg hat))
              go_roundg jp
              case measure => omega
              case rel => exact ⟨jp, ⟨0, 0, true, out ++ [sv]⟩, rfl, rfl, rfl, by first | rfl | (congr 1; omega), by omega, by omega, by (show (out ++ [sv]).length + jp ≤ _; rw [List.length_append, List.length_singleton]; omega), HO8, HB8, HM8, (show _ = _ from by
                  rw [← HI.out, byteD, bitD, if_pos ⟨hn30, hc30⟩, ← HBIT.out, ← HCD.out, ← HN1.out, ← HSV.out, if_neg (by omega), if_neg (by omega)])⟩
          · rcases hsv with hs | hs | hs
            · have hsd : decide (sv < 0) = true := decide_eq_true hs
              go_wp2_with (first | (go_at_call 46; refine HSY.out.mono ?_; rintro e w9 ⟨rfl, ⟨nd, rfl⟩⟩))
              go_roundg jp
              case measure => omega
              case rel => exact ⟨jp, ⟨cd, n1, false, out⟩, rfl, by first | rfl | (congr 1; omega), by first | rfl | (congr 1) , by first | rfl | (congr 1; omega), by omega, by omega, by (show out.length + jp ≤ _; omega), ⟨Kd.R_drewN HO.out nd⟩, ⟨pw_below_drewN HB.out nd⟩, ⟨HM.out.keep (pw_below_drewN (Below.refl _ _) nd)⟩, (show _ = _ from by
                  rw [← HI.out, byteD, bitD, if_pos ⟨hn30, hc30⟩, ← HBIT.out, ← HCD.out, ← HN1.out, ← HSV.out, if_pos hs, ← HO2.out])⟩
            · subst hs
              go_wp2_with (first | (go_at_call 46; refine HSY.out.mono ?_; rintro e w9 ⟨rfl, ⟨nd, rfl⟩⟩))
              go_ret2
              have hr : r1 = [] ∧ r2 = 21 := by
                have h1 : byteD c (jp + 1) ⟨code, n, false, out⟩ = some none := by
                  rw [byteD, bitD, if_pos ⟨hn30, hc30⟩, ← HBIT.out, ← HCD.out, ← HN1.out, ← HSV.out, if_neg (by decide), if_pos rfl]
                have h2 : decD (l0.drop i) s = some none := by rw [drop_rd l0 i hlt, HC.out, decD, Int.toNat_natCast, ← HI.out, h1]
                have h3 := HD.out
                unfold dec at h3
                rw [← HE.out, h2] at h3
                injection h3 with h3; injection h3 with h4 h5; exact ⟨h4.symm, h5.symm⟩
              obtain ⟨rfl, rfl⟩ := hr
              exact ⟨⟨_, rfl, Kd.R_nil _ _ _ _ _⟩, pw_below_drewN HB.out nd, HM.out.keep (pw_below_drewN (Below.refl _ _) nd)⟩
            · obtain ⟨hs1, hs2⟩ := hs
              have hsd : decide (sv < 0) = false := decide_eq_false (by omega)
              have hs256 : (sv == 256) = false := by rw [beq_eq_false_iff_ne]; omega
              have hs256n : (sv != 256) = true := by rw [bne_iff_ne]; omega
              have hsm : sv % 256 = sv := by omega
              go_wp2_with (first | (go_at_call 46; refine HSY.out.mono ?_; rintro e w9 ⟨rfl, ⟨nd, rfl⟩⟩) | ((with_reducible refine gate_builtin (b := .append) (xs := #[.tmp 51, .tmp 54]) rfl ?_); at_builtin; refine Kd.R_append (Kd.int .u8) (w0 := W0) W0.heap.size rfl (.tmp 51) (.tmp 54) 22 5 (.int .u8 0) 1 rfl Try.underlying22 info5 rfl (by decide) (by omega) u6 out sv [.int .u8 sv] (fun k => k ≠ b) (fun _ => False) rfl rfl ?aP (fun _ hk => hk.elim) ?aF ?aO ?aB ?aS ?aL ?_; (case aP => exact rfl); (case aB => exact pw_below_drewN HB.out nd); (case aF => exact (fun k hk => by have := (HM.out.keep (pw_below_drewN (Below.refl _ _) nd)).lt; omega)); (case aO => exact Kd.R_drewN HO.out nd); (case aS => exact below_size (pw_below_drewN HB.out nd)); (case aL => omega); intro v8 w8 ho hb hg hat; have HM8 := Aside0.mk (md_grown (HM.out.keep (pw_below_drewN (Below.refl _ _) nd)) hg (fun q => HO.out.1 b q rfl)); have HO8 := Aside0.mk ho; have HB8 := Aside0.mk hb; clear HO HB HM ho hb hg hat))
              go_roundg jp
              case measure => omega
              case rel => exact ⟨jp, ⟨0, 0, true, out ++ [sv]⟩, rfl, rfl, rfl, by first | rfl | (congr 1; omega), by omega, by omega, by (show (out ++ [sv]).length + jp ≤ _; rw [List.length_append, List.length_singleton]; omega), HO8, HB8, HM8, (show _ = _ from by
                  rw [← HI.out, byteD, bitD, if_pos ⟨hn30, hc30⟩, ← HBIT.out, ← HCD.out, ← HN1.out, ← HSV.out, if_neg (by omega), if_neg (by omega)])⟩
    · have hlz : ¬ (i : Int) < (l0.length : Int) := by omega
      have hd : decide ((i : Int) < (l0.length : Int)) = false := decide_eq_false hlz
      have hil : i = l0.length := by omega
      have HEE : Aside0 ((if 7 < s.n ∨ s.ones = false then some (([] : List Int), (20 : Int)) else some (s.out, 0)) = some (r1, r2)) := ⟨by
        have h3 := HD.out
        unfold dec at h3
        rw [← HE.out, List.drop_eq_nil_of_le (by omega)] at h3
        exact h3⟩
      clear HE hil
      obtain ⟨code, n, ones, out⟩ := s
      dsimp only at *
      by_cases hn7 : 7 < n
      · have hnz : (7 : Int) < (n : Int) := by omega
        have hnd : decide ((n : Int) > 7) = true := decide_eq_true hnz
        have hr : r1 = [] ∧ r2 = 20 := by
          have h3 := HEE.out; rw [if_pos (Or.inl hn7)] at h3
          injection h3 with h3; injection h3 with h4 h5; exact ⟨h4.symm, h5.symm⟩
        obtain ⟨rfl, rfl⟩ := hr
        go_wp2
        go_ret2
        exact ⟨⟨_, rfl, Kd.R_nil _ _ _ _ _⟩, HB.out, HM.out⟩
      · have hnz : ¬ (7 : Int) < (n : Int) := by omega
        have hnd : decide ((n : Int) > 7) = false := decide_eq_false hnz
        cases ones with
        | false =>
          have hr : r1 = [] ∧ r2 = 20 := by
            have h3 := HEE.out; rw [if_pos (Or.inr rfl)] at h3
            injection h3 with h3; injection h3 with h4 h5; exact ⟨h4.symm, h5.symm⟩
          obtain ⟨rfl, rfl⟩ := hr
          go_wp2
          go_ret2
          exact ⟨⟨_, rfl, Kd.R_nil _ _ _ _ _⟩, HB.out, HM.out⟩
        | true =>
          have hr : r1 = out ∧ r2 = 0 := by
            have h3 := HEE.out; rw [if_neg (by simp; omega)] at h3
            injection h3 with h3; injection h3 with h4 h5; exact ⟨h4.symm, h5.symm⟩
          obtain ⟨rfl, rfl⟩ := hr
          go_wp2
          go_ret2
          exact ⟨⟨_, rfl, HO.out⟩, HB.out, HM.out⟩
end Go.Proofs.Ythfildmldppihaa.Gs
