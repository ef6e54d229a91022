/- Contracts of some functions of the clean layer and of Go's library, by hand. -/
import Derived.Test.YthmdkkhcpdbdgaaProg
import Derived.Below
import Derived.Deep.Draws
import Derived.Deep.AppendLies
import Derived.Maps.AppendAt
import Derived.OwnWalk
import Derived.Laws.BytesArg
import Derived.Laws.MakeOwn
import Derived.Laws.OwnMore
import Derived.Deep.OwnRows
import Derived.Tactics
import Derived.Lib.ConvBytes
import Derived.Laws.Slices
import Derived.WalkKit
import Derived.KernelRfl
import Derived.RowKit3
import Derived.Deep.LoopGhost
import Derived.Deep.QuietTactic
import Derived.BigQuiet
import Derived.WideLaws
import Derived.Deep.DeepCutAuto
import Derived.Deep.CutBlock
import Derived.Deep.RegionHeld3
import Derived.Laws.Rows
import Derived.Lib.AppendStr
import Derived.ArgAppend
import Derived.Laws.IdiomCopy
import Derived.OrdersHeld
import Derived.Laws.BitsLemmas
import Derived.RowKit
import Derived.Test.YthmdkkhcpdbdgaaWWords
import Derived.Test.YthmdkkhcpdbdgaaWLast
import Derived.Test.YthmdkkhcpdbdgaaWTab
import Derived.Test.YthmdkkhcpdbdgaaWFour
import Derived.Test.YthmdkkhcpdbdgaaWQPut
import Derived.Test.YthmdkkhcpdbdgaaWApart
import Derived.Test.YthmdkkhcpdbdgaaWArr
import Derived.Test.YthmdkkhcpdbdgaaWZeros
import Derived.Test.YthmdkkhcpdbdgaaWFoot
import Derived.Test.YthmdkkhcpdbdgaaWKept
import Derived.Test.YthmdkkhcpdbdgaaWShare
import Derived.Test.YthmdkkhcpdbdgaaWN
import Derived.Test.YthmdkkhcpdbdgaaWFootNe
import Derived.Test.YthmdkkhcpdbdgaaWAt
import Derived.Test.YthmdkkhcpdbdgaaWEqStruct
import Derived.Test.YthmdkkhcpdbdgaaWRepsOne
import Derived.Test.YthmdkkhcpdbdgaaWInv
import Derived.Test.YthmdkkhcpdbdgaaWInvWords
import Derived.Test.YthmdkkhcpdbdgaaWGuard
import Derived.Test.YthmdkkhcpdbdgaaWNEv
import Derived.Test.YthmdkkhcpdbdgaaWMore
import Derived.Test.YthmdkkhcpdbdgaaShelf
import Derived.Outline
import Derived.Lib.OthersKept
import Derived.WalkSpells
namespace Go.Proofs.Ythmdkkhcpdbdgaa.Gv
open Go.RowKit Go.Lib Go.Proofs.YthmdkkhcpdbdgaaW.PrintWords Go.Proofs.YthmdkkhcpdbdgaaW.PrintLast Go.Proofs.YthmdkkhcpdbdgaaW.PrintMore

/-- Is a text one of five (the empty one counts not)? -/
def oneB (s : ByteArray) (l : List ByteArray) : Bool := l.any fun x => !x.toList.isEmpty && (x.toList == s.toList)

theorem ret_bool {a b : Bool} (h : a = b) : Ending.returned (.bool a) = .returned (.bool b) := by rw [h]
theorem one_step {s c : ByteArray} {l : List ByteArray} (H : oneB s l = false) (h : (!c.toList.isEmpty && (c.toList == s.toList)) = false) : oneB s (l ++ [c]) = false := by
  unfold oneB at H ⊢
  rw [List.any_append, H]; simp only [List.any_cons, List.any_nil, h]; rfl
theorem one_hit {s c : ByteArray} {l r : List ByteArray} (h : (!c.toList.isEmpty && (c.toList == s.toList)) = true) : oneB s (l ++ c :: r) = true := by
  unfold oneB
  rw [List.any_append, List.any_cons, h]; simp
set_option maxHeartbeats 1000000 in
set_option maxRecDepth 100000 in
theorem one_any (s c0 c1 c2 c3 c4 : ByteArray) (w : World) :
    Calls Try.prog 25 #[.string s, .agg #[.string c0, .string c1, .string c2, .string c3, .string c4]] w fun e w' => e = .returned (.bool (oneB s [c0, c1, c2, c3, c4])) ∧ Below w.heap.size w w' := by
  go_enter Try.func25, Try.ntmps25
  go_wp2
  go_loop [5] (fun i => ∃ k : Nat, k ≤ 5 ∧ i = .int .i64 k ∧ Hid (oneB s ([c0, c1, c2, c3, c4].take k) = false)) (fun i => 5 - (RowKit.intOf i).toNat)
  case atStart => exact ⟨0, Nat.zero_le _, rfl, rfl⟩
  case round =>
    obtain ⟨k, hk, rfl, H⟩ := hrel
    have hk' : k = 0 ∨ k = 1 ∨ k = 2 ∨ k = 3 ∨ k = 4 ∨ k = 5 := by omega
    clear hk
    rcases hk' with rfl | rfl | rfl | rfl | rfl | rfl
    · go_wp2
      · go_round
        case rel => exact ⟨1, by omega, rfl, one_step (l := []) H.out (by simp_all)⟩
        case measure => simp [RowKit.intOf]
      · go_ret
        exact ⟨ret_bool (one_hit (s := s) (l := []) (c := c0) (r := [c1, c2, c3, c4]) (by simp_all)).symm, (Below.refl _ _).alloc (Nat.le_refl _) _⟩
      · go_round
        case rel => exact ⟨1, by omega, rfl, one_step (l := []) H.out (by simp_all)⟩
        case measure => simp [RowKit.intOf]
    · go_wp2
      · go_round
        case rel => exact ⟨2, by omega, rfl, one_step (l := [c0]) H.out (by simp_all)⟩
        case measure => simp [RowKit.intOf]
      · go_ret
        exact ⟨ret_bool (one_hit (s := s) (l := [c0]) (c := c1) (r := [c2, c3, c4]) (by simp_all)).symm, (Below.refl _ _).alloc (Nat.le_refl _) _⟩
      · go_round
        case rel => exact ⟨2, by omega, rfl, one_step (l := [c0]) H.out (by simp_all)⟩
        case measure => simp [RowKit.intOf]
    · go_wp2
      · go_round
        case rel => exact ⟨3, by omega, rfl, one_step (l := [c0, c1]) H.out (by simp_all)⟩
        case measure => simp [RowKit.intOf]
      · go_ret
        exact ⟨ret_bool (one_hit (s := s) (l := [c0, c1]) (c := c2) (r := [c3, c4]) (by simp_all)).symm, (Below.refl _ _).alloc (Nat.le_refl _) _⟩
      · go_round
        case rel => exact ⟨3, by omega, rfl, one_step (l := [c0, c1]) H.out (by simp_all)⟩
        case measure => simp [RowKit.intOf]
    · go_wp2
      · go_round
        case rel => exact ⟨4, by omega, rfl, one_step (l := [c0, c1, c2]) H.out (by simp_all)⟩
        case measure => simp [RowKit.intOf]
      · go_ret
        exact ⟨ret_bool (one_hit (s := s) (l := [c0, c1, c2]) (c := c3) (r := [c4]) (by simp_all)).symm, (Below.refl _ _).alloc (Nat.le_refl _) _⟩
      · go_round
        case rel => exact ⟨4, by omega, rfl, one_step (l := [c0, c1, c2]) H.out (by simp_all)⟩
        case measure => simp [RowKit.intOf]
    · go_wp2
      · go_round
        case rel => exact ⟨5, by omega, rfl, one_step (l := [c0, c1, c2, c3]) H.out (by simp_all)⟩
        case measure => simp [RowKit.intOf]
      · go_ret
        exact ⟨ret_bool (one_hit (s := s) (l := [c0, c1, c2, c3]) (c := c4) (r := []) (by simp_all)).symm, (Below.refl _ _).alloc (Nat.le_refl _) _⟩
      · go_round
        case rel => exact ⟨5, by omega, rfl, one_step (l := [c0, c1, c2, c3]) H.out (by simp_all)⟩
        case measure => simp [RowKit.intOf]
    · go_wp2
      go_ret
      exact ⟨ret_bool H.out.symm, (Below.refl _ _).alloc (Nat.le_refl _) _⟩

def hops : List ByteArray := [⟨#[99, 111, 110, 110, 101, 99, 116, 105, 111, 110]⟩, ⟨#[107, 101, 101, 112, 45, 97, 108, 105, 118, 101]⟩, ⟨#[112, 114, 111, 120, 121, 45, 99, 111, 110, 110, 101, 99, 116, 105, 111, 110]⟩, ⟨#[116, 114, 97, 110, 115, 102, 101, 114, 45, 101, 110, 99, 111, 100, 105, 110, 103]⟩, ⟨#[117, 112, 103, 114, 97, 100, 101]⟩]
def sens : List ByteArray := [⟨#[97, 117, 116, 104, 111, 114, 105, 122, 97, 116, 105, 111, 110]⟩, ⟨#[112, 114, 111, 120, 121, 45, 97, 117, 116, 104, 111, 114, 105, 122, 97, 116, 105, 111, 110]⟩, ⟨#[99, 111, 111, 107, 105, 101]⟩, ⟨#[115, 101, 116, 45, 99, 111, 111, 107, 105, 101]⟩, ⟨#[]⟩]
def hopB (a b : ByteArray) : Bool := oneB a hops || ((a.toList == ([116, 101] : List UInt8)) && !(b.toList == ([116, 114, 97, 105, 108, 101, 114, 115] : List UInt8)))
def squintref21_Hop.f (a0 : ByteArray) (a1 : ByteArray) : Option Bool := some (hopB a0 a1)
def squintref21_Sensitive.f (a0 : ByteArray) : Option Bool := some (oneB a0 sens)
set_option maxHeartbeats 1000000 in
set_option maxRecDepth 100000 in
theorem squintref21_Hop.calls (a0 : ByteArray) (a1 : ByteArray) (r : Bool) (w : World) (h : squintref21_Hop.f a0 a1 = some r) :
    Calls Try.prog 14 #[.string a0, .string a1] w fun e w' => e = .returned (.bool r) ∧ Below w.heap.size w w' := by
  obtain rfl := Option.some.inj h
  clear h
  have HB : Hid (hopB a0 a1 = (oneB a0 hops || ((a0.toList == ([116, 101] : List UInt8)) && !(a1.toList == ([116, 114, 97, 105, 108, 101, 114, 115] : List UInt8))))) := rfl
  generalize hopB a0 a1 = r at HB
  cases h1 : oneB a0 hops <;> cases h2 : (a0.toList == ([116, 101] : List UInt8)) <;> cases h3 : (a1.toList == ([116, 114, 97, 105, 108, 101, 114, 115] : List UInt8))
  all_goals
    rw [h1, h2, h3] at HB
    have h1' := h1
    unfold hops at h1'
    have h2' : a0.toList = ([116, 101] : List UInt8) ↔ (a0.toList == ([116, 101] : List UInt8)) = true := beq_iff_eq.symm
    have h3' : a1.toList = ([116, 114, 97, 105, 108, 101, 114, 115] : List UInt8) ↔ (a1.toList == ([116, 114, 97, 105, 108, 101, 114, 115] : List UInt8)) = true := beq_iff_eq.symm
    rw [h2] at h2'
    rw [h3] at h3'
    clear h1
    go_enter Try.func14, Try.ntmps14
    go_wp2_with (go_at_call 25; refine (one_any _ _ _ _ _ _ _).mono ?_; rintro e w' ⟨rfl, hb⟩)
    go_ret
    exact ⟨by rw [HB.out]; rfl, by assumption⟩

set_option maxHeartbeats 1000000 in
set_option maxRecDepth 100000 in
theorem squintref21_Sensitive.calls (a0 : ByteArray) (r : Bool) (w : World) (h : squintref21_Sensitive.f a0 = some r) :
    Calls Try.prog 16 #[.string a0] w fun e w' => e = .returned (.bool r) ∧ Below w.heap.size w w' := by
  obtain rfl := Option.some.inj h
  clear h
  go_enter Try.func16, Try.ntmps16
  go_wp2_with (go_at_call 25; refine (one_any _ _ _ _ _ _ _).mono ?_; rintro e w' ⟨rfl, hb⟩)
  go_ret
  exact ⟨rfl, by assumption⟩

def strings_IndexByte.f (a0 : ByteArray) (a1 : Int) : Option Int := some (Lib.indexByte a0.data.toList a1.toNat.toUInt8)
theorem strings_IndexByte.calls (a0 : ByteArray) (a1 : Int) (r : Int) (w : World) (h : strings_IndexByte.f a0 a1 = some r) :
    Calls Try.prog 27 #[.string a0, .int .u8 a1] w fun e w' => e = .returned (.int .i64 r) ∧ Drawn0 w w' := by
  obtain rfl := Option.some.inj h
  exact (Try.strings_IndexByte a0 a1 w).mono fun e w' ⟨he, hw⟩ => ⟨he, hw ▸ Drawn0.refl _⟩

/-- A small letter for a great one. -/
def lowI (x : Int) : Int := if 65 ≤ x ∧ x ≤ 90 then x + 32 else x
def byteAt (s : ByteArray) (j : Nat) : Int := ((s.data.toList.getD j 0).toNat : Int)
theorem byteAt_bd (s : ByteArray) (j : Nat) : 0 ≤ byteAt s j ∧ byteAt s j ≤ 255 := by
  have := (s.data.toList.getD j 0).toNat_lt
  unfold byteAt; omega
def lowAt (s : ByteArray) (k j : Nat) : Int := if j < k then lowI (byteAt s j) else byteAt s j
def lowOf (s : ByteArray) : List Int := s.data.toList.map fun c => lowI (c.toNat : Int)
theorem lowOf_length (s : ByteArray) : (lowOf s).length = s.size := by unfold lowOf; rw [List.length_map]; exact (Lib.size_eq s).symm
theorem lowOf_at (s : ByteArray) (j : Nat) (h : j < s.size) : (lowOf s).getD j 0 = lowAt s s.size j := by
  have hl : j < s.data.toList.length := by rw [← Lib.size_eq]; exact h
  unfold lowOf lowAt byteAt
  rw [if_pos h, List.getD_eq_getElem?_getD, List.getElem?_map, List.getD_eq_getElem?_getD, List.getElem?_eq_getElem hl]; rfl
def clean_Lower.f (a0 : ByteArray) : Option ByteArray := if a0.size ≤ 140737488351232 then some (strOfNums (lowOf a0)) else none

/-- The row while it is turned: k letters are done. -/
structure Low (s : ByteArray) (w wr : World) (k : Nat) : Prop where
  cell : ∀ j, j < s.size → wr.cell? ⟨w.heap.size, j, none⟩ = some (.int .u8 (lowAt s k j))
  free : ∀ j, j < s.size → wr.frozen? ⟨w.heap.size, j, none⟩ = false
  below : Below w.heap.size w wr
theorem low_start (s : ByteArray) (w : World) : Low s w (bytesWorld w 5 s) 0 := by
  refine ⟨fun j hj => ?_, fun j hj => ?_, bytes_below (Below.refl _ _) (Nat.le_refl _) 5 s⟩
  · rw [bytesWorld_cell w 5 s j hj]; rfl
  · have hsz : s.size ≤ (bytesCells w 5 s).size := by simp [bytesCells]
    simp only [World.frozen?, bytesWorld_at_new]
    simp; omega
theorem low_keep {s : ByteArray} {w wr : World} {k : Nat} (h : Low s w wr k) (hk : lowI (byteAt s k) = byteAt s k) : Low s w wr (k + 1) := by
  refine ⟨fun j hj => ?_, h.free, h.below⟩
  rw [h.cell j hj]
  unfold lowAt
  by_cases hjk : j < k
  · rw [if_pos hjk, if_pos (by omega)]
  · by_cases he : j = k
    · subst he; rw [if_neg hjk, if_pos (by omega), hk]
    · rw [if_neg hjk, if_neg (by omega)]
theorem low_store {s : ByteArray} {w wr : World} {k : Nat} (h : Low s w wr k) (hks : k < s.size) : Low s w (wr.setCell ⟨w.heap.size, k, none⟩ (.int .u8 (lowI (byteAt s k)))) (k + 1) := by
  refine ⟨fun j hj => ?_, fun j hj => ?_, h.below.setCell (p := ⟨w.heap.size, k, none⟩) (Nat.le_refl _) _⟩
  · by_cases he : j = k
    · subst he
      rw [World.cell?_setCell_same' _ _ _ (by rw [h.cell j hj]; rfl)]
      unfold lowAt; rw [if_pos (by omega)]
    · rw [World.cell?_setCell_other _ _ _ _ (by intro q; injection q with _ q2 _; exact he q2.symm), h.cell j hj]
      unfold lowAt
      by_cases hjk : j < k
      · rw [if_pos hjk, if_pos (by omega)]
      · rw [if_neg hjk, if_neg (by omega)]
  · rw [World.frozen?_setCell]; exact h.free j hj
end Go.Proofs.Ythmdkkhcpdbdgaa.Gv
