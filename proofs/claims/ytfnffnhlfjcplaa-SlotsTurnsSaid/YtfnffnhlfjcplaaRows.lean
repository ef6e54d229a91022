/-
  No cell of these rows narrows 'for every input' (looked for: loops, veiled, ifaces, maps, wideKeys, modest, calm, conditions, laid).
  DERIVED. THE GIVEN ROWS OF THIS SEAT. 11 by the template 'for every input the law returns true; each argument reads behind the call as it read before'; 0 by the template 'total and deterministic' (their statements: YtfnffnhlfjcplaaTotals.lean).
  GIVEN WITH THE SEED: the statements are not yours to turn. If you find one false, say at which input.
  Laid BY PROGRAM, IN A SANDBOX (cutbox-rows.mjs): the forced cells as the released guide's own fill.sh prints them over the translation 6d5f91b87692de4d… (all of the seat's roots in one cut). By AI agents, Wed Nov 11 2026. No macro, syntax, notation, axiom, sorry.
-/
import Derived.Test.YtfnffnhlfjcplaaChecked
import GoSem.Claim
import GoSem.ClaimJoined
import GoSem.ClaimMapViews
import Derived.JoinedTies
import Derived.KernelRfl
namespace Go.Proofs.Ytfnffnhlfjcplaa
/- THE CELL 'sum', in the pinned program and in every row, IS THE sha256 OF THE DUMP (.gsa) THAT YtfnffnhlfjcplaaProg.lean LOADS. Nothing in Lean hashes anything: it is a label: what it is worth is what the hold of that sum in a sandbox is worth. -/
noncomputable def Try.pinned : Pinned := { name := "ytfnffnhlfjcplaa", sum := "6d5f91b87692de4da4ce85dc51707a403c2b782fe2f881591f49423a63693be7", checked := Try.checked }
namespace Rows
def none {H : Type} : Left H := { results := [], args := [] }

/-- 'squintlaw19.SlotsOwners': WHATEVER THE INPUT: true; the input reads as it did. -/
def slotsOwnersSpec : ChangeSpec := { name := "slotsOwners", fn := fun _ => fun
  | [d1, d2] => { results := [.lit (.bool true)], args := [d1, d2] }
  | _ => none }
def slotsOwnersRow : OpenClaim := { program := "ytfnffnhlfjcplaa", sum := "6d5f91b87692de4da4ce85dc51707a403c2b782fe2f881591f49423a63693be7", func := "squint/squintlaw19.SlotsOwners", spec := "slotsOwners", apart := false }
def SlotsOwnersSaid : Prop := slotsOwnersRow.holds Try.pinned (OpenSpec.ofChange slotsOwnersSpec)

/-- ITS FALSE NEIGHBOUR: 'it returns false'. Refute it at one input. -/
def slotsOwnersWrong : ChangeSpec := { name := "slotsOwners", fn := fun _ => fun
  | [d1, d2] => { results := [.lit (.bool false)], args := [d1, d2] }
  | _ => none }
def SlotsOwnersWrongFalsely : Prop := slotsOwnersRow.holds Try.pinned (OpenSpec.ofChange slotsOwnersWrong)

/-- 'squintlaw19.SlotsNext': WHATEVER THE INPUT: true; the input reads as it did. -/
def slotsNextSpec : ChangeSpec := { name := "slotsNext", fn := fun _ => fun
  | [d1, d2, d3] => { results := [.lit (.bool true)], args := [d1, d2, d3] }
  | _ => none }
def slotsNextRow : OpenClaim := { program := "ytfnffnhlfjcplaa", sum := "6d5f91b87692de4da4ce85dc51707a403c2b782fe2f881591f49423a63693be7", func := "squint/squintlaw19.SlotsNext", spec := "slotsNext", apart := false }
def SlotsNextSaid : Prop := slotsNextRow.holds Try.pinned (OpenSpec.ofChange slotsNextSpec)

/-- ITS FALSE NEIGHBOUR: 'it returns false'. Refute it at one input. -/
def slotsNextWrong : ChangeSpec := { name := "slotsNext", fn := fun _ => fun
  | [d1, d2, d3] => { results := [.lit (.bool false)], args := [d1, d2, d3] }
  | _ => none }
def SlotsNextWrongFalsely : Prop := slotsNextRow.holds Try.pinned (OpenSpec.ofChange slotsNextWrong)

/-- 'squintlaw19.SlotsBetween': WHATEVER THE INPUT: true; the input reads as it did. -/
def slotsBetweenSpec : ChangeSpec := { name := "slotsBetween", fn := fun _ => fun
  | [d1, d2, d3] => { results := [.lit (.bool true)], args := [d1, d2, d3] }
  | _ => none }
def slotsBetweenRow : OpenClaim := { program := "ytfnffnhlfjcplaa", sum := "6d5f91b87692de4da4ce85dc51707a403c2b782fe2f881591f49423a63693be7", func := "squint/squintlaw19.SlotsBetween", spec := "slotsBetween", apart := false }
def SlotsBetweenSaid : Prop := slotsBetweenRow.holds Try.pinned (OpenSpec.ofChange slotsBetweenSpec)

/-- ITS FALSE NEIGHBOUR: 'it returns false'. Refute it at one input. -/
def slotsBetweenWrong : ChangeSpec := { name := "slotsBetween", fn := fun _ => fun
  | [d1, d2, d3] => { results := [.lit (.bool false)], args := [d1, d2, d3] }
  | _ => none }
def SlotsBetweenWrongFalsely : Prop := slotsBetweenRow.holds Try.pinned (OpenSpec.ofChange slotsBetweenWrong)

/-- 'squintlaw19.SlotsEnough': WHATEVER THE INPUT: true; the input reads as it did. -/
def slotsEnoughSpec : ChangeSpec := { name := "slotsEnough", fn := fun _ => fun
  | [d] => { results := [.lit (.bool true)], args := [d] }
  | _ => none }
def slotsEnoughRow : OpenClaim := { program := "ytfnffnhlfjcplaa", sum := "6d5f91b87692de4da4ce85dc51707a403c2b782fe2f881591f49423a63693be7", func := "squint/squintlaw19.SlotsEnough", spec := "slotsEnough", apart := false }
def SlotsEnoughSaid : Prop := slotsEnoughRow.holds Try.pinned (OpenSpec.ofChange slotsEnoughSpec)

/-- ITS FALSE NEIGHBOUR: 'it returns false'. Refute it at one input. -/
def slotsEnoughWrong : ChangeSpec := { name := "slotsEnough", fn := fun _ => fun
  | [d] => { results := [.lit (.bool false)], args := [d] }
  | _ => none }
def SlotsEnoughWrongFalsely : Prop := slotsEnoughRow.holds Try.pinned (OpenSpec.ofChange slotsEnoughWrong)

/-- 'squintlaw19.SlotsRounds': WHATEVER THE INPUT: true; the input reads as it did. -/
def slotsRoundsSpec : ChangeSpec := { name := "slotsRounds", fn := fun _ => fun
  | [d1, d2] => { results := [.lit (.bool true)], args := [d1, d2] }
  | _ => none }
def slotsRoundsRow : OpenClaim := { program := "ytfnffnhlfjcplaa", sum := "6d5f91b87692de4da4ce85dc51707a403c2b782fe2f881591f49423a63693be7", func := "squint/squintlaw19.SlotsRounds", spec := "slotsRounds", apart := false }
def SlotsRoundsSaid : Prop := slotsRoundsRow.holds Try.pinned (OpenSpec.ofChange slotsRoundsSpec)

/-- ITS FALSE NEIGHBOUR: 'it returns false'. Refute it at one input. -/
def slotsRoundsWrong : ChangeSpec := { name := "slotsRounds", fn := fun _ => fun
  | [d1, d2] => { results := [.lit (.bool false)], args := [d1, d2] }
  | _ => none }
def SlotsRoundsWrongFalsely : Prop := slotsRoundsRow.holds Try.pinned (OpenSpec.ofChange slotsRoundsWrong)

/-- 'squintlaw03.PrefixDecodes': WHATEVER THE INPUT: true; the input reads as it did. -/
def prefixDecodesSpec : ChangeSpec := { name := "prefixDecodes", fn := fun _ => fun
  | [d1, d2] => { results := [.lit (.bool true)], args := [d1, d2] }
  | _ => none }
def prefixDecodesRow : OpenClaim := { program := "ytfnffnhlfjcplaa", sum := "6d5f91b87692de4da4ce85dc51707a403c2b782fe2f881591f49423a63693be7", func := "squint/squintlaw03.PrefixDecodes", spec := "prefixDecodes", apart := false }
def PrefixDecodesSaid : Prop := prefixDecodesRow.holds Try.pinned (OpenSpec.ofChange prefixDecodesSpec)

/-- ITS FALSE NEIGHBOUR: 'it returns false'. Refute it at one input. -/
def prefixDecodesWrong : ChangeSpec := { name := "prefixDecodes", fn := fun _ => fun
  | [d1, d2] => { results := [.lit (.bool false)], args := [d1, d2] }
  | _ => none }
def PrefixDecodesWrongFalsely : Prop := prefixDecodesRow.holds Try.pinned (OpenSpec.ofChange prefixDecodesWrong)

/-- 'squintlaw03.PrefixBehind': WHATEVER THE INPUT: true; the input reads as it did. -/
def prefixBehindSpec : ChangeSpec := { name := "prefixBehind", fn := fun _ => fun
  | [d1, d2, d3] => { results := [.lit (.bool true)], args := [d1, d2, d3] }
  | _ => none }
def prefixBehindRow : OpenClaim := { program := "ytfnffnhlfjcplaa", sum := "6d5f91b87692de4da4ce85dc51707a403c2b782fe2f881591f49423a63693be7", func := "squint/squintlaw03.PrefixBehind", spec := "prefixBehind", apart := false }
def PrefixBehindSaid : Prop := prefixBehindRow.holds Try.pinned (OpenSpec.ofChange prefixBehindSpec)

/-- ITS FALSE NEIGHBOUR: 'it returns false'. Refute it at one input. -/
def prefixBehindWrong : ChangeSpec := { name := "prefixBehind", fn := fun _ => fun
  | [d1, d2, d3] => { results := [.lit (.bool false)], args := [d1, d2, d3] }
  | _ => none }
def PrefixBehindWrongFalsely : Prop := prefixBehindRow.holds Try.pinned (OpenSpec.ofChange prefixBehindWrong)

/-- 'squintlaw03.PrefixGrows': WHATEVER THE INPUT: true; the input reads as it did. -/
def prefixGrowsSpec : ChangeSpec := { name := "prefixGrows", fn := fun _ => fun
  | [d1, d2, d3] => { results := [.lit (.bool true)], args := [d1, d2, d3] }
  | _ => none }
def prefixGrowsRow : OpenClaim := { program := "ytfnffnhlfjcplaa", sum := "6d5f91b87692de4da4ce85dc51707a403c2b782fe2f881591f49423a63693be7", func := "squint/squintlaw03.PrefixGrows", spec := "prefixGrows", apart := false }
def PrefixGrowsSaid : Prop := prefixGrowsRow.holds Try.pinned (OpenSpec.ofChange prefixGrowsSpec)

/-- ITS FALSE NEIGHBOUR: 'it returns false'. Refute it at one input. -/
def prefixGrowsWrong : ChangeSpec := { name := "prefixGrows", fn := fun _ => fun
  | [d1, d2, d3] => { results := [.lit (.bool false)], args := [d1, d2, d3] }
  | _ => none }
def PrefixGrowsWrongFalsely : Prop := prefixGrowsRow.holds Try.pinned (OpenSpec.ofChange prefixGrowsWrong)

/-- 'squintlaw03.PrefixEncodes': WHATEVER THE INPUT: true; the input reads as it did. -/
def prefixEncodesSpec : ChangeSpec := { name := "prefixEncodes", fn := fun _ => fun
  | [d1, d2, d3] => { results := [.lit (.bool true)], args := [d1, d2, d3] }
  | _ => none }
def prefixEncodesRow : OpenClaim := { program := "ytfnffnhlfjcplaa", sum := "6d5f91b87692de4da4ce85dc51707a403c2b782fe2f881591f49423a63693be7", func := "squint/squintlaw03.PrefixEncodes", spec := "prefixEncodes", apart := false }
def PrefixEncodesSaid : Prop := prefixEncodesRow.holds Try.pinned (OpenSpec.ofChange prefixEncodesSpec)

/-- ITS FALSE NEIGHBOUR: 'it returns false'. Refute it at one input. -/
def prefixEncodesWrong : ChangeSpec := { name := "prefixEncodes", fn := fun _ => fun
  | [d1, d2, d3] => { results := [.lit (.bool false)], args := [d1, d2, d3] }
  | _ => none }
def PrefixEncodesWrongFalsely : Prop := prefixEncodesRow.holds Try.pinned (OpenSpec.ofChange prefixEncodesWrong)

/-- 'squintlaw03.PrefixMarks': WHATEVER THE INPUT: true; the input reads as it did. -/
def prefixMarksSpec : ChangeSpec := { name := "prefixMarks", fn := fun _ => fun
  | [d1, d2] => { results := [.lit (.bool true)], args := [d1, d2] }
  | _ => none }
def prefixMarksRow : OpenClaim := { program := "ytfnffnhlfjcplaa", sum := "6d5f91b87692de4da4ce85dc51707a403c2b782fe2f881591f49423a63693be7", func := "squint/squintlaw03.PrefixMarks", spec := "prefixMarks", apart := false }
def PrefixMarksSaid : Prop := prefixMarksRow.holds Try.pinned (OpenSpec.ofChange prefixMarksSpec)

/-- ITS FALSE NEIGHBOUR: 'it returns false'. Refute it at one input. -/
def prefixMarksWrong : ChangeSpec := { name := "prefixMarks", fn := fun _ => fun
  | [d1, d2] => { results := [.lit (.bool false)], args := [d1, d2] }
  | _ => none }
def PrefixMarksWrongFalsely : Prop := prefixMarksRow.holds Try.pinned (OpenSpec.ofChange prefixMarksWrong)

/-- 'squintlaw19.SlotsTurns': WHATEVER THE INPUT: true; the input reads as it did. -/
def slotsTurnsSpec : ChangeSpec := { name := "slotsTurns", fn := fun _ => fun
  | [d] => { results := [.lit (.bool true)], args := [d] }
  | _ => none }
def slotsTurnsRow : OpenClaim := { program := "ytfnffnhlfjcplaa", sum := "6d5f91b87692de4da4ce85dc51707a403c2b782fe2f881591f49423a63693be7", func := "squint/squintlaw19.SlotsTurns", spec := "slotsTurns", unfollowed := true, recurses := true, apart := false }
def SlotsTurnsSaid : Prop := slotsTurnsRow.holds Try.pinned (OpenSpec.ofChange slotsTurnsSpec)

/-- ITS FALSE NEIGHBOUR: 'it returns false'. Refute it at one input. -/
def slotsTurnsWrong : ChangeSpec := { name := "slotsTurns", fn := fun _ => fun
  | [d] => { results := [.lit (.bool false)], args := [d] }
  | _ => none }
def SlotsTurnsWrongFalsely : Prop := slotsTurnsRow.holds Try.pinned (OpenSpec.ofChange slotsTurnsWrong)

/- THE SECOND FORM. 'bulk': how many values and letters a reading holds, each counted each time it is reached (what is shared counts as often as it is met; a slice's spare places count too). A statement '..UptoSaid' is the law's where the arguments, and the package variables that the reading takes, are together of bulk at most 1048576: NARROWER than '..Said'. Prove '..Said' where nothing that the law and all that it calls make is longer than what came in: it says more and counts as full. Else prove '..UptoSaid'. A law counts once. -/
mutual
def uptoBulk {H : Type} : DataW H → Nat
  | .lit (.string bytes) => bytes.length + 1
  | .lit _ => 1
  | .nil => 1
  | .ptr d => uptoBulk d + 1
  | .slice elems spare => uptoBulkAll elems + uptoBulkAll spare + 1
  | .agg parts => uptoBulkAll parts + 1
  | .iface _ d => uptoBulk d + 1
  | .map entries => uptoBulkEntries entries + 1
  | .held _ => 1
def uptoBulkAll {H : Type} : List (DataW H) → Nat
  | [] => 0
  | d :: r => uptoBulk d + uptoBulkAll r
def uptoBulkEntries {H : Type} : List (Lit × DataW H) → Nat
  | [] => 0
  | x :: r => uptoBulkEntry x + uptoBulkEntries r
def uptoBulkEntry {H : Type} : Lit × DataW H → Nat
  | (.string bytes, d) => bytes.length + uptoBulk d + 1
  | (_, d) => uptoBulk d + 1
 end
def uptoSmall : (H : Type) → List (DataW H) → Bool := fun _ ds => decide (uptoBulkAll ds ≤ 1048576)
def OpenSpec.upto (s : _root_.Go.ChangeSpec) : _root_.Go.OpenSpec := { _root_.Go.OpenSpec.ofChange s with cond := some uptoSmall }

/-- 'squintlaw19.SlotsOwners', WHERE WHAT IT READS IS OF BULK AT MOST 1048576: true; the input reads as it did. -/
def slotsOwnersUptoRow : OpenClaim := { program := "ytfnffnhlfjcplaa", sum := "6d5f91b87692de4da4ce85dc51707a403c2b782fe2f881591f49423a63693be7", func := "squint/squintlaw19.SlotsOwners", spec := "slotsOwners", apart := false, narrowed := true }
def SlotsOwnersUptoSaid : Prop := slotsOwnersUptoRow.holds Try.pinned (OpenSpec.upto slotsOwnersSpec)

/-- 'squintlaw19.SlotsNext', WHERE WHAT IT READS IS OF BULK AT MOST 1048576: true; the input reads as it did. -/
def slotsNextUptoRow : OpenClaim := { program := "ytfnffnhlfjcplaa", sum := "6d5f91b87692de4da4ce85dc51707a403c2b782fe2f881591f49423a63693be7", func := "squint/squintlaw19.SlotsNext", spec := "slotsNext", apart := false, narrowed := true }
def SlotsNextUptoSaid : Prop := slotsNextUptoRow.holds Try.pinned (OpenSpec.upto slotsNextSpec)

/-- 'squintlaw19.SlotsBetween', WHERE WHAT IT READS IS OF BULK AT MOST 1048576: true; the input reads as it did. -/
def slotsBetweenUptoRow : OpenClaim := { program := "ytfnffnhlfjcplaa", sum := "6d5f91b87692de4da4ce85dc51707a403c2b782fe2f881591f49423a63693be7", func := "squint/squintlaw19.SlotsBetween", spec := "slotsBetween", apart := false, narrowed := true }
def SlotsBetweenUptoSaid : Prop := slotsBetweenUptoRow.holds Try.pinned (OpenSpec.upto slotsBetweenSpec)

/-- 'squintlaw19.SlotsEnough', WHERE WHAT IT READS IS OF BULK AT MOST 1048576: true; the input reads as it did. -/
def slotsEnoughUptoRow : OpenClaim := { program := "ytfnffnhlfjcplaa", sum := "6d5f91b87692de4da4ce85dc51707a403c2b782fe2f881591f49423a63693be7", func := "squint/squintlaw19.SlotsEnough", spec := "slotsEnough", apart := false, narrowed := true }
def SlotsEnoughUptoSaid : Prop := slotsEnoughUptoRow.holds Try.pinned (OpenSpec.upto slotsEnoughSpec)

/-- 'squintlaw19.SlotsRounds', WHERE WHAT IT READS IS OF BULK AT MOST 1048576: true; the input reads as it did. -/
def slotsRoundsUptoRow : OpenClaim := { program := "ytfnffnhlfjcplaa", sum := "6d5f91b87692de4da4ce85dc51707a403c2b782fe2f881591f49423a63693be7", func := "squint/squintlaw19.SlotsRounds", spec := "slotsRounds", apart := false, narrowed := true }
def SlotsRoundsUptoSaid : Prop := slotsRoundsUptoRow.holds Try.pinned (OpenSpec.upto slotsRoundsSpec)

/-- 'squintlaw03.PrefixDecodes', WHERE WHAT IT READS IS OF BULK AT MOST 1048576: true; the input reads as it did. -/
def prefixDecodesUptoRow : OpenClaim := { program := "ytfnffnhlfjcplaa", sum := "6d5f91b87692de4da4ce85dc51707a403c2b782fe2f881591f49423a63693be7", func := "squint/squintlaw03.PrefixDecodes", spec := "prefixDecodes", apart := false, narrowed := true }
def PrefixDecodesUptoSaid : Prop := prefixDecodesUptoRow.holds Try.pinned (OpenSpec.upto prefixDecodesSpec)

/-- 'squintlaw03.PrefixBehind', WHERE WHAT IT READS IS OF BULK AT MOST 1048576: true; the input reads as it did. -/
def prefixBehindUptoRow : OpenClaim := { program := "ytfnffnhlfjcplaa", sum := "6d5f91b87692de4da4ce85dc51707a403c2b782fe2f881591f49423a63693be7", func := "squint/squintlaw03.PrefixBehind", spec := "prefixBehind", apart := false, narrowed := true }
def PrefixBehindUptoSaid : Prop := prefixBehindUptoRow.holds Try.pinned (OpenSpec.upto prefixBehindSpec)

/-- 'squintlaw03.PrefixGrows', WHERE WHAT IT READS IS OF BULK AT MOST 1048576: true; the input reads as it did. -/
def prefixGrowsUptoRow : OpenClaim := { program := "ytfnffnhlfjcplaa", sum := "6d5f91b87692de4da4ce85dc51707a403c2b782fe2f881591f49423a63693be7", func := "squint/squintlaw03.PrefixGrows", spec := "prefixGrows", apart := false, narrowed := true }
def PrefixGrowsUptoSaid : Prop := prefixGrowsUptoRow.holds Try.pinned (OpenSpec.upto prefixGrowsSpec)

/-- 'squintlaw03.PrefixEncodes', WHERE WHAT IT READS IS OF BULK AT MOST 1048576: true; the input reads as it did. -/
def prefixEncodesUptoRow : OpenClaim := { program := "ytfnffnhlfjcplaa", sum := "6d5f91b87692de4da4ce85dc51707a403c2b782fe2f881591f49423a63693be7", func := "squint/squintlaw03.PrefixEncodes", spec := "prefixEncodes", apart := false, narrowed := true }
def PrefixEncodesUptoSaid : Prop := prefixEncodesUptoRow.holds Try.pinned (OpenSpec.upto prefixEncodesSpec)

/-- 'squintlaw03.PrefixMarks', WHERE WHAT IT READS IS OF BULK AT MOST 1048576: true; the input reads as it did. -/
def prefixMarksUptoRow : OpenClaim := { program := "ytfnffnhlfjcplaa", sum := "6d5f91b87692de4da4ce85dc51707a403c2b782fe2f881591f49423a63693be7", func := "squint/squintlaw03.PrefixMarks", spec := "prefixMarks", apart := false, narrowed := true }
def PrefixMarksUptoSaid : Prop := prefixMarksUptoRow.holds Try.pinned (OpenSpec.upto prefixMarksSpec)

/-- 'squintlaw19.SlotsTurns', WHERE WHAT IT READS IS OF BULK AT MOST 1048576: true; the input reads as it did. -/
def slotsTurnsUptoRow : OpenClaim := { program := "ytfnffnhlfjcplaa", sum := "6d5f91b87692de4da4ce85dc51707a403c2b782fe2f881591f49423a63693be7", func := "squint/squintlaw19.SlotsTurns", spec := "slotsTurns", unfollowed := true, recurses := true, apart := false, narrowed := true }
def SlotsTurnsUptoSaid : Prop := slotsTurnsUptoRow.holds Try.pinned (OpenSpec.upto slotsTurnsSpec)

end Rows
end Go.Proofs.Ytfnffnhlfjcplaa
