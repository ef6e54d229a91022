/-
  No cell of these rows narrows 'for every input' (looked for: loops, veiled, ifaces, maps, wideKeys, modest, calm, conditions, laid).
  DERIVED. THE GIVEN ROWS OF THIS SEAT. 5 by the template 'for every input the law returns true; each argument reads behind the call as it read before'; 0 by the template 'total and deterministic' (their statements: YthmdkkhcpdbdgaaTotals.lean).
  GIVEN WITH THE SEED: the statements are not yours to turn. If you find one false, say at which input.
  Laid BY PROGRAM, IN A SANDBOX (cutbox-rows.mjs): the forced cells as the released guide's own fill.sh prints them over the translation 3cc8755a70efcfe9… (all of the seat's roots in one cut). By AI agents, Wed Nov 11 2026. No macro, syntax, notation, axiom, sorry.
-/
import Derived.Test.YthmdkkhcpdbdgaaChecked
import GoSem.Claim
import GoSem.ClaimJoined
import GoSem.ClaimMapViews
import Derived.JoinedTies
import Derived.KernelRfl
namespace Go.Proofs.Ythmdkkhcpdbdgaa
/- THE CELL 'sum', in the pinned program and in every row, IS THE sha256 OF THE DUMP (.gsa) THAT YthmdkkhcpdbdgaaProg.lean LOADS. Nothing in Lean hashes anything: it is a label: what it is worth is what the hold of that sum in a sandbox is worth. -/
noncomputable def Try.pinned : Pinned := { name := "ythmdkkhcpdbdgaa", sum := "3cc8755a70efcfe9261aa6542b9add0f7c9a64b3eb8e15b9600bb4fa179b1b5d", checked := Try.checked }
namespace Rows
def none {H : Type} : Left H := { results := [], args := [] }

/-- 'squintlaw21.CleanWords': WHATEVER THE INPUT: true; the input reads as it did. -/
def cleanWordsSpec : ChangeSpec := { name := "cleanWords", fn := fun _ => fun
  | [d] => { results := [.lit (.bool true)], args := [d] }
  | _ => none }
def cleanWordsRow : OpenClaim := { program := "ythmdkkhcpdbdgaa", sum := "3cc8755a70efcfe9261aa6542b9add0f7c9a64b3eb8e15b9600bb4fa179b1b5d", func := "squint/squintlaw21.CleanWords", spec := "cleanWords", inPlace := ["internal/bytealg.IndexByteString", "internal/bytealg.IndexString"], named := ["internal/bytealg.MaxLen"], apart := false }
def CleanWordsSaid : Prop := cleanWordsRow.holds Try.pinned (OpenSpec.ofChange cleanWordsSpec)

/-- ITS FALSE NEIGHBOUR: 'it returns false'. Refute it at one input. -/
def cleanWordsWrong : ChangeSpec := { name := "cleanWords", fn := fun _ => fun
  | [d] => { results := [.lit (.bool false)], args := [d] }
  | _ => none }
def CleanWordsWrongFalsely : Prop := cleanWordsRow.holds Try.pinned (OpenSpec.ofChange cleanWordsWrong)

/-- 'squintlaw21.CleanLower': WHATEVER THE INPUT: true; the input reads as it did. -/
def cleanLowerSpec : ChangeSpec := { name := "cleanLower", fn := fun _ => fun
  | [d] => { results := [.lit (.bool true)], args := [d] }
  | _ => none }
def cleanLowerRow : OpenClaim := { program := "ythmdkkhcpdbdgaa", sum := "3cc8755a70efcfe9261aa6542b9add0f7c9a64b3eb8e15b9600bb4fa179b1b5d", func := "squint/squintlaw21.CleanLower", spec := "cleanLower", inPlace := ["internal/bytealg.IndexByteString", "internal/bytealg.IndexString"], named := ["internal/bytealg.MaxLen"], apart := false }
def CleanLowerSaid : Prop := cleanLowerRow.holds Try.pinned (OpenSpec.ofChange cleanLowerSpec)

/-- ITS FALSE NEIGHBOUR: 'it returns false'. Refute it at one input. -/
def cleanLowerWrong : ChangeSpec := { name := "cleanLower", fn := fun _ => fun
  | [d] => { results := [.lit (.bool false)], args := [d] }
  | _ => none }
def CleanLowerWrongFalsely : Prop := cleanLowerRow.holds Try.pinned (OpenSpec.ofChange cleanLowerWrong)

/-- 'squintlaw21.CleanParts': WHATEVER THE INPUT: true; the input reads as it did. -/
def cleanPartsSpec : ChangeSpec := { name := "cleanParts", fn := fun _ => fun
  | [d1, d2] => { results := [.lit (.bool true)], args := [d1, d2] }
  | _ => none }
def cleanPartsRow : OpenClaim := { program := "ythmdkkhcpdbdgaa", sum := "3cc8755a70efcfe9261aa6542b9add0f7c9a64b3eb8e15b9600bb4fa179b1b5d", func := "squint/squintlaw21.CleanParts", spec := "cleanParts", inPlace := ["internal/bytealg.IndexByteString", "internal/bytealg.IndexString"], named := ["internal/bytealg.MaxLen"], apart := false }
def CleanPartsSaid : Prop := cleanPartsRow.holds Try.pinned (OpenSpec.ofChange cleanPartsSpec)

/-- ITS FALSE NEIGHBOUR: 'it returns false'. Refute it at one input. -/
def cleanPartsWrong : ChangeSpec := { name := "cleanParts", fn := fun _ => fun
  | [d1, d2] => { results := [.lit (.bool false)], args := [d1, d2] }
  | _ => none }
def CleanPartsWrongFalsely : Prop := cleanPartsRow.holds Try.pinned (OpenSpec.ofChange cleanPartsWrong)

/-- 'squintlaw21.CleanFields': WHATEVER THE INPUT: true; the input reads as it did. -/
def cleanFieldsSpec : ChangeSpec := { name := "cleanFields", fn := fun _ => fun
  | [d] => { results := [.lit (.bool true)], args := [d] }
  | _ => none }
def cleanFieldsRow : OpenClaim := { program := "ythmdkkhcpdbdgaa", sum := "3cc8755a70efcfe9261aa6542b9add0f7c9a64b3eb8e15b9600bb4fa179b1b5d", func := "squint/squintlaw21.CleanFields", spec := "cleanFields", inPlace := ["internal/bytealg.IndexByteString", "internal/bytealg.IndexString"], named := ["internal/bytealg.MaxLen"], apart := false }
def CleanFieldsSaid : Prop := cleanFieldsRow.holds Try.pinned (OpenSpec.ofChange cleanFieldsSpec)

/-- ITS FALSE NEIGHBOUR: 'it returns false'. Refute it at one input. -/
def cleanFieldsWrong : ChangeSpec := { name := "cleanFields", fn := fun _ => fun
  | [d] => { results := [.lit (.bool false)], args := [d] }
  | _ => none }
def CleanFieldsWrongFalsely : Prop := cleanFieldsRow.holds Try.pinned (OpenSpec.ofChange cleanFieldsWrong)

/-- 'squintlaw21.CleanChecks': WHATEVER THE INPUT: true; the input reads as it did. -/
def cleanChecksSpec : ChangeSpec := { name := "cleanChecks", fn := fun _ => fun
  | [d] => { results := [.lit (.bool true)], args := [d] }
  | _ => none }
def cleanChecksRow : OpenClaim := { program := "ythmdkkhcpdbdgaa", sum := "3cc8755a70efcfe9261aa6542b9add0f7c9a64b3eb8e15b9600bb4fa179b1b5d", func := "squint/squintlaw21.CleanChecks", spec := "cleanChecks", inPlace := ["internal/bytealg.IndexByteString", "internal/bytealg.IndexString"], named := ["internal/bytealg.MaxLen"], apart := false }
def CleanChecksSaid : Prop := cleanChecksRow.holds Try.pinned (OpenSpec.ofChange cleanChecksSpec)

/-- ITS FALSE NEIGHBOUR: 'it returns false'. Refute it at one input. -/
def cleanChecksWrong : ChangeSpec := { name := "cleanChecks", fn := fun _ => fun
  | [d] => { results := [.lit (.bool false)], args := [d] }
  | _ => none }
def CleanChecksWrongFalsely : Prop := cleanChecksRow.holds Try.pinned (OpenSpec.ofChange cleanChecksWrong)

/- THE SECOND FORM. 'bulk': how many values and letters a reading holds, each counted each time it is reached (what is shared counts as often as it is met; a slice's spare places count too). A statement '..UptoSaid' is the law's where the arguments, and the package variables that the reading takes, are together of bulk at most 1048576: NARROWER than '..Said'. Prove '..Said' where nothing that the law and all that it calls make is longer than what came in: it says more and counts as full. Else prove '..UptoSaid'. A law counts once. -/
mutual
def uptoBulk {H : Type} : DataW H → Nat
  | .lit (.string bytes) => bytes.length + 1
  | .lit _ => 1
  | .nil => 1
  | .ptr d => uptoBulk d + 1
  | .slice elems spare => uptoBulkAll elems + uptoBulkAll spare + 1
  | .agg parts => uptoBulkAll parts + 1
  | .iface _ d => uptoBulk d + 1
  | .map entries => uptoBulkEntries entries + 1
  | .held _ => 1
def uptoBulkAll {H : Type} : List (DataW H) → Nat
  | [] => 0
  | d :: r => uptoBulk d + uptoBulkAll r
def uptoBulkEntries {H : Type} : List (Lit × DataW H) → Nat
  | [] => 0
  | x :: r => uptoBulkEntry x + uptoBulkEntries r
def uptoBulkEntry {H : Type} : Lit × DataW H → Nat
  | (.string bytes, d) => bytes.length + uptoBulk d + 1
  | (_, d) => uptoBulk d + 1
 end
def uptoSmall : (H : Type) → List (DataW H) → Bool := fun _ ds => decide (uptoBulkAll ds ≤ 1048576)
def OpenSpec.upto (s : _root_.Go.ChangeSpec) : _root_.Go.OpenSpec := { _root_.Go.OpenSpec.ofChange s with cond := some uptoSmall }

/-- 'squintlaw21.CleanWords', WHERE WHAT IT READS IS OF BULK AT MOST 1048576: true; the input reads as it did. -/
def cleanWordsUptoRow : OpenClaim := { program := "ythmdkkhcpdbdgaa", sum := "3cc8755a70efcfe9261aa6542b9add0f7c9a64b3eb8e15b9600bb4fa179b1b5d", func := "squint/squintlaw21.CleanWords", spec := "cleanWords", inPlace := ["internal/bytealg.IndexByteString", "internal/bytealg.IndexString"], named := ["internal/bytealg.MaxLen"], apart := false, narrowed := true }
def CleanWordsUptoSaid : Prop := cleanWordsUptoRow.holds Try.pinned (OpenSpec.upto cleanWordsSpec)

/-- 'squintlaw21.CleanLower', WHERE WHAT IT READS IS OF BULK AT MOST 1048576: true; the input reads as it did. -/
def cleanLowerUptoRow : OpenClaim := { program := "ythmdkkhcpdbdgaa", sum := "3cc8755a70efcfe9261aa6542b9add0f7c9a64b3eb8e15b9600bb4fa179b1b5d", func := "squint/squintlaw21.CleanLower", spec := "cleanLower", inPlace := ["internal/bytealg.IndexByteString", "internal/bytealg.IndexString"], named := ["internal/bytealg.MaxLen"], apart := false, narrowed := true }
def CleanLowerUptoSaid : Prop := cleanLowerUptoRow.holds Try.pinned (OpenSpec.upto cleanLowerSpec)

/-- 'squintlaw21.CleanParts', WHERE WHAT IT READS IS OF BULK AT MOST 1048576: true; the input reads as it did. -/
def cleanPartsUptoRow : OpenClaim := { program := "ythmdkkhcpdbdgaa", sum := "3cc8755a70efcfe9261aa6542b9add0f7c9a64b3eb8e15b9600bb4fa179b1b5d", func := "squint/squintlaw21.CleanParts", spec := "cleanParts", inPlace := ["internal/bytealg.IndexByteString", "internal/bytealg.IndexString"], named := ["internal/bytealg.MaxLen"], apart := false, narrowed := true }
def CleanPartsUptoSaid : Prop := cleanPartsUptoRow.holds Try.pinned (OpenSpec.upto cleanPartsSpec)

/-- 'squintlaw21.CleanFields', WHERE WHAT IT READS IS OF BULK AT MOST 1048576: true; the input reads as it did. -/
def cleanFieldsUptoRow : OpenClaim := { program := "ythmdkkhcpdbdgaa", sum := "3cc8755a70efcfe9261aa6542b9add0f7c9a64b3eb8e15b9600bb4fa179b1b5d", func := "squint/squintlaw21.CleanFields", spec := "cleanFields", inPlace := ["internal/bytealg.IndexByteString", "internal/bytealg.IndexString"], named := ["internal/bytealg.MaxLen"], apart := false, narrowed := true }
def CleanFieldsUptoSaid : Prop := cleanFieldsUptoRow.holds Try.pinned (OpenSpec.upto cleanFieldsSpec)

/-- 'squintlaw21.CleanChecks', WHERE WHAT IT READS IS OF BULK AT MOST 1048576: true; the input reads as it did. -/
def cleanChecksUptoRow : OpenClaim := { program := "ythmdkkhcpdbdgaa", sum := "3cc8755a70efcfe9261aa6542b9add0f7c9a64b3eb8e15b9600bb4fa179b1b5d", func := "squint/squintlaw21.CleanChecks", spec := "cleanChecks", inPlace := ["internal/bytealg.IndexByteString", "internal/bytealg.IndexString"], named := ["internal/bytealg.MaxLen"], apart := false, narrowed := true }
def CleanChecksUptoSaid : Prop := cleanChecksUptoRow.holds Try.pinned (OpenSpec.upto cleanChecksSpec)

end Rows
end Go.Proofs.Ythmdkkhcpdbdgaa
