/-
  No cell of these rows narrows 'for every input' (looked for: loops, veiled, ifaces, maps, wideKeys, modest, calm, conditions, laid).
  DERIVED. THE GIVEN ROWS OF THIS SEAT. 5 by the template 'for every input the law returns true; each argument reads behind the call as it read before'; 0 by the template 'total and deterministic' (their statements: YtjpkjakdhbnehaaTotals.lean).
  GIVEN WITH THE SEED: the statements are not yours to turn. If you find one false, say at which input.
  Laid BY PROGRAM, IN A SANDBOX (cutbox-rows.mjs): the forced cells as the released guide's own fill.sh prints them over the translation 19bf7c67e7cd7e98… (all of the seat's roots in one cut). By AI agents, Wed Nov 11 2026. No macro, syntax, notation, axiom, sorry.
-/
import Derived.Test.YtjpkjakdhbnehaaChecked
import GoSem.Claim
import GoSem.ClaimJoined
import GoSem.ClaimMapViews
import Derived.JoinedTies
import Derived.KernelRfl
namespace Go.Proofs.Ytjpkjakdhbnehaa
/- THE CELL 'sum', in the pinned program and in every row, IS THE sha256 OF THE DUMP (.gsa) THAT YtjpkjakdhbnehaaProg.lean LOADS. Nothing in Lean hashes anything: it is a label: what it is worth is what the hold of that sum in a sandbox is worth. -/
noncomputable def Try.pinned : Pinned := { name := "ytjpkjakdhbnehaa", sum := "19bf7c67e7cd7e9842fe788f15e68e2e99304e74c55e859baf0024e033d09b7b", checked := Try.checked }
namespace Rows
def none {H : Type} : Left H := { results := [], args := [] }

/-- 'reliquarylaw12.RecordPuts': WHATEVER THE INPUT: true; the input reads as it did. -/
def recordPutsSpec : ChangeSpec := { name := "recordPuts", fn := fun _ => fun
  | [d1, d2, d3, d4] => { results := [.lit (.bool true)], args := [d1, d2, d3, d4] }
  | _ => none }
def recordPutsRow : OpenClaim := { program := "ytjpkjakdhbnehaa", sum := "19bf7c67e7cd7e9842fe788f15e68e2e99304e74c55e859baf0024e033d09b7b", func := "reliquary/reliquarylaw12.RecordPuts", spec := "recordPuts", unfollowed := true, recurses := true, apart := false }
def RecordPutsSaid : Prop := recordPutsRow.holds Try.pinned (OpenSpec.ofChange recordPutsSpec)

/-- ITS FALSE NEIGHBOUR: 'it returns false'. Refute it at one input. -/
def recordPutsWrong : ChangeSpec := { name := "recordPuts", fn := fun _ => fun
  | [d1, d2, d3, d4] => { results := [.lit (.bool false)], args := [d1, d2, d3, d4] }
  | _ => none }
def RecordPutsWrongFalsely : Prop := recordPutsRow.holds Try.pinned (OpenSpec.ofChange recordPutsWrong)

/-- 'reliquarylaw12.RecordKinds': WHATEVER THE INPUT: true; the input reads as it did. -/
def recordKindsSpec : ChangeSpec := { name := "recordKinds", fn := fun _ => fun
  | [d1, d2, d3, d4, d5] => { results := [.lit (.bool true)], args := [d1, d2, d3, d4, d5] }
  | _ => none }
def recordKindsRow : OpenClaim := { program := "ytjpkjakdhbnehaa", sum := "19bf7c67e7cd7e9842fe788f15e68e2e99304e74c55e859baf0024e033d09b7b", func := "reliquary/reliquarylaw12.RecordKinds", spec := "recordKinds", unfollowed := true, recurses := true, apart := false }
def RecordKindsSaid : Prop := recordKindsRow.holds Try.pinned (OpenSpec.ofChange recordKindsSpec)

/-- ITS FALSE NEIGHBOUR: 'it returns false'. Refute it at one input. -/
def recordKindsWrong : ChangeSpec := { name := "recordKinds", fn := fun _ => fun
  | [d1, d2, d3, d4, d5] => { results := [.lit (.bool false)], args := [d1, d2, d3, d4, d5] }
  | _ => none }
def RecordKindsWrongFalsely : Prop := recordKindsRow.holds Try.pinned (OpenSpec.ofChange recordKindsWrong)

/-- 'reliquarylaw12.RecordChanges': WHATEVER THE INPUT: true; the input reads as it did. -/
def recordChangesSpec : ChangeSpec := { name := "recordChanges", fn := fun _ => fun
  | [d1, d2, d3] => { results := [.lit (.bool true)], args := [d1, d2, d3] }
  | _ => none }
def recordChangesRow : OpenClaim := { program := "ytjpkjakdhbnehaa", sum := "19bf7c67e7cd7e9842fe788f15e68e2e99304e74c55e859baf0024e033d09b7b", func := "reliquary/reliquarylaw12.RecordChanges", spec := "recordChanges", unfollowed := true, recurses := true, apart := false }
def RecordChangesSaid : Prop := recordChangesRow.holds Try.pinned (OpenSpec.ofChange recordChangesSpec)

/-- ITS FALSE NEIGHBOUR: 'it returns false'. Refute it at one input. -/
def recordChangesWrong : ChangeSpec := { name := "recordChanges", fn := fun _ => fun
  | [d1, d2, d3] => { results := [.lit (.bool false)], args := [d1, d2, d3] }
  | _ => none }
def RecordChangesWrongFalsely : Prop := recordChangesRow.holds Try.pinned (OpenSpec.ofChange recordChangesWrong)

/-- 'reliquarylaw12.RecordBack': WHATEVER THE INPUT: true; the input reads as it did. -/
def recordBackSpec : ChangeSpec := { name := "recordBack", fn := fun _ => fun
  | [d] => { results := [.lit (.bool true)], args := [d] }
  | _ => none }
def recordBackRow : OpenClaim := { program := "ytjpkjakdhbnehaa", sum := "19bf7c67e7cd7e9842fe788f15e68e2e99304e74c55e859baf0024e033d09b7b", func := "reliquary/reliquarylaw12.RecordBack", spec := "recordBack", unfollowed := true, recurses := true, apart := false }
def RecordBackSaid : Prop := recordBackRow.holds Try.pinned (OpenSpec.ofChange recordBackSpec)

/-- ITS FALSE NEIGHBOUR: 'it returns false'. Refute it at one input. -/
def recordBackWrong : ChangeSpec := { name := "recordBack", fn := fun _ => fun
  | [d] => { results := [.lit (.bool false)], args := [d] }
  | _ => none }
def RecordBackWrongFalsely : Prop := recordBackRow.holds Try.pinned (OpenSpec.ofChange recordBackWrong)

/-- 'reliquarylaw12.RecordLasts': WHATEVER THE INPUT: true; the input reads as it did. -/
def recordLastsSpec : ChangeSpec := { name := "recordLasts", fn := fun _ => fun
  | [d1, d2] => { results := [.lit (.bool true)], args := [d1, d2] }
  | _ => none }
def recordLastsRow : OpenClaim := { program := "ytjpkjakdhbnehaa", sum := "19bf7c67e7cd7e9842fe788f15e68e2e99304e74c55e859baf0024e033d09b7b", func := "reliquary/reliquarylaw12.RecordLasts", spec := "recordLasts", unfollowed := true, recurses := true, apart := false }
def RecordLastsSaid : Prop := recordLastsRow.holds Try.pinned (OpenSpec.ofChange recordLastsSpec)

/-- ITS FALSE NEIGHBOUR: 'it returns false'. Refute it at one input. -/
def recordLastsWrong : ChangeSpec := { name := "recordLasts", fn := fun _ => fun
  | [d1, d2] => { results := [.lit (.bool false)], args := [d1, d2] }
  | _ => none }
def RecordLastsWrongFalsely : Prop := recordLastsRow.holds Try.pinned (OpenSpec.ofChange recordLastsWrong)

/- THE SECOND FORM. 'bulk': how many values and letters a reading holds, each counted each time it is reached (what is shared counts as often as it is met; a slice's spare places count too). A statement '..UptoSaid' is the law's where the arguments, and the package variables that the reading takes, are together of bulk at most 1048576: NARROWER than '..Said'. Prove '..Said' where nothing that the law and all that it calls make is longer than what came in: it says more and counts as full. Else prove '..UptoSaid'. A law counts once. -/
mutual
def uptoBulk {H : Type} : DataW H → Nat
  | .lit (.string bytes) => bytes.length + 1
  | .lit _ => 1
  | .nil => 1
  | .ptr d => uptoBulk d + 1
  | .slice elems spare => uptoBulkAll elems + uptoBulkAll spare + 1
  | .agg parts => uptoBulkAll parts + 1
  | .iface _ d => uptoBulk d + 1
  | .map entries => uptoBulkEntries entries + 1
  | .held _ => 1
def uptoBulkAll {H : Type} : List (DataW H) → Nat
  | [] => 0
  | d :: r => uptoBulk d + uptoBulkAll r
def uptoBulkEntries {H : Type} : List (Lit × DataW H) → Nat
  | [] => 0
  | x :: r => uptoBulkEntry x + uptoBulkEntries r
def uptoBulkEntry {H : Type} : Lit × DataW H → Nat
  | (.string bytes, d) => bytes.length + uptoBulk d + 1
  | (_, d) => uptoBulk d + 1
 end
def uptoSmall : (H : Type) → List (DataW H) → Bool := fun _ ds => decide (uptoBulkAll ds ≤ 1048576)
def OpenSpec.upto (s : _root_.Go.ChangeSpec) : _root_.Go.OpenSpec := { _root_.Go.OpenSpec.ofChange s with cond := some uptoSmall }

/-- 'reliquarylaw12.RecordPuts', WHERE WHAT IT READS IS OF BULK AT MOST 1048576: true; the input reads as it did. -/
def recordPutsUptoRow : OpenClaim := { program := "ytjpkjakdhbnehaa", sum := "19bf7c67e7cd7e9842fe788f15e68e2e99304e74c55e859baf0024e033d09b7b", func := "reliquary/reliquarylaw12.RecordPuts", spec := "recordPuts", unfollowed := true, recurses := true, apart := false, narrowed := true }
def RecordPutsUptoSaid : Prop := recordPutsUptoRow.holds Try.pinned (OpenSpec.upto recordPutsSpec)

/-- 'reliquarylaw12.RecordKinds', WHERE WHAT IT READS IS OF BULK AT MOST 1048576: true; the input reads as it did. -/
def recordKindsUptoRow : OpenClaim := { program := "ytjpkjakdhbnehaa", sum := "19bf7c67e7cd7e9842fe788f15e68e2e99304e74c55e859baf0024e033d09b7b", func := "reliquary/reliquarylaw12.RecordKinds", spec := "recordKinds", unfollowed := true, recurses := true, apart := false, narrowed := true }
def RecordKindsUptoSaid : Prop := recordKindsUptoRow.holds Try.pinned (OpenSpec.upto recordKindsSpec)

/-- 'reliquarylaw12.RecordChanges', WHERE WHAT IT READS IS OF BULK AT MOST 1048576: true; the input reads as it did. -/
def recordChangesUptoRow : OpenClaim := { program := "ytjpkjakdhbnehaa", sum := "19bf7c67e7cd7e9842fe788f15e68e2e99304e74c55e859baf0024e033d09b7b", func := "reliquary/reliquarylaw12.RecordChanges", spec := "recordChanges", unfollowed := true, recurses := true, apart := false, narrowed := true }
def RecordChangesUptoSaid : Prop := recordChangesUptoRow.holds Try.pinned (OpenSpec.upto recordChangesSpec)

/-- 'reliquarylaw12.RecordBack', WHERE WHAT IT READS IS OF BULK AT MOST 1048576: true; the input reads as it did. -/
def recordBackUptoRow : OpenClaim := { program := "ytjpkjakdhbnehaa", sum := "19bf7c67e7cd7e9842fe788f15e68e2e99304e74c55e859baf0024e033d09b7b", func := "reliquary/reliquarylaw12.RecordBack", spec := "recordBack", unfollowed := true, recurses := true, apart := false, narrowed := true }
def RecordBackUptoSaid : Prop := recordBackUptoRow.holds Try.pinned (OpenSpec.upto recordBackSpec)

/-- 'reliquarylaw12.RecordLasts', WHERE WHAT IT READS IS OF BULK AT MOST 1048576: true; the input reads as it did. -/
def recordLastsUptoRow : OpenClaim := { program := "ytjpkjakdhbnehaa", sum := "19bf7c67e7cd7e9842fe788f15e68e2e99304e74c55e859baf0024e033d09b7b", func := "reliquary/reliquarylaw12.RecordLasts", spec := "recordLasts", unfollowed := true, recurses := true, apart := false, narrowed := true }
def RecordLastsUptoSaid : Prop := recordLastsUptoRow.holds Try.pinned (OpenSpec.upto recordLastsSpec)

end Rows
end Go.Proofs.Ytjpkjakdhbnehaa
