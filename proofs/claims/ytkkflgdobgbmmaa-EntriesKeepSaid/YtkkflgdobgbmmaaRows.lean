/-
  No cell of these rows narrows 'for every input' (looked for: loops, veiled, ifaces, maps, wideKeys, modest, calm, conditions, laid).
  DERIVED. THE GIVEN ROWS OF THIS SEAT. 6 by the template 'for every input the law returns true; each argument reads behind the call as it read before'; 0 by the template 'total and deterministic' (their statements: YtkkflgdobgbmmaaTotals.lean).
  GIVEN WITH THE SEED: the statements are not yours to turn. If you find one false, say at which input.
  Laid BY PROGRAM, IN A SANDBOX (cutbox-rows.mjs): the forced cells as the released guide's own fill.sh prints them over the translation 729a61bb7cc4cc66… (all of the seat's roots in one cut). By AI agents, Wed Nov 11 2026. No macro, syntax, notation, axiom, sorry.
-/
import Derived.Test.YtkkflgdobgbmmaaChecked
import GoSem.Claim
import GoSem.ClaimJoined
import GoSem.ClaimMapViews
import Derived.JoinedTies
import Derived.KernelRfl
namespace Go.Proofs.Ytkkflgdobgbmmaa
/- THE CELL 'sum', in the pinned program and in every row, IS THE sha256 OF THE DUMP (.gsa) THAT YtkkflgdobgbmmaaProg.lean LOADS. Nothing in Lean hashes anything: it is a label: what it is worth is what the hold of that sum in a sandbox is worth. -/
noncomputable def Try.pinned : Pinned := { name := "ytkkflgdobgbmmaa", sum := "729a61bb7cc4cc662566fbb916d4c04a30d49eebc54ed0de7ca800b0c9b87a0e", checked := Try.checked }
namespace Rows
def none {H : Type} : Left H := { results := [], args := [] }

/-- 'reliquarylaw22.EntriesNames': WHATEVER THE INPUT: true; the input reads as it did. -/
def entriesNamesSpec : ChangeSpec := { name := "entriesNames", fn := fun _ => fun
  | [d1, d2, d3, d4] => { results := [.lit (.bool true)], args := [d1, d2, d3, d4] }
  | _ => none }
def entriesNamesRow : OpenClaim := { program := "ytkkflgdobgbmmaa", sum := "729a61bb7cc4cc662566fbb916d4c04a30d49eebc54ed0de7ca800b0c9b87a0e", func := "reliquary/reliquarylaw22.EntriesNames", spec := "entriesNames", inPlace := ["internal/bytealg.IndexByteString", "internal/bytealg.IndexString"], unfollowed := true, recurses := true, named := ["internal/bytealg.MaxLen"], apart := false }
def EntriesNamesSaid : Prop := entriesNamesRow.holds Try.pinned (OpenSpec.ofChange entriesNamesSpec)

/-- ITS FALSE NEIGHBOUR: 'it returns false'. Refute it at one input. -/
def entriesNamesWrong : ChangeSpec := { name := "entriesNames", fn := fun _ => fun
  | [d1, d2, d3, d4] => { results := [.lit (.bool false)], args := [d1, d2, d3, d4] }
  | _ => none }
def EntriesNamesWrongFalsely : Prop := entriesNamesRow.holds Try.pinned (OpenSpec.ofChange entriesNamesWrong)

/-- 'reliquarylaw22.EntriesOps': WHATEVER THE INPUT: true; the input reads as it did. -/
def entriesOpsSpec : ChangeSpec := { name := "entriesOps", fn := fun _ => fun
  | [d1, d2, d3] => { results := [.lit (.bool true)], args := [d1, d2, d3] }
  | _ => none }
def entriesOpsRow : OpenClaim := { program := "ytkkflgdobgbmmaa", sum := "729a61bb7cc4cc662566fbb916d4c04a30d49eebc54ed0de7ca800b0c9b87a0e", func := "reliquary/reliquarylaw22.EntriesOps", spec := "entriesOps", inPlace := ["internal/bytealg.IndexByteString", "internal/bytealg.IndexString"], unfollowed := true, recurses := true, named := ["internal/bytealg.MaxLen"], apart := false }
def EntriesOpsSaid : Prop := entriesOpsRow.holds Try.pinned (OpenSpec.ofChange entriesOpsSpec)

/-- ITS FALSE NEIGHBOUR: 'it returns false'. Refute it at one input. -/
def entriesOpsWrong : ChangeSpec := { name := "entriesOps", fn := fun _ => fun
  | [d1, d2, d3] => { results := [.lit (.bool false)], args := [d1, d2, d3] }
  | _ => none }
def EntriesOpsWrongFalsely : Prop := entriesOpsRow.holds Try.pinned (OpenSpec.ofChange entriesOpsWrong)

/-- 'reliquarylaw22.EntriesLists': WHATEVER THE INPUT: true; the input reads as it did. -/
def entriesListsSpec : ChangeSpec := { name := "entriesLists", fn := fun _ => fun
  | [d1, d2] => { results := [.lit (.bool true)], args := [d1, d2] }
  | _ => none }
def entriesListsRow : OpenClaim := { program := "ytkkflgdobgbmmaa", sum := "729a61bb7cc4cc662566fbb916d4c04a30d49eebc54ed0de7ca800b0c9b87a0e", func := "reliquary/reliquarylaw22.EntriesLists", spec := "entriesLists", inPlace := ["internal/bytealg.IndexByteString", "internal/bytealg.IndexString"], unfollowed := true, recurses := true, named := ["internal/bytealg.MaxLen"], apart := false }
def EntriesListsSaid : Prop := entriesListsRow.holds Try.pinned (OpenSpec.ofChange entriesListsSpec)

/-- ITS FALSE NEIGHBOUR: 'it returns false'. Refute it at one input. -/
def entriesListsWrong : ChangeSpec := { name := "entriesLists", fn := fun _ => fun
  | [d1, d2] => { results := [.lit (.bool false)], args := [d1, d2] }
  | _ => none }
def EntriesListsWrongFalsely : Prop := entriesListsRow.holds Try.pinned (OpenSpec.ofChange entriesListsWrong)

/-- 'reliquarylaw22.EntriesKeep': WHATEVER THE INPUT: true; the input reads as it did. -/
def entriesKeepSpec : ChangeSpec := { name := "entriesKeep", fn := fun _ => fun
  | [d] => { results := [.lit (.bool true)], args := [d] }
  | _ => none }
def entriesKeepRow : OpenClaim := { program := "ytkkflgdobgbmmaa", sum := "729a61bb7cc4cc662566fbb916d4c04a30d49eebc54ed0de7ca800b0c9b87a0e", func := "reliquary/reliquarylaw22.EntriesKeep", spec := "entriesKeep", inPlace := ["internal/bytealg.IndexByteString", "internal/bytealg.IndexString"], unfollowed := true, recurses := true, named := ["internal/bytealg.MaxLen"], apart := false }
def EntriesKeepSaid : Prop := entriesKeepRow.holds Try.pinned (OpenSpec.ofChange entriesKeepSpec)

/-- ITS FALSE NEIGHBOUR: 'it returns false'. Refute it at one input. -/
def entriesKeepWrong : ChangeSpec := { name := "entriesKeep", fn := fun _ => fun
  | [d] => { results := [.lit (.bool false)], args := [d] }
  | _ => none }
def EntriesKeepWrongFalsely : Prop := entriesKeepRow.holds Try.pinned (OpenSpec.ofChange entriesKeepWrong)

/-- 'reliquarylaw22.EntriesRooms': WHATEVER THE INPUT: true; the input reads as it did. -/
def entriesRoomsSpec : ChangeSpec := { name := "entriesRooms", fn := fun _ => fun
  | [d1, d2, d3] => { results := [.lit (.bool true)], args := [d1, d2, d3] }
  | _ => none }
def entriesRoomsRow : OpenClaim := { program := "ytkkflgdobgbmmaa", sum := "729a61bb7cc4cc662566fbb916d4c04a30d49eebc54ed0de7ca800b0c9b87a0e", func := "reliquary/reliquarylaw22.EntriesRooms", spec := "entriesRooms", inPlace := ["internal/bytealg.IndexByteString", "internal/bytealg.IndexString"], unfollowed := true, recurses := true, named := ["internal/bytealg.MaxLen"], apart := false }
def EntriesRoomsSaid : Prop := entriesRoomsRow.holds Try.pinned (OpenSpec.ofChange entriesRoomsSpec)

/-- ITS FALSE NEIGHBOUR: 'it returns false'. Refute it at one input. -/
def entriesRoomsWrong : ChangeSpec := { name := "entriesRooms", fn := fun _ => fun
  | [d1, d2, d3] => { results := [.lit (.bool false)], args := [d1, d2, d3] }
  | _ => none }
def EntriesRoomsWrongFalsely : Prop := entriesRoomsRow.holds Try.pinned (OpenSpec.ofChange entriesRoomsWrong)

/-- 'reliquarylaw22.EntriesUps': WHATEVER THE INPUT: true; the input reads as it did. -/
def entriesUpsSpec : ChangeSpec := { name := "entriesUps", fn := fun _ => fun
  | [d1, d2, d3] => { results := [.lit (.bool true)], args := [d1, d2, d3] }
  | _ => none }
def entriesUpsRow : OpenClaim := { program := "ytkkflgdobgbmmaa", sum := "729a61bb7cc4cc662566fbb916d4c04a30d49eebc54ed0de7ca800b0c9b87a0e", func := "reliquary/reliquarylaw22.EntriesUps", spec := "entriesUps", inPlace := ["internal/bytealg.IndexByteString", "internal/bytealg.IndexString"], unfollowed := true, recurses := true, named := ["internal/bytealg.MaxLen"], apart := false }
def EntriesUpsSaid : Prop := entriesUpsRow.holds Try.pinned (OpenSpec.ofChange entriesUpsSpec)

/-- ITS FALSE NEIGHBOUR: 'it returns false'. Refute it at one input. -/
def entriesUpsWrong : ChangeSpec := { name := "entriesUps", fn := fun _ => fun
  | [d1, d2, d3] => { results := [.lit (.bool false)], args := [d1, d2, d3] }
  | _ => none }
def EntriesUpsWrongFalsely : Prop := entriesUpsRow.holds Try.pinned (OpenSpec.ofChange entriesUpsWrong)

/- THE SECOND FORM. 'bulk': how many values and letters a reading holds, each counted each time it is reached (what is shared counts as often as it is met; a slice's spare places count too). A statement '..UptoSaid' is the law's where the arguments, and the package variables that the reading takes, are together of bulk at most 1048576: NARROWER than '..Said'. Prove '..Said' where nothing that the law and all that it calls make is longer than what came in: it says more and counts as full. Else prove '..UptoSaid'. A law counts once. -/
mutual
def uptoBulk {H : Type} : DataW H → Nat
  | .lit (.string bytes) => bytes.length + 1
  | .lit _ => 1
  | .nil => 1
  | .ptr d => uptoBulk d + 1
  | .slice elems spare => uptoBulkAll elems + uptoBulkAll spare + 1
  | .agg parts => uptoBulkAll parts + 1
  | .iface _ d => uptoBulk d + 1
  | .map entries => uptoBulkEntries entries + 1
  | .held _ => 1
def uptoBulkAll {H : Type} : List (DataW H) → Nat
  | [] => 0
  | d :: r => uptoBulk d + uptoBulkAll r
def uptoBulkEntries {H : Type} : List (Lit × DataW H) → Nat
  | [] => 0
  | x :: r => uptoBulkEntry x + uptoBulkEntries r
def uptoBulkEntry {H : Type} : Lit × DataW H → Nat
  | (.string bytes, d) => bytes.length + uptoBulk d + 1
  | (_, d) => uptoBulk d + 1
 end
def uptoSmall : (H : Type) → List (DataW H) → Bool := fun _ ds => decide (uptoBulkAll ds ≤ 1048576)
def OpenSpec.upto (s : _root_.Go.ChangeSpec) : _root_.Go.OpenSpec := { _root_.Go.OpenSpec.ofChange s with cond := some uptoSmall }

/-- 'reliquarylaw22.EntriesNames', WHERE WHAT IT READS IS OF BULK AT MOST 1048576: true; the input reads as it did. -/
def entriesNamesUptoRow : OpenClaim := { program := "ytkkflgdobgbmmaa", sum := "729a61bb7cc4cc662566fbb916d4c04a30d49eebc54ed0de7ca800b0c9b87a0e", func := "reliquary/reliquarylaw22.EntriesNames", spec := "entriesNames", inPlace := ["internal/bytealg.IndexByteString", "internal/bytealg.IndexString"], unfollowed := true, recurses := true, named := ["internal/bytealg.MaxLen"], apart := false, narrowed := true }
def EntriesNamesUptoSaid : Prop := entriesNamesUptoRow.holds Try.pinned (OpenSpec.upto entriesNamesSpec)

/-- 'reliquarylaw22.EntriesOps', WHERE WHAT IT READS IS OF BULK AT MOST 1048576: true; the input reads as it did. -/
def entriesOpsUptoRow : OpenClaim := { program := "ytkkflgdobgbmmaa", sum := "729a61bb7cc4cc662566fbb916d4c04a30d49eebc54ed0de7ca800b0c9b87a0e", func := "reliquary/reliquarylaw22.EntriesOps", spec := "entriesOps", inPlace := ["internal/bytealg.IndexByteString", "internal/bytealg.IndexString"], unfollowed := true, recurses := true, named := ["internal/bytealg.MaxLen"], apart := false, narrowed := true }
def EntriesOpsUptoSaid : Prop := entriesOpsUptoRow.holds Try.pinned (OpenSpec.upto entriesOpsSpec)

/-- 'reliquarylaw22.EntriesLists', WHERE WHAT IT READS IS OF BULK AT MOST 1048576: true; the input reads as it did. -/
def entriesListsUptoRow : OpenClaim := { program := "ytkkflgdobgbmmaa", sum := "729a61bb7cc4cc662566fbb916d4c04a30d49eebc54ed0de7ca800b0c9b87a0e", func := "reliquary/reliquarylaw22.EntriesLists", spec := "entriesLists", inPlace := ["internal/bytealg.IndexByteString", "internal/bytealg.IndexString"], unfollowed := true, recurses := true, named := ["internal/bytealg.MaxLen"], apart := false, narrowed := true }
def EntriesListsUptoSaid : Prop := entriesListsUptoRow.holds Try.pinned (OpenSpec.upto entriesListsSpec)

/-- 'reliquarylaw22.EntriesKeep', WHERE WHAT IT READS IS OF BULK AT MOST 1048576: true; the input reads as it did. -/
def entriesKeepUptoRow : OpenClaim := { program := "ytkkflgdobgbmmaa", sum := "729a61bb7cc4cc662566fbb916d4c04a30d49eebc54ed0de7ca800b0c9b87a0e", func := "reliquary/reliquarylaw22.EntriesKeep", spec := "entriesKeep", inPlace := ["internal/bytealg.IndexByteString", "internal/bytealg.IndexString"], unfollowed := true, recurses := true, named := ["internal/bytealg.MaxLen"], apart := false, narrowed := true }
def EntriesKeepUptoSaid : Prop := entriesKeepUptoRow.holds Try.pinned (OpenSpec.upto entriesKeepSpec)

/-- 'reliquarylaw22.EntriesRooms', WHERE WHAT IT READS IS OF BULK AT MOST 1048576: true; the input reads as it did. -/
def entriesRoomsUptoRow : OpenClaim := { program := "ytkkflgdobgbmmaa", sum := "729a61bb7cc4cc662566fbb916d4c04a30d49eebc54ed0de7ca800b0c9b87a0e", func := "reliquary/reliquarylaw22.EntriesRooms", spec := "entriesRooms", inPlace := ["internal/bytealg.IndexByteString", "internal/bytealg.IndexString"], unfollowed := true, recurses := true, named := ["internal/bytealg.MaxLen"], apart := false, narrowed := true }
def EntriesRoomsUptoSaid : Prop := entriesRoomsUptoRow.holds Try.pinned (OpenSpec.upto entriesRoomsSpec)

/-- 'reliquarylaw22.EntriesUps', WHERE WHAT IT READS IS OF BULK AT MOST 1048576: true; the input reads as it did. -/
def entriesUpsUptoRow : OpenClaim := { program := "ytkkflgdobgbmmaa", sum := "729a61bb7cc4cc662566fbb916d4c04a30d49eebc54ed0de7ca800b0c9b87a0e", func := "reliquary/reliquarylaw22.EntriesUps", spec := "entriesUps", inPlace := ["internal/bytealg.IndexByteString", "internal/bytealg.IndexString"], unfollowed := true, recurses := true, named := ["internal/bytealg.MaxLen"], apart := false, narrowed := true }
def EntriesUpsUptoSaid : Prop := entriesUpsUptoRow.holds Try.pinned (OpenSpec.upto entriesUpsSpec)

end Rows
end Go.Proofs.Ytkkflgdobgbmmaa
