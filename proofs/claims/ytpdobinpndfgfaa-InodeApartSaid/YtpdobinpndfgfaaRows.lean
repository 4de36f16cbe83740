/-
  No cell of these rows narrows 'for every input' (looked for: loops, veiled, ifaces, maps, wideKeys, modest, calm, conditions, laid).
  DERIVED. THE GIVEN ROWS OF THIS SEAT. 5 by the template 'for every input the law returns true; each argument reads behind the call as it read before'; 0 by the template 'total and deterministic' (their statements: YtpdobinpndfgfaaTotals.lean).
  GIVEN WITH THE SEED: the statements are not yours to turn. If you find one false, say at which input.
  Laid BY PROGRAM, IN A SANDBOX (cutbox-rows.mjs): the forced cells as the released guide's own fill.sh prints them over the translation fe412a4243e456d4… (all of the seat's roots in one cut). By AI agents, Wed Nov 11 2026. No macro, syntax, notation, axiom, sorry.
-/
import Derived.Test.YtpdobinpndfgfaaChecked
import GoSem.Claim
import GoSem.ClaimJoined
import GoSem.ClaimMapViews
import Derived.JoinedTies
import Derived.KernelRfl
namespace Go.Proofs.Ytpdobinpndfgfaa
/- THE CELL 'sum', in the pinned program and in every row, IS THE sha256 OF THE DUMP (.gsa) THAT YtpdobinpndfgfaaProg.lean LOADS. Nothing in Lean hashes anything: it is a label: what it is worth is what the hold of that sum in a sandbox is worth. -/
noncomputable def Try.pinned : Pinned := { name := "ytpdobinpndfgfaa", sum := "fe412a4243e456d4770980356d7aba217ec7a91d979918fe99511302f67459b4", checked := Try.checked }
namespace Rows
def none {H : Type} : Left H := { results := [], args := [] }

/-- 'reliquarylaw19.InodeBytes': WHATEVER THE INPUT: true; the input reads as it did. -/
def inodeBytesSpec : ChangeSpec := { name := "inodeBytes", fn := fun _ => fun
  | [d1, d2] => { results := [.lit (.bool true)], args := [d1, d2] }
  | _ => none }
def inodeBytesRow : OpenClaim := { program := "ytpdobinpndfgfaa", sum := "fe412a4243e456d4770980356d7aba217ec7a91d979918fe99511302f67459b4", func := "reliquary/reliquarylaw19.InodeBytes", spec := "inodeBytes", unfollowed := true, recurses := true, apart := false }
def InodeBytesSaid : Prop := inodeBytesRow.holds Try.pinned (OpenSpec.ofChange inodeBytesSpec)

/-- ITS FALSE NEIGHBOUR: 'it returns false'. Refute it at one input. -/
def inodeBytesWrong : ChangeSpec := { name := "inodeBytes", fn := fun _ => fun
  | [d1, d2] => { results := [.lit (.bool false)], args := [d1, d2] }
  | _ => none }
def InodeBytesWrongFalsely : Prop := inodeBytesRow.holds Try.pinned (OpenSpec.ofChange inodeBytesWrong)

/-- 'reliquarylaw19.InodeRoads': WHATEVER THE INPUT: true; the input reads as it did. -/
def inodeRoadsSpec : ChangeSpec := { name := "inodeRoads", fn := fun _ => fun
  | [d] => { results := [.lit (.bool true)], args := [d] }
  | _ => none }
def inodeRoadsRow : OpenClaim := { program := "ytpdobinpndfgfaa", sum := "fe412a4243e456d4770980356d7aba217ec7a91d979918fe99511302f67459b4", func := "reliquary/reliquarylaw19.InodeRoads", spec := "inodeRoads", unfollowed := true, recurses := true, apart := false }
def InodeRoadsSaid : Prop := inodeRoadsRow.holds Try.pinned (OpenSpec.ofChange inodeRoadsSpec)

/-- ITS FALSE NEIGHBOUR: 'it returns false'. Refute it at one input. -/
def inodeRoadsWrong : ChangeSpec := { name := "inodeRoads", fn := fun _ => fun
  | [d] => { results := [.lit (.bool false)], args := [d] }
  | _ => none }
def InodeRoadsWrongFalsely : Prop := inodeRoadsRow.holds Try.pinned (OpenSpec.ofChange inodeRoadsWrong)

/-- 'reliquarylaw19.InodeApart': WHATEVER THE INPUT: true; the input reads as it did. -/
def inodeApartSpec : ChangeSpec := { name := "inodeApart", fn := fun _ => fun
  | [d1, d2] => { results := [.lit (.bool true)], args := [d1, d2] }
  | _ => none }
def inodeApartRow : OpenClaim := { program := "ytpdobinpndfgfaa", sum := "fe412a4243e456d4770980356d7aba217ec7a91d979918fe99511302f67459b4", func := "reliquary/reliquarylaw19.InodeApart", spec := "inodeApart", unfollowed := true, recurses := true, apart := false }
def InodeApartSaid : Prop := inodeApartRow.holds Try.pinned (OpenSpec.ofChange inodeApartSpec)

/-- ITS FALSE NEIGHBOUR: 'it returns false'. Refute it at one input. -/
def inodeApartWrong : ChangeSpec := { name := "inodeApart", fn := fun _ => fun
  | [d1, d2] => { results := [.lit (.bool false)], args := [d1, d2] }
  | _ => none }
def InodeApartWrongFalsely : Prop := inodeApartRow.holds Try.pinned (OpenSpec.ofChange inodeApartWrong)

/-- 'reliquarylaw19.InodeFields': WHATEVER THE INPUT: true; the input reads as it did. -/
def inodeFieldsSpec : ChangeSpec := { name := "inodeFields", fn := fun _ => fun
  | [d1, d2] => { results := [.lit (.bool true)], args := [d1, d2] }
  | _ => none }
def inodeFieldsRow : OpenClaim := { program := "ytpdobinpndfgfaa", sum := "fe412a4243e456d4770980356d7aba217ec7a91d979918fe99511302f67459b4", func := "reliquary/reliquarylaw19.InodeFields", spec := "inodeFields", unfollowed := true, recurses := true, apart := false }
def InodeFieldsSaid : Prop := inodeFieldsRow.holds Try.pinned (OpenSpec.ofChange inodeFieldsSpec)

/-- ITS FALSE NEIGHBOUR: 'it returns false'. Refute it at one input. -/
def inodeFieldsWrong : ChangeSpec := { name := "inodeFields", fn := fun _ => fun
  | [d1, d2] => { results := [.lit (.bool false)], args := [d1, d2] }
  | _ => none }
def InodeFieldsWrongFalsely : Prop := inodeFieldsRow.holds Try.pinned (OpenSpec.ofChange inodeFieldsWrong)

/-- 'reliquarylaw19.InodeKinds': WHATEVER THE INPUT: true; the input reads as it did. -/
def inodeKindsSpec : ChangeSpec := { name := "inodeKinds", fn := fun _ => fun
  | [d1, d2, d3, d4] => { results := [.lit (.bool true)], args := [d1, d2, d3, d4] }
  | _ => none }
def inodeKindsRow : OpenClaim := { program := "ytpdobinpndfgfaa", sum := "fe412a4243e456d4770980356d7aba217ec7a91d979918fe99511302f67459b4", func := "reliquary/reliquarylaw19.InodeKinds", spec := "inodeKinds", unfollowed := true, recurses := true, apart := false }
def InodeKindsSaid : Prop := inodeKindsRow.holds Try.pinned (OpenSpec.ofChange inodeKindsSpec)

/-- ITS FALSE NEIGHBOUR: 'it returns false'. Refute it at one input. -/
def inodeKindsWrong : ChangeSpec := { name := "inodeKinds", fn := fun _ => fun
  | [d1, d2, d3, d4] => { results := [.lit (.bool false)], args := [d1, d2, d3, d4] }
  | _ => none }
def InodeKindsWrongFalsely : Prop := inodeKindsRow.holds Try.pinned (OpenSpec.ofChange inodeKindsWrong)

/- THE SECOND FORM. 'bulk': how many values and letters a reading holds, each counted each time it is reached (what is shared counts as often as it is met; a slice's spare places count too). A statement '..UptoSaid' is the law's where the arguments, and the package variables that the reading takes, are together of bulk at most 1048576: NARROWER than '..Said'. Prove '..Said' where nothing that the law and all that it calls make is longer than what came in: it says more and counts as full. Else prove '..UptoSaid'. A law counts once. -/
mutual
def uptoBulk {H : Type} : DataW H → Nat
  | .lit (.string bytes) => bytes.length + 1
  | .lit _ => 1
  | .nil => 1
  | .ptr d => uptoBulk d + 1
  | .slice elems spare => uptoBulkAll elems + uptoBulkAll spare + 1
  | .agg parts => uptoBulkAll parts + 1
  | .iface _ d => uptoBulk d + 1
  | .map entries => uptoBulkEntries entries + 1
  | .held _ => 1
def uptoBulkAll {H : Type} : List (DataW H) → Nat
  | [] => 0
  | d :: r => uptoBulk d + uptoBulkAll r
def uptoBulkEntries {H : Type} : List (Lit × DataW H) → Nat
  | [] => 0
  | x :: r => uptoBulkEntry x + uptoBulkEntries r
def uptoBulkEntry {H : Type} : Lit × DataW H → Nat
  | (.string bytes, d) => bytes.length + uptoBulk d + 1
  | (_, d) => uptoBulk d + 1
 end
def uptoSmall : (H : Type) → List (DataW H) → Bool := fun _ ds => decide (uptoBulkAll ds ≤ 1048576)
def OpenSpec.upto (s : _root_.Go.ChangeSpec) : _root_.Go.OpenSpec := { _root_.Go.OpenSpec.ofChange s with cond := some uptoSmall }

/-- 'reliquarylaw19.InodeBytes', WHERE WHAT IT READS IS OF BULK AT MOST 1048576: true; the input reads as it did. -/
def inodeBytesUptoRow : OpenClaim := { program := "ytpdobinpndfgfaa", sum := "fe412a4243e456d4770980356d7aba217ec7a91d979918fe99511302f67459b4", func := "reliquary/reliquarylaw19.InodeBytes", spec := "inodeBytes", unfollowed := true, recurses := true, apart := false, narrowed := true }
def InodeBytesUptoSaid : Prop := inodeBytesUptoRow.holds Try.pinned (OpenSpec.upto inodeBytesSpec)

/-- 'reliquarylaw19.InodeRoads', WHERE WHAT IT READS IS OF BULK AT MOST 1048576: true; the input reads as it did. -/
def inodeRoadsUptoRow : OpenClaim := { program := "ytpdobinpndfgfaa", sum := "fe412a4243e456d4770980356d7aba217ec7a91d979918fe99511302f67459b4", func := "reliquary/reliquarylaw19.InodeRoads", spec := "inodeRoads", unfollowed := true, recurses := true, apart := false, narrowed := true }
def InodeRoadsUptoSaid : Prop := inodeRoadsUptoRow.holds Try.pinned (OpenSpec.upto inodeRoadsSpec)

/-- 'reliquarylaw19.InodeApart', WHERE WHAT IT READS IS OF BULK AT MOST 1048576: true; the input reads as it did. -/
def inodeApartUptoRow : OpenClaim := { program := "ytpdobinpndfgfaa", sum := "fe412a4243e456d4770980356d7aba217ec7a91d979918fe99511302f67459b4", func := "reliquary/reliquarylaw19.InodeApart", spec := "inodeApart", unfollowed := true, recurses := true, apart := false, narrowed := true }
def InodeApartUptoSaid : Prop := inodeApartUptoRow.holds Try.pinned (OpenSpec.upto inodeApartSpec)

/-- 'reliquarylaw19.InodeFields', WHERE WHAT IT READS IS OF BULK AT MOST 1048576: true; the input reads as it did. -/
def inodeFieldsUptoRow : OpenClaim := { program := "ytpdobinpndfgfaa", sum := "fe412a4243e456d4770980356d7aba217ec7a91d979918fe99511302f67459b4", func := "reliquary/reliquarylaw19.InodeFields", spec := "inodeFields", unfollowed := true, recurses := true, apart := false, narrowed := true }
def InodeFieldsUptoSaid : Prop := inodeFieldsUptoRow.holds Try.pinned (OpenSpec.upto inodeFieldsSpec)

/-- 'reliquarylaw19.InodeKinds', WHERE WHAT IT READS IS OF BULK AT MOST 1048576: true; the input reads as it did. -/
def inodeKindsUptoRow : OpenClaim := { program := "ytpdobinpndfgfaa", sum := "fe412a4243e456d4770980356d7aba217ec7a91d979918fe99511302f67459b4", func := "reliquary/reliquarylaw19.InodeKinds", spec := "inodeKinds", unfollowed := true, recurses := true, apart := false, narrowed := true }
def InodeKindsUptoSaid : Prop := inodeKindsUptoRow.holds Try.pinned (OpenSpec.upto inodeKindsSpec)

end Rows
end Go.Proofs.Ytpdobinpndfgfaa
