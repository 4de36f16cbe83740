/-
  No cell of these rows narrows 'for every input' (looked for: loops, veiled, ifaces, maps, wideKeys, modest, calm, conditions, laid).
  DERIVED. THE GIVEN ROWS OF THIS SEAT. 5 by the template 'for every input the law returns true; each argument reads behind the call as it read before'; 0 by the template 'total and deterministic' (their statements: YtllbgccdcibopaaTotals.lean).
  GIVEN WITH THE SEED: the statements are not yours to turn. If you find one false, say at which input.
  Laid BY PROGRAM, IN A SANDBOX (cutbox-rows.mjs): the forced cells as the released guide's own fill.sh prints them over the translation 02f5564e76ef8fda… (all of the seat's roots in one cut). By AI agents, Wed Nov 11 2026. No macro, syntax, notation, axiom, sorry.
-/
import Derived.Test.YtllbgccdcibopaaChecked
import GoSem.Claim
import GoSem.ClaimJoined
import GoSem.ClaimMapViews
import Derived.JoinedTies
import Derived.KernelRfl
namespace Go.Proofs.Ytllbgccdcibopaa
/- THE CELL 'sum', in the pinned program and in every row, IS THE sha256 OF THE DUMP (.gsa) THAT YtllbgccdcibopaaProg.lean LOADS. Nothing in Lean hashes anything: it is a label: what it is worth is what the hold of that sum in a sandbox is worth. -/
noncomputable def Try.pinned : Pinned := { name := "ytllbgccdcibopaa", sum := "02f5564e76ef8fda179c4faf38b1ee92c731dd22af8b184dc9e15fcaabe058ac", checked := Try.checked }
namespace Rows
def none {H : Type} : Left H := { results := [], args := [] }

/-- 'reliquarylaw17.LayoutTells': WHATEVER THE INPUT: true; the input reads as it did. -/
def layoutTellsSpec : ChangeSpec := { name := "layoutTells", fn := fun _ => fun
  | [d1, d2, d3] => { results := [.lit (.bool true)], args := [d1, d2, d3] }
  | _ => none }
def layoutTellsRow : OpenClaim := { program := "ytllbgccdcibopaa", sum := "02f5564e76ef8fda179c4faf38b1ee92c731dd22af8b184dc9e15fcaabe058ac", func := "reliquary/reliquarylaw17.LayoutTells", spec := "layoutTells", apart := false }
def LayoutTellsSaid : Prop := layoutTellsRow.holds Try.pinned (OpenSpec.ofChange layoutTellsSpec)

/-- ITS FALSE NEIGHBOUR: 'it returns false'. Refute it at one input. -/
def layoutTellsWrong : ChangeSpec := { name := "layoutTells", fn := fun _ => fun
  | [d1, d2, d3] => { results := [.lit (.bool false)], args := [d1, d2, d3] }
  | _ => none }
def LayoutTellsWrongFalsely : Prop := layoutTellsRow.holds Try.pinned (OpenSpec.ofChange layoutTellsWrong)

/-- 'reliquarylaw17.LayoutGets': WHATEVER THE INPUT: true; the input reads as it did. -/
def layoutGetsSpec : ChangeSpec := { name := "layoutGets", fn := fun _ => fun
  | [d1, d2, d3, d4, d5] => { results := [.lit (.bool true)], args := [d1, d2, d3, d4, d5] }
  | _ => none }
def layoutGetsRow : OpenClaim := { program := "ytllbgccdcibopaa", sum := "02f5564e76ef8fda179c4faf38b1ee92c731dd22af8b184dc9e15fcaabe058ac", func := "reliquary/reliquarylaw17.LayoutGets", spec := "layoutGets", apart := false }
def LayoutGetsSaid : Prop := layoutGetsRow.holds Try.pinned (OpenSpec.ofChange layoutGetsSpec)

/-- ITS FALSE NEIGHBOUR: 'it returns false'. Refute it at one input. -/
def layoutGetsWrong : ChangeSpec := { name := "layoutGets", fn := fun _ => fun
  | [d1, d2, d3, d4, d5] => { results := [.lit (.bool false)], args := [d1, d2, d3, d4, d5] }
  | _ => none }
def LayoutGetsWrongFalsely : Prop := layoutGetsRow.holds Try.pinned (OpenSpec.ofChange layoutGetsWrong)

/-- 'reliquarylaw17.LayoutApart': WHATEVER THE INPUT: true; the input reads as it did. -/
def layoutApartSpec : ChangeSpec := { name := "layoutApart", fn := fun _ => fun
  | [d1, d2, d3, d4] => { results := [.lit (.bool true)], args := [d1, d2, d3, d4] }
  | _ => none }
def layoutApartRow : OpenClaim := { program := "ytllbgccdcibopaa", sum := "02f5564e76ef8fda179c4faf38b1ee92c731dd22af8b184dc9e15fcaabe058ac", func := "reliquary/reliquarylaw17.LayoutApart", spec := "layoutApart", apart := false }
def LayoutApartSaid : Prop := layoutApartRow.holds Try.pinned (OpenSpec.ofChange layoutApartSpec)

/-- ITS FALSE NEIGHBOUR: 'it returns false'. Refute it at one input. -/
def layoutApartWrong : ChangeSpec := { name := "layoutApart", fn := fun _ => fun
  | [d1, d2, d3, d4] => { results := [.lit (.bool false)], args := [d1, d2, d3, d4] }
  | _ => none }
def LayoutApartWrongFalsely : Prop := layoutApartRow.holds Try.pinned (OpenSpec.ofChange layoutApartWrong)

/-- 'reliquarylaw17.LayoutRooms': WHATEVER THE INPUT: true; the input reads as it did. -/
def layoutRoomsSpec : ChangeSpec := { name := "layoutRooms", fn := fun _ => fun
  | [d1, d2] => { results := [.lit (.bool true)], args := [d1, d2] }
  | _ => none }
def layoutRoomsRow : OpenClaim := { program := "ytllbgccdcibopaa", sum := "02f5564e76ef8fda179c4faf38b1ee92c731dd22af8b184dc9e15fcaabe058ac", func := "reliquary/reliquarylaw17.LayoutRooms", spec := "layoutRooms", apart := false }
def LayoutRoomsSaid : Prop := layoutRoomsRow.holds Try.pinned (OpenSpec.ofChange layoutRoomsSpec)

/-- ITS FALSE NEIGHBOUR: 'it returns false'. Refute it at one input. -/
def layoutRoomsWrong : ChangeSpec := { name := "layoutRooms", fn := fun _ => fun
  | [d1, d2] => { results := [.lit (.bool false)], args := [d1, d2] }
  | _ => none }
def LayoutRoomsWrongFalsely : Prop := layoutRoomsRow.holds Try.pinned (OpenSpec.ofChange layoutRoomsWrong)

/-- 'reliquarylaw17.LayoutForms': WHATEVER THE INPUT: true; the input reads as it did. -/
def layoutFormsSpec : ChangeSpec := { name := "layoutForms", fn := fun _ => fun
  | [d1, d2, d3, d4, d5, d6] => { results := [.lit (.bool true)], args := [d1, d2, d3, d4, d5, d6] }
  | _ => none }
def layoutFormsRow : OpenClaim := { program := "ytllbgccdcibopaa", sum := "02f5564e76ef8fda179c4faf38b1ee92c731dd22af8b184dc9e15fcaabe058ac", func := "reliquary/reliquarylaw17.LayoutForms", spec := "layoutForms", apart := false }
def LayoutFormsSaid : Prop := layoutFormsRow.holds Try.pinned (OpenSpec.ofChange layoutFormsSpec)

/-- ITS FALSE NEIGHBOUR: 'it returns false'. Refute it at one input. -/
def layoutFormsWrong : ChangeSpec := { name := "layoutForms", fn := fun _ => fun
  | [d1, d2, d3, d4, d5, d6] => { results := [.lit (.bool false)], args := [d1, d2, d3, d4, d5, d6] }
  | _ => none }
def LayoutFormsWrongFalsely : Prop := layoutFormsRow.holds Try.pinned (OpenSpec.ofChange layoutFormsWrong)

/- THE SECOND FORM. 'bulk': how many values and letters a reading holds, each counted each time it is reached (what is shared counts as often as it is met; a slice's spare places count too). A statement '..UptoSaid' is the law's where the arguments, and the package variables that the reading takes, are together of bulk at most 1048576: NARROWER than '..Said'. Prove '..Said' where nothing that the law and all that it calls make is longer than what came in: it says more and counts as full. Else prove '..UptoSaid'. A law counts once. -/
mutual
def uptoBulk {H : Type} : DataW H → Nat
  | .lit (.string bytes) => bytes.length + 1
  | .lit _ => 1
  | .nil => 1
  | .ptr d => uptoBulk d + 1
  | .slice elems spare => uptoBulkAll elems + uptoBulkAll spare + 1
  | .agg parts => uptoBulkAll parts + 1
  | .iface _ d => uptoBulk d + 1
  | .map entries => uptoBulkEntries entries + 1
  | .held _ => 1
def uptoBulkAll {H : Type} : List (DataW H) → Nat
  | [] => 0
  | d :: r => uptoBulk d + uptoBulkAll r
def uptoBulkEntries {H : Type} : List (Lit × DataW H) → Nat
  | [] => 0
  | x :: r => uptoBulkEntry x + uptoBulkEntries r
def uptoBulkEntry {H : Type} : Lit × DataW H → Nat
  | (.string bytes, d) => bytes.length + uptoBulk d + 1
  | (_, d) => uptoBulk d + 1
 end
def uptoSmall : (H : Type) → List (DataW H) → Bool := fun _ ds => decide (uptoBulkAll ds ≤ 1048576)
def OpenSpec.upto (s : _root_.Go.ChangeSpec) : _root_.Go.OpenSpec := { _root_.Go.OpenSpec.ofChange s with cond := some uptoSmall }

/-- 'reliquarylaw17.LayoutTells', WHERE WHAT IT READS IS OF BULK AT MOST 1048576: true; the input reads as it did. -/
def layoutTellsUptoRow : OpenClaim := { program := "ytllbgccdcibopaa", sum := "02f5564e76ef8fda179c4faf38b1ee92c731dd22af8b184dc9e15fcaabe058ac", func := "reliquary/reliquarylaw17.LayoutTells", spec := "layoutTells", apart := false, narrowed := true }
def LayoutTellsUptoSaid : Prop := layoutTellsUptoRow.holds Try.pinned (OpenSpec.upto layoutTellsSpec)

/-- 'reliquarylaw17.LayoutGets', WHERE WHAT IT READS IS OF BULK AT MOST 1048576: true; the input reads as it did. -/
def layoutGetsUptoRow : OpenClaim := { program := "ytllbgccdcibopaa", sum := "02f5564e76ef8fda179c4faf38b1ee92c731dd22af8b184dc9e15fcaabe058ac", func := "reliquary/reliquarylaw17.LayoutGets", spec := "layoutGets", apart := false, narrowed := true }
def LayoutGetsUptoSaid : Prop := layoutGetsUptoRow.holds Try.pinned (OpenSpec.upto layoutGetsSpec)

/-- 'reliquarylaw17.LayoutApart', WHERE WHAT IT READS IS OF BULK AT MOST 1048576: true; the input reads as it did. -/
def layoutApartUptoRow : OpenClaim := { program := "ytllbgccdcibopaa", sum := "02f5564e76ef8fda179c4faf38b1ee92c731dd22af8b184dc9e15fcaabe058ac", func := "reliquary/reliquarylaw17.LayoutApart", spec := "layoutApart", apart := false, narrowed := true }
def LayoutApartUptoSaid : Prop := layoutApartUptoRow.holds Try.pinned (OpenSpec.upto layoutApartSpec)

/-- 'reliquarylaw17.LayoutRooms', WHERE WHAT IT READS IS OF BULK AT MOST 1048576: true; the input reads as it did. -/
def layoutRoomsUptoRow : OpenClaim := { program := "ytllbgccdcibopaa", sum := "02f5564e76ef8fda179c4faf38b1ee92c731dd22af8b184dc9e15fcaabe058ac", func := "reliquary/reliquarylaw17.LayoutRooms", spec := "layoutRooms", apart := false, narrowed := true }
def LayoutRoomsUptoSaid : Prop := layoutRoomsUptoRow.holds Try.pinned (OpenSpec.upto layoutRoomsSpec)

/-- 'reliquarylaw17.LayoutForms', WHERE WHAT IT READS IS OF BULK AT MOST 1048576: true; the input reads as it did. -/
def layoutFormsUptoRow : OpenClaim := { program := "ytllbgccdcibopaa", sum := "02f5564e76ef8fda179c4faf38b1ee92c731dd22af8b184dc9e15fcaabe058ac", func := "reliquary/reliquarylaw17.LayoutForms", spec := "layoutForms", apart := false, narrowed := true }
def LayoutFormsUptoSaid : Prop := layoutFormsUptoRow.holds Try.pinned (OpenSpec.upto layoutFormsSpec)

end Rows
end Go.Proofs.Ytllbgccdcibopaa
