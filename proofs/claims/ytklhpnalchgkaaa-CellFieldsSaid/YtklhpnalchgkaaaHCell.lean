/- Cells as values: the 68 places of a cell, and what is read of them. -/
import Derived.Test.YtklhpnalchgkaaaQx0
import Derived.Test.YtklhpnalchgkaaaQxw
import Derived.Test.YtklhpnalchgkaaaQxf16
import Derived.Test.YtklhpnalchgkaaaQxf17
import Derived.Test.YtklhpnalchgkaaaQxf18
import Derived.Test.YtklhpnalchgkaaaQxf19
import Derived.Test.YtklhpnalchgkaaaQxf20
import Derived.Test.YtklhpnalchgkaaaPureW
import Derived.Laws.Rows
namespace Go.Proofs.Ytklhpnalchgkaaa.Q
open Go.RowKit Go.Proofs.YtklhpnalchgkaaaW.PrintWords Go.Proofs.YtklhpnalchgkaaaW.PrintLast Go.Proofs.YtklhpnalchgkaaaW.PrintMore Go.Proofs.Ytklhpnalchgkaaa.Pure
attribute [local go_sem] max2_int min2_int max_two min_two max_three min_three max_four min_four
set_option linter.unusedVariables false
set_option linter.unusedSimpArgs false

structure CellV where
  root : List Int
  ver : Int
  cnt : Int
  start : Int
  count : Int
  tag : List Int
def CellV.cellL (x : CellV) : List Value := encs (Value.int .u8) x.root ++ ([Value.int .u64 x.ver, Value.int .u64 x.cnt, Value.int .u64 x.start, Value.int .u64 x.count] ++ encs (Value.int .u8) x.tag)
def CellV.cells (x : CellV) : Array Value := x.cellL.toArray
structure CellV.Ok (x : CellV) : Prop where
  root : x.root.length = 32
  tag : x.tag.length = 32
  rootu : u8s x.root
  tagu : u8s x.tag
  ver : 0 ≤ x.ver ∧ x.ver < 18446744073709551616
  cnt : 0 ≤ x.cnt ∧ x.cnt < 18446744073709551616
  start : 0 ≤ x.start ∧ x.start < 18446744073709551616
  count : 0 ≤ x.count ∧ x.count < 18446744073709551616
def CellV.nought : CellV := ⟨List.replicate 32 0, 0, 0, 0, 0, List.replicate 32 0⟩
/-- A cell's bytes. -/
def CellV.bytes (x : CellV) : List Int := x.root ++ (lebytes 8 x.ver ++ (lebytes 8 x.cnt ++ (lebytes 8 x.start ++ (lebytes 8 x.count ++ x.tag))))
theorem CellV.size {x : CellV} (h : x.Ok) : x.cells.size = 68 := by
  simp [CellV.cells, CellV.cellL, encs_length, h.root, h.tag]
theorem CellV.at_num {x : CellV} (h : x.Ok) : x.cells[32]? = some (.int .u64 x.ver) ∧ x.cells[33]? = some (.int .u64 x.cnt) ∧ x.cells[34]? = some (.int .u64 x.start) ∧ x.cells[35]? = some (.int .u64 x.count) := by
  have hl : (encs (Value.int .u8) x.root).length = 32 := by rw [encs_length, h.root]
  unfold CellV.cells CellV.cellL
  refine ⟨?_, ?_, ?_, ?_⟩ <;> rw [List.getElem?_toArray, List.getElem?_append_right (by omega), hl] <;> rfl
theorem CellV.at_root {x : CellV} (h : x.Ok) (j : Nat) (hj : j < 32) : x.cells[j]? = some (.int .u8 (x.root.getD j 0)) := by
  have hl : (encs (Value.int .u8) x.root).length = 32 := by rw [encs_length, h.root]
  unfold CellV.cells CellV.cellL
  rw [List.getElem?_toArray, List.getElem?_append_left (by omega)]
  exact encs_get (enc := Value.int .u8) (d := (0 : Int)) x.root j (by have := h.root; omega)
theorem CellV.at_tag {x : CellV} (h : x.Ok) (j : Nat) (hj : j < 32) : x.cells[36 + j]? = some (.int .u8 (x.tag.getD j 0)) := by
  have hl : (encs (Value.int .u8) x.root).length = 32 := by rw [encs_length, h.root]
  unfold CellV.cells CellV.cellL
  rw [List.getElem?_toArray, List.getElem?_append_right (by omega), hl, List.getElem?_append_right (by simp; omega), show 36 + j - 32 - [Value.int IntKind.u64 x.ver, Value.int .u64 x.cnt, Value.int .u64 x.start, Value.int .u64 x.count].length = j by simp; omega]
  exact encs_get (enc := Value.int .u8) (d := (0 : Int)) x.tag j (by have := h.tag; omega)

/-- Block g is a cell. -/
def CellAt (w : World) (g : Nat) (x : CellV) : Prop := w.heap[g]? = some (.cells x.cells 26 (0, 0))
theorem CellAt.blk {w : World} {g : Nat} {x : CellV} (h : CellAt w g x) : w.heap[g]? = some (.cells x.cells 26 (0, 0)) := h
theorem CellAt.cell {w : World} {g : Nat} {x : CellV} (h : CellAt w g x) (j : Nat) : w.cell? ⟨g, j, none⟩ = x.cells[j]? := cell_of_row w g j _ _ _ h
theorem CellAt.lt {w : World} {g : Nat} {x : CellV} (h : CellAt w g x) : g < w.heap.size := (Array.getElem?_eq_some_iff.1 h).1
theorem CellAt.below {w w1 : World} {g : Nat} {x : CellV} (h : CellAt w g x) {B : Nat} (hb : Below B w w1) (hg : g < B) : CellAt w1 g x := (hb.block g hg).trans h
theorem CellAt.nums {w : World} {g : Nat} {x : CellV} (h : CellAt w g x) (hx : x.Ok) : w.cell? ⟨g, 32, none⟩ = some (.int .u64 x.ver) ∧ w.cell? ⟨g, 33, none⟩ = some (.int .u64 x.cnt) ∧ w.cell? ⟨g, 34, none⟩ = some (.int .u64 x.start) ∧ w.cell? ⟨g, 35, none⟩ = some (.int .u64 x.count) := by
  obtain ⟨a, b, c, d⟩ := x.at_num hx
  exact ⟨(h.cell 32).trans a, (h.cell 33).trans b, (h.cell 34).trans c, (h.cell 35).trans d⟩
theorem CellAt.root {w : World} {g : Nat} {x : CellV} (h : CellAt w g x) (hx : x.Ok) : Kd.C (Kd.int .u8) w (some ⟨g, 0, none⟩) x.root.length x.root :=
  Kd.C_of_reads (enc := Value.int .u8) (d := (0 : Int)) (h1 := fun _ => rfl) ⟨rfl, by rw [hx.root]; decide, fun _ => ⟨_, rfl, fun j hj => by
    rw [hx.root] at hj
    rw [add_plain, h.cell]
    exact x.at_root hx j hj⟩⟩
theorem CellAt.tag {w : World} {g : Nat} {x : CellV} (h : CellAt w g x) (hx : x.Ok) : Kd.C (Kd.int .u8) w (some ⟨g, 36, none⟩) x.tag.length x.tag :=
  Kd.C_of_reads (enc := Value.int .u8) (d := (0 : Int)) (h1 := fun _ => rfl) ⟨rfl, by rw [hx.tag]; decide, fun _ => ⟨_, rfl, fun j hj => by
    rw [hx.tag] at hj
    rw [Addr.add_lit, h.cell]
    exact x.at_tag hx j hj⟩⟩
theorem CellAt.new (w : World) (x : CellV) : CellAt (w.alloc (.cells x.cells 26)) w.heap.size x := heap_alloc_new w _
theorem put8 (x : Int) (hx : 0 ≤ x) : word_Put.f 9 x 8 = some (lebytes 8 x) := by
  rw [word_Put_eq 9 (by decide) x 8 hx]
  rfl
theorem clone_eq (l : List Int) (h : l.length ≤ 140737488351232) : slices_Clone_byte_byte.f l = some l := by unfold slices_Clone_byte_byte.f; rw [if_pos h]
/-- The row of the four numbers, as far as it has come. -/
def CellV.num (x : CellV) (i : Nat) : Int := match i with | 0 => x.ver | 1 => x.cnt | 2 => x.start | _ => x.count
def CellV.upto (x : CellV) : Nat → List Int
  | 0 => x.root
  | i + 1 => x.upto i ++ lebytes 8 (x.num i)
theorem CellV.upto_length {x : CellV} (h : x.Ok) : ∀ i, (x.upto i).length = 32 + 8 * i
  | 0 => h.root
  | i + 1 => by rw [CellV.upto, List.length_append, CellV.upto_length h i, lebytes_length]; omega
theorem CellV.bytes_eq (x : CellV) : x.upto 4 ++ x.tag = x.bytes := by simp [CellV.upto, CellV.bytes, CellV.num, List.append_assoc]
end Go.Proofs.Ytklhpnalchgkaaa.Q
