/- What a keeper does. -/
import Derived.Test.YtklhpnalchgkaaaHGet
namespace Go.Proofs.Ytklhpnalchgkaaa.Q
open Go.RowKit Go.Proofs.YtklhpnalchgkaaaW.PrintWords Go.Proofs.YtklhpnalchgkaaaW.PrintLast Go.Proofs.YtklhpnalchgkaaaW.PrintMore Go.Proofs.Ytklhpnalchgkaaa.Pure
attribute [local go_sem] max2_int min2_int max_two min_two max_three min_three max_four min_four
set_option linter.unusedVariables false
set_option linter.unusedSimpArgs false

/-- Block g is a keeper: its cell, how often it was put. -/
def keepCells (x : CellV) (n : Int) : Array Value := (x.cellL ++ [Value.int .i64 n]).toArray
def KeepAt (w : World) (g : Nat) (x : CellV) (n : Int) : Prop := w.heap[g]? = some (.cells (keepCells x n) 50 (0, 0))
theorem KeepAt.blk {w : World} {g : Nat} {x : CellV} {n : Int} (h : KeepAt w g x n) : w.heap[g]? = some (.cells (keepCells x n) 50 (0, 0)) := h
theorem cellL_length {x : CellV} (h : x.Ok) : x.cellL.length = 68 := by
  have := x.size h
  simpa [CellV.cells] using this
theorem KeepAt.at {w : World} {g : Nat} {x : CellV} {n : Int} (h : KeepAt w g x n) (hx : x.Ok) (j : Nat) (hj : j < 68) : w.cell? ⟨g, j, none⟩ = x.cells[j]? := by
  rw [cell_of_row w g j _ _ _ h]
  unfold keepCells CellV.cells
  rw [List.getElem?_toArray, List.getElem?_append_left (by rw [cellL_length hx]; exact hj), List.getElem?_toArray]
theorem KeepAt.times {w : World} {g : Nat} {x : CellV} {n : Int} (h : KeepAt w g x n) (hx : x.Ok) : w.cell? ⟨g, 68, none⟩ = some (.int .i64 n) := by
  rw [cell_of_row w g 68 _ _ _ h]
  unfold keepCells
  rw [List.getElem?_toArray, List.getElem?_append_right (by rw [cellL_length hx]; omega), cellL_length hx]
  rfl
theorem KeepAt.cnt {w : World} {g : Nat} {x : CellV} {n : Int} (h : KeepAt w g x n) (hx : x.Ok) : w.cell? ⟨g, 33, none⟩ = some (.int .u64 x.cnt) := (h.at hx 33 (by decide)).trans (x.at_num hx).2.1
theorem keep_free {w : World} {g : Nat} {x : CellV} {n : Int} (h : KeepAt w g x n) (j : Nat) : w.frozen? ⟨g, j, none⟩ = false := by
  have h1 := h.blk
  simp [World.frozen?, h1]
theorem keepCells_size {x : CellV} (h : x.Ok) (n : Int) : (keepCells x n).size = 69 := by simp [keepCells, cellL_length h]
theorem build_keeper : ∀ W : World, (Instr.build 50 #[]).run Try.prog W = .ok (.agg (keepCells CellV.nought 0)) W := fun W => by kernel_rfl
theorem keeper_New.calls (w : World) : Calls Try.prog 12 #[] w fun e w' => ∃ g, e = .returned (.pointer (some ⟨g, 0, none⟩)) ∧ w.heap.size ≤ g ∧ KeepAt w' g CellV.nought 0 ∧ Below w.heap.size w w' := by
  go_enter Try.func12, Try.ntmps12
  go_wp2_with (first | ((with_reducible refine gate_op (N := .build 50 #[]) rfl ?_); refine wl_val rfl (.agg (keepCells CellV.nought 0)) (by unfold execOp; simp [build_keeper]) ?_) | ((with_reducible refine gate_op (N := .box 50 (.tmp 1)) rfl ?_); refine wl_box rfl 50 _ rfl (.agg (keepCells CellV.nought 0)) rfl ?_; intro g hg w1 hblk hb hsz; have HG := Aside0.mk hg; have HK := Aside0.mk hblk; have HB := Aside0.mk hb; clear hg hblk hb hsz))
  go_ret
  exact ⟨g, rfl, by rw [HG.out]; exact Nat.le_refl _, HK.out, HB.out⟩
theorem keeper_Times_nil (w : World) : Calls Try.prog 15 #[.pointer none] w fun e w' => e = .returned (.int .i64 0) ∧ w = w' := by
  go_enter Try.func15, Try.ntmps15
  go_wp2
  go_ret
  exact ⟨rfl, rfl⟩
theorem keeper_Times.calls (g : Nat) (x : CellV) (n : Int) (w : World) (hx : x.Ok) (h : KeepAt w g x n) : Calls Try.prog 15 #[.pointer (some ⟨g, 0, none⟩)] w fun e w' => e = .returned (.int .i64 n) ∧ w = w' := by
  have hc := h.times hx
  clear h hx
  go_enter Try.func15, Try.ntmps15
  go_wp2
  go_ret
  exact ⟨rfl, rfl⟩
theorem keeper_Get_nil (w : World) : Calls Try.prog 14 #[.pointer none] w fun e w' => e = .returned (.agg CellV.nought.cells) ∧ Below w.heap.size w w' := by
  go_enter Try.func14, Try.ntmps14
  go_wp2_with (first | ((with_reducible refine gate_op (N := .alloc 26) rfl ?_); refine wl_alloc rfl 26 rfl _ zero_cell ?_; intro g hg w1 hblk hb hsz; have HG := Aside0.mk hg; have HK := Aside0.mk hblk; have HB := Aside0.mk hb; clear hg hblk hb hsz) | ((with_reducible refine gate_op (N := .build 26 #[]) rfl ?_); refine wl_val rfl (.agg CellV.nought.cells) (by unfold execOp; simp [build_nought]) ?_) | ((with_reducible refine gate_store (t := 26) rfl ?_); refine wl_store_all rfl rfl 26 _ _ rfl g rfl _ _ HK.out (.agg CellV.nought.cells) rfl rfl CellV.one info_nought ?_; intro w2 hblk hg2 hsz2; have HK2 := Aside0.mk hblk; have HB2 := Aside0.mk (grown_below HB.out hg2 HB.out.size (by rw [HG.out]; exact Nat.le_refl _)); clear hblk hg2 hsz2))
  exact bodyPost_ret (results_cell_row rfl _ _ g 26 _ _ _ rfl HK2.out Try.underlying26 rfl info_nought) rfl ⟨rfl, HB2.out⟩
theorem keeper_Get.calls (g0 : Nat) (x : CellV) (n : Int) (w : World) (hx : x.Ok) (h : KeepAt w g0 x n) : Calls Try.prog 14 #[.pointer (some ⟨g0, 0, none⟩)] w fun e w' => e = .returned (.agg x.cells) ∧ Below w.heap.size w w' := by
  have HX := Aside0.mk hx
  have HH := Aside0.mk h
  clear hx h
  have HSZ := Aside0.mk (show (Try.prog.info? 26).map (·.size) = some x.cellL.length from by rw [cellL_length HX.out]; exact info_cell)
  go_enter Try.func14, Try.ntmps14
  go_wp2_with (first | ((with_reducible refine gate_op (N := .alloc 26) rfl ?_); refine wl_alloc rfl 26 rfl _ zero_cell ?_; intro g hg w1 hblk hb hsz; have HG := Aside0.mk hg; have HK := Aside0.mk hblk; have HB := Aside0.mk hb; clear hg hblk hb hsz) | ((with_reducible refine gate_op (N := .load 26 (.tmp 8)) rfl ?_); refine wl_load_agg rfl _ _ rfl ⟨g0, 0, none⟩ rfl x.cellL _ (fun j v hv => ?side1) Try.underlying26 rfl HSZ.out ?_; (case side1 => have hj := (List.getElem?_eq_some_iff.1 hv).1; rw [cellL_length HX.out] at hj; rw [add_plain, HB.out.cell (p := ⟨g0, j, none⟩) (blk_lt HH.out.blk), HH.out.at HX.out j hj]; simpa [CellV.cells] using hv)) | ((with_reducible refine gate_store (t := 26) rfl ?_); refine wl_store_all rfl rfl 26 _ _ rfl g rfl _ _ HK.out (.agg x.cells) rfl ?side2 CellV.one ?side3 ?_; (case side2 => show x.cells.size = _; rw [x.size HX.out]; rfl); (case side3 => show _ = some x.cells.size; rw [x.size HX.out]; exact info_cell); intro w2 hblk hg2 hsz2; have HK2 := Aside0.mk hblk; have HB2 := Aside0.mk (grown_below HB.out hg2 HB.out.size (by rw [HG.out]; exact Nat.le_refl _)); clear hblk hg2 hsz2))
  exact bodyPost_ret (results_cell_row rfl _ _ g 26 x.cells _ _ rfl HK2.out Try.underlying26 rfl (by rw [x.size HX.out]; exact info_cell)) rfl ⟨rfl, HB2.out⟩
theorem keeper_Put_nil (x : CellV) (w : World) : Calls Try.prog 13 #[.pointer none, .agg x.cells] w fun e w' => e = .returned (.int .i64 1) ∧ Below w.heap.size w w' := by
  go_enter Try.func13, Try.ntmps13
  go_wp2
  go_ret
  exact ⟨rfl, below_alloc (Below.refl _ _) _⟩
end Go.Proofs.Ytklhpnalchgkaaa.Q
