/- The document's example of cells and keepers. -/
import Derived.Test.YtklhpnalchgkaaaHPlain
import Derived.Test.YtklhpnalchgkaaaHPut
import Derived.Test.YtklhpnalchgkaaaHKPut
import Derived.Test.YtklhpnalchgkaaaHRGet
import Derived.Test.YtklhpnalchgkaaaHRPut
namespace Go.Proofs.Ytklhpnalchgkaaa.Q
open Go.RowKit Go.Proofs.YtklhpnalchgkaaaW.PrintWords Go.Proofs.YtklhpnalchgkaaaW.PrintLast Go.Proofs.YtklhpnalchgkaaaW.PrintMore Go.Proofs.Ytklhpnalchgkaaa.Pure
attribute [local go_sem] max2_int min2_int max_two min_two max_three min_three max_four min_four
set_option linter.unusedVariables false
set_option linter.unusedSimpArgs false
theorem cell_Get.calls (A0 : Option Addr) (c0 : Nat) (l : List Int) (w : World) (hr : Kd.C (Kd.int .u8) w A0 l.length l) (hc0 : l.length ≤ c0) (hu : u8s l) :
    Calls Try.prog 9 #[.slice A0 l.length c0] w fun e w' => e = .returned (.tuple #[.agg (formC l).1.cells, .int .i64 (formC l).2]) ∧ Below w.heap.size w w' := by
  by_cases h : l.length = 96
  · have h2 : (formC l).2 = 0 := by unfold formC; rw [if_pos h]
    rw [h2]
    rw [h] at hr hc0 ⊢
    exact cell_Get_yes A0 c0 l w hr h hc0 hu
  · have h2 : formC l = (CellV.nought, 11) := by unfold formC; rw [if_neg h]
    rw [h2]
    exact cell_Get_no A0 _ c0 h w
theorem ref_Get.calls (A0 : Option Addr) (c0 : Nat) (l : List Int) (w : World) (hr : Kd.C (Kd.int .u8) w A0 l.length l) (hc0 : l.length ≤ c0) (hu : u8s l) :
    Calls Try.prog 10 #[.slice A0 l.length c0] w fun e w' => e = .returned (.tuple #[.agg (formC l).1.cells, .int .i64 (formC l).2]) ∧ Below w.heap.size w w' := by
  by_cases h : l.length = 96
  · have h2 : (formC l).2 = 0 := by unfold formC; rw [if_pos h]
    rw [h2]
    rw [h] at hr hc0 ⊢
    exact ref_Get_yes A0 c0 l w hr h hc0 hu
  · have h2 : formC l = (CellV.nought, 11) := by unfold formC; rw [if_neg h]
    rw [h2]
    exact ref_Get_no A0 _ c0 h w
/-- A cell's Put, then its Get. -/
theorem cell_Get_of {x : CellV} (hx : x.Ok) (A0 : Option Addr) (n c0 : Nat) (hn : n = 96) (w : World) (hr : Kd.C (Kd.int .u8) w A0 n x.bytes) (hc0 : n ≤ c0) :
    Calls Try.prog 9 #[.slice A0 n c0] w fun e w' => e = .returned (.tuple #[.agg x.cells, .int .i64 0]) ∧ Below w.heap.size w w' := by
  subst hn
  have h1 := cell_Get_yes A0 c0 x.bytes w hr (x.bytes_length hx) hc0 (x.bytes_u8s hx)
  rw [formC_bytes hx] at h1
  exact h1
def c1V : CellV := ⟨List.replicate 32 0, 0, 1, 5, 0, List.replicate 32 0⟩
def c9V : CellV := ⟨List.replicate 32 0, 0, 0, 0, 9, List.replicate 32 0⟩
theorem c1_ok : c1V.Ok := ⟨by decide, by decide, by decide, by decide, by decide, by decide, by decide, by decide⟩
theorem c9_ok : c9V.Ok := ⟨by decide, by decide, by decide, by decide, by decide, by decide, by decide, by decide⟩
theorem build_c1 : ∀ W : World, (Instr.build 26 #[(2, .int .u64 1), (3, .int .u64 5)]).run Try.prog W = .ok (.agg c1V.cells) W := fun W => by kernel_rfl
theorem build_c9 : ∀ W : World, (Instr.build 26 #[(4, .int .u64 9)]).run Try.prog W = .ok (.agg c9V.cells) W := fun W => by kernel_rfl
set_option maxHeartbeats 1000000 in
set_option maxRecDepth 100000 in
theorem awake07.calls (w : World) : Calls Try.prog 7 #[] w fun e w' => e = .returned (.bool true) ∧ Below w.heap.size w w' := by
  have hfield : ∀ W : World, (Instr.field 26 (.agg c1V.cells) 3).run Try.prog W = .ok (.int .u64 5) W := fun W => by kernel_rfl
  go_enter Try.func7, Try.ntmps7
  go_wp2_with (first | (go_at_call 12; (with_reducible refine (keeper_New.calls _).mono ?_); rintro e w1 ⟨gk, rfl, hg, hk, hb⟩; have HG := Aside0.mk hg; have HK0 := Aside0.mk hk; have HB := Aside0.mk hb; clear hg hk hb) | ((with_reducible refine gate_dst (N := 8) rfl ?_); refine wl_val rfl (.agg CellV.nought.cells) (by unfold execOp; simp [build_nought]) ?_) | ((with_reducible refine gate_dst (N := 11) rfl ?_); refine wl_val rfl (.agg c1V.cells) (by unfold execOp; simp [build_c1, Act.eval]) ?_) | ((with_reducible refine gate_dst (N := 14) rfl ?_); refine wl_val rfl (.agg c9V.cells) (by unfold execOp; simp [build_c9, Act.eval]) ?_) | (go_at_call 13; (with_reducible refine (keeper_Put.calls gk CellV.nought CellV.nought 0 _ nought_ok nought_ok HK0.out (by decide)).mono ?_); rintro e w2 ⟨h1, _⟩; obtain ⟨rfl, hb⟩ := h1 (by decide); have HK1 := Aside0.mk (show KeepAt w2 gk CellV.nought 0 from blk_below HK0.out.blk hb); have HB1 := Aside0.mk (HB.out.trans (hb.mono HB.out.size)); clear h1 hb HK0 HB) | (go_at_call 13; (with_reducible refine (keeper_Put.calls gk CellV.nought c1V 0 _ nought_ok c1_ok HK1.out (by decide)).mono ?_); rintro e w3 ⟨_, h1⟩; obtain ⟨rfl, hk, hg⟩ := h1 (by decide); have HK2 := Aside0.mk (show KeepAt w3 gk c1V 1 from hk); have HB := Aside0.mk (show Below w.heap.size w w3 from grown_below HB1.out hg HB1.out.size HG.out); clear h1 hk hg HK1 HB1) | (go_at_call 8; (with_reducible refine (cell_Put.calls c9V c9_ok _).mono ?_); rintro e w4 ⟨v4, rfl, ho, hb⟩; obtain ⟨A4, cc4, rfl, hl4, hc4⟩ := Kd.R_reads ho; have HR := Aside0.mk hc4; have HLC := Aside0.mk hl4; have n0_ := Aside0.mk (show KeepAt w4 gk c1V 1 from blk_below HK2.out.blk hb); have n1_ := Aside0.mk (show Below w.heap.size w w4 from HB.out.trans (hb.mono HB.out.size)); clear ho hb hl4 hc4 HK2 HB; have HK2 := n0_; have HB := n1_; clear n0_ n1_) | (go_at_call 9; (with_reducible refine (cell_Get_of c9_ok _ _ _ (c9V.bytes_length c9_ok) _ HR.out HLC.out).mono ?_); rintro e w5 ⟨rfl, hb⟩; have n0_ := Aside0.mk (show KeepAt w5 gk c1V 1 from blk_below HK2.out.blk hb); have n1_ := Aside0.mk (show Below w.heap.size w w5 from HB.out.trans (hb.mono HB.out.size)); clear hb HK2 HB HR HLC; have HK2 := n0_; have HB := n1_; clear n0_ n1_) | ((with_reducible refine gate_op (N := .alloc 26) rfl ?_); refine wl_alloc rfl 26 rfl _ zero_cell ?_; intro g4 hg w6 hblk hb hsz; have HG4 := Aside0.mk (show w.heap.size ≤ g4 by rw [hg]; exact HB.out.size); have HK4 := Aside0.mk hblk; have n0_ := Aside0.mk (show KeepAt w6 gk c1V 1 from blk_below HK2.out.blk hb); have n1_ := Aside0.mk (show Below w.heap.size w w6 from HB.out.trans (hb.mono HB.out.size)); have HNE := Aside0.mk (show gk ≠ g4 by have := blk_lt HK2.out.blk; omega); clear hg hblk hb hsz HK2 HB; have HK2 := n0_; have HB := n1_; clear n0_ n1_) | ((with_reducible refine gate_store (t := 26) (p := 4) rfl ?_); go_loud (refine wl_store_all rfl rfl 26 _ _ rfl g4 rfl _ _ HK4.out (.agg c9V.cells) rfl rfl CellV.one ?side1 ?_; (case side1 => show _ = some c9V.cells.size; rw [c9V.size c9_ok]; exact info_cell); intro w7 hk7 hg7 hs7; have HK7 := Aside0.mk (show CellAt w7 g4 c9V from hk7); have n0_ := Aside0.mk (show KeepAt w7 gk c1V 1 from grown_blk hg7 HK2.out.blk (fun e => HNE.out (by injection e))); have n1_ := Aside0.mk (show Below w.heap.size w w7 from grown_below HB.out hg7 HB.out.size HG4.out); clear hk7 hg7 hs7 HK2 HB HK4; have HK2 := n0_; have HB := n1_; clear n0_ n1_)) | (go_at_call 14; (with_reducible refine (keeper_Get.calls gk c1V 1 _ c1_ok HK2.out).mono ?_); rintro e w8 ⟨rfl, hb⟩; have n0_ := Aside0.mk (show KeepAt w8 gk c1V 1 from blk_below HK2.out.blk hb); have n1_ := Aside0.mk (show Below w.heap.size w w8 from HB.out.trans (hb.mono HB.out.size)); have n2_ := Aside0.mk (show CellAt w8 g4 c9V from blk_below HK7.out.blk hb); clear hb HK2 HB HK7; have HK2 := n0_; have HB := n1_; have HK7 := n2_; clear n0_ n1_ n2_; have hc9 := (HK7.out.nums c9_ok).2.2.2) | (go_at_call 15; (with_reducible refine (keeper_Times.calls gk c1V 1 _ c1_ok HK2.out).mono ?_); rintro e w9 ⟨rfl, rfl⟩))
  go_ret
  exact ⟨rfl, HB.out⟩
end Go.Proofs.Ytklhpnalchgkaaa.Q
