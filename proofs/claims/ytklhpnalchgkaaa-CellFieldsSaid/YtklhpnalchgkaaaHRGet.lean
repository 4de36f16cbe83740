/- What the document's Get of a cell does. -/
import Derived.Test.YtklhpnalchgkaaaHGet
namespace Go.Proofs.Ytklhpnalchgkaaa.Q
open Go.RowKit Go.Proofs.YtklhpnalchgkaaaW.PrintWords Go.Proofs.YtklhpnalchgkaaaW.PrintLast Go.Proofs.YtklhpnalchgkaaaW.PrintMore Go.Proofs.Ytklhpnalchgkaaa.Pure
attribute [local go_sem] max2_int min2_int max_two min_two max_three min_three max_four min_four
set_option linter.unusedVariables false
set_option linter.unusedSimpArgs false
theorem info_u8 : (Try.prog.info? 5).map (·.size) = some 1 := by kernel_rfl
theorem set_fill2 (l : List Int) (j m : Nat) (h : j < l.length) (hm : j < m) : (l.take j ++ List.replicate (m - j) 0).set j (l.getD j 0) = l.take (j + 1) ++ List.replicate (m - (j + 1)) 0 := by
  have h1 : (l.take j).length = j := by rw [List.length_take]; omega
  rw [List.getD_eq_getElem?_getD, List.getElem?_eq_getElem h, Option.getD_some]
  rw [List.set_append, if_neg (by omega), h1, Nat.sub_self, show m - j = (m - (j + 1)) + 1 by omega, List.replicate_succ, List.set_cons_zero, List.take_succ_eq_append_getElem h, List.append_assoc]
  rfl
theorem CellV.set_root {x : CellV} (h : x.root.length = 32) (i : Nat) (hi : i < 32) (v : Int) : x.cells.setIfInBounds i (.int .u8 v) = ({ x with root := x.root.set i v } : CellV).cells := by
  have hl : (encs (Value.int .u8) x.root).length = 32 := by rw [encs_length, h]
  apply Array.toList_inj.1
  rw [Array.toList_setIfInBounds]
  simp only [CellV.cells, CellV.cellL]
  rw [List.set_append_left _ _ (by omega)]
  simp only [encs, List.map_set]
theorem CellV.set_tag {x : CellV} (h : x.root.length = 32) (i : Nat) (v : Int) : x.cells.setIfInBounds (36 + i) (.int .u8 v) = ({ x with tag := x.tag.set i v } : CellV).cells := by
  have hl : (encs (Value.int .u8) x.root).length = 32 := by rw [encs_length, h]
  apply Array.toList_inj.1
  rw [Array.toList_setIfInBounds]
  simp only [CellV.cells, CellV.cellL]
  rw [List.set_append_right _ _ (by omega), hl, List.set_append_right _ _ (by simp; omega), show 36 + i - 32 - [Value.int IntKind.u64 x.ver, Value.int .u64 x.cnt, Value.int .u64 x.start, Value.int .u64 x.count].length = i by simp; omega]
  simp only [encs, List.map_set]
/-- The cell while its two digests come in. -/
def CellV.rfill (l : List Int) (a b : Nat) : CellV := ⟨l.take a ++ List.replicate (32 - a) 0, 0, 0, 0, 0, (l.drop 64).take b ++ List.replicate (32 - b) 0⟩
theorem rfill_root (l : List Int) (h : l.length = 96) (a b : Nat) (ha : a ≤ 32) (hb : b ≤ 32) : (CellV.rfill l a b).root.length = 32 ∧ (CellV.rfill l a b).tag.length = 32 := by
  simp only [CellV.rfill, List.length_append, List.length_take, List.length_drop, List.length_replicate]
  omega
theorem rfill_size (l : List Int) (h : l.length = 96) (a b : Nat) (ha : a ≤ 32) (hb : b ≤ 32) : (CellV.rfill l a b).cells.size = 68 := by
  obtain ⟨h1, h2⟩ := rfill_root l h a b ha hb
  simp [CellV.cells, CellV.cellL, encs_length, h1, h2]
theorem rfill_end (l : List Int) (h : l.length = 96) : CellV.rfill l 32 32 = CellV.start0 l := by
  have h1 : (l.drop 64).take 32 = l.drop 64 := List.take_of_length_le (by rw [List.length_drop]; omega)
  unfold CellV.rfill CellV.start0
  simp only [Nat.sub_self, List.replicate_zero, List.append_nil, h1]
theorem rfill_zero (l : List Int) : CellV.rfill l 0 0 = CellV.nought := by simp [CellV.rfill, CellV.nought]
theorem rfill_put_root (l : List Int) (h : l.length = 96) (a b : Nat) (ha : a < 32) (hb : b ≤ 32) : (CellV.rfill l a b).cells.setIfInBounds a (.int .u8 (l.getD a 0)) = (CellV.rfill l (a + 1) b).cells := by
  rw [CellV.set_root (rfill_root l h a b (by omega) hb).1 a ha]
  have := set_fill2 l a 32 (by omega) ha
  simp only [CellV.rfill, this]
theorem rfill_put_tag (l : List Int) (h : l.length = 96) (a b : Nat) (ha : a ≤ 32) (hb : b < 32) : (CellV.rfill l a b).cells.setIfInBounds (36 + b) (.int .u8 (l.getD (64 + b) 0)) = (CellV.rfill l a (b + 1)).cells := by
  rw [CellV.set_tag (rfill_root l h a b ha (by omega)).1 b]
  have h1 := set_fill2 (l.drop 64) b 32 (by rw [List.length_drop]; omega) hb
  have h2 : (l.drop 64).getD b 0 = l.getD (64 + b) 0 := by simp [List.getD_eq_getElem?_getD, List.getElem?_drop]
  rw [h2] at h1
  simp only [CellV.rfill, h1]
set_option maxHeartbeats 1000000 in
set_option maxRecDepth 100000 in
theorem ref_Get_no (A0 : Option Addr) (n c0 : Nat) (hn : n ≠ 96) (w : World) :
    Calls Try.prog 10 #[.slice A0 n c0] w fun e w' => e = .returned (.tuple #[.agg CellV.nought.cells, .int .i64 11]) ∧ Below w.heap.size w w' := by
  have h1 : ((n : Int) == 96) = false := by simpa using (show ¬ (n : Int) = 96 by omega)
  have h2 : ((n : Int) != 96) = true := by simpa using (show ¬ (n : Int) = 96 by omega)
  clear hn
  go_enter Try.func10, Try.ntmps10
  go_wp2_with (first | ((with_reducible refine gate_dst (N := 2) rfl ?_); (with_reducible refine gate_op (N := .alloc 26) rfl ?_); refine wl_alloc rfl 26 rfl _ zero_cell ?_; intro g hg w1 hblk hb hsz; have HG := Aside0.mk hg; have HK := Aside0.mk hblk; have HB := Aside0.mk hb; clear hg hblk hb hsz) | ((with_reducible refine gate_dst (N := 4) rfl ?_); (with_reducible refine gate_op (N := .alloc 26) rfl ?_); refine wl_alloc rfl 26 rfl _ zero_cell ?_; intro g4 hg w2 hblk hb hsz; have HG4 := Aside0.mk hg; have HK4 := Aside0.mk hblk; have HKg := Aside0.mk (blk_below HK.out hb); have HB2 := Aside0.mk (HB.out.trans (hb.mono HB.out.size)); clear hg hblk hb hsz) | ((with_reducible refine gate_op (N := .load 26 (.tmp 4)) rfl ?_); refine wl_load_blk rfl _ _ rfl g4 rfl CellV.nought.cells 26 _ HK4.out Try.underlying26 rfl info_nought ?_) | ((with_reducible refine gate_store (t := 26) rfl ?_); refine wl_store_all rfl rfl 26 _ _ rfl g rfl _ _ HKg.out (.agg CellV.nought.cells) rfl rfl CellV.one info_nought ?_; intro w3 hblk hg2 hsz2; have HK3 := Aside0.mk hblk; have HB3 := Aside0.mk (grown_below HB2.out hg2 HB2.out.size (by rw [HG.out]; exact Nat.le_refl _)); clear hblk hg2 hsz2))
  exact bodyPost_ret (results_cell2 rfl _ _ g 26 _ _ rfl HK3.out Try.underlying26 rfl info_nought) rfl ⟨rfl, HB3.out⟩
set_option maxHeartbeats 1000000 in
set_option maxRecDepth 100000 in
theorem ref_Get_yes (A0 : Option Addr) (c0 : Nat) (l : List Int) (w : World) (hr : Kd.C (Kd.int .u8) w A0 96 l) (hl : l.length = 96) (hc0 : 96 ≤ c0) (hu : u8s l) :
    Calls Try.prog 10 #[.slice A0 96 c0] w fun e w' => e = .returned (.tuple #[.agg (formC l).1.cells, .int .i64 0]) ∧ Below w.heap.size w w' := by
  obtain ⟨ad, rfl, hcell⟩ := (Kd.reads_of_C (enc := Value.int .u8) (d := (0 : Int)) (h1 := fun _ => rfl) hr).2.2 (by decide)
  have HR := Aside0.mk hr
  have HCE := Aside0.mk hcell
  have HL := Aside0.mk hl
  have HC0 := Aside0.mk hc0
  have HU := Aside0.mk hu
  clear hr hcell hl hu
  go_enter Try.func10, Try.ntmps10
  go_wp2_with (first | ((with_reducible refine gate_dst (N := 2) rfl ?_); (with_reducible refine gate_op (N := .alloc 26) rfl ?_); refine wl_alloc rfl 26 rfl _ zero_cell ?_; intro g hg w1 hblk hb hsz; have HG := Aside0.mk hg; have HK := Aside0.mk hblk; have HB1 := Aside0.mk hb; clear hg hblk hb hsz) | ((with_reducible refine gate_dst (N := 4) rfl ?_); (with_reducible refine gate_op (N := .alloc 26) rfl ?_); refine wl_alloc rfl 26 rfl _ zero_cell ?_; intro g4 hg w2 hblk hb hsz; have HNE := Aside0.mk (show g4 ≠ g by have := blk_lt HK.out; omega); have HK4 := Aside0.mk (show CellAt w2 g4 (CellV.rfill l 0 0) from by rw [rfill_zero]; exact hblk); have HKg := Aside0.mk (show w2.heap[g]? = some (.cells CellV.nought.cells 26 (0, 0)) from blk_below HK.out hb); have HB := Aside0.mk (HB1.out.trans (hb.mono HB1.out.size)); have HG4 := Aside0.mk (show w.heap.size ≤ g4 by rw [hg]; exact HB1.out.size); clear hg hblk hb hsz HK HB1))
  go_loopg [5] 32 (fun gk v5 w' => ∃ i : Nat, v5 = .int .i64 i ∧ Aside0 (gk + i = 32) ∧ Aside0 (CellAt w' g4 (CellV.rfill l i i)) ∧ Aside0 (w'.heap[g]? = some (.cells CellV.nought.cells 26 (0, 0))) ∧ Aside0 (Below w.heap.size w w'))
  case atStart => exact ⟨0, rfl, ⟨rfl⟩, HK4, HKg, HB⟩
  case round =>
    clear HK4 HKg HB
    obtain ⟨i, rfl, HI, HK4, HKg, HB⟩ := hrel
    by_cases hi : i < 32
    · have hc1 := (pw_cell_below · (HCE.out i (by omega))) HB.out
      have hc2 := (pw_cell_below · (HCE.out (64 + i) (by omega))) HB.out
      have hil : (i : Int) < 32 := by omega
      have HIL := Aside0.mk hi
      go_wp2_with (first | ((with_reducible refine gate_store (t := 5) (p := 20) rfl ?_); go_loud (refine wl_store_cell rfl rfl 5 _ _ rfl g4 i rfl _ 26 HK4.out.blk (.int .u8 (l.getD i 0)) rfl rfl ?side1 rfl info_u8 ?_; (case side1 => rw [rfill_size l HL.out i i (by have := HIL.out; omega) (by have := HIL.out; omega)]; have := HIL.out; omega); intro w5 hk5 hg5 hs5; rw [rfill_put_root l HL.out i i HIL.out (by have := HIL.out; omega)] at hk5; have n0_ := Aside0.mk (show CellAt w5 g4 (CellV.rfill l (i + 1) i) from hk5); have n1_ := Aside0.mk (grown_blk hg5 HKg.out (fun e => HNE.out (by injection e with e; exact e.symm))); have n2_ := Aside0.mk (show Below w.heap.size w w5 from grown_below HB.out hg5 HB.out.size HG4.out); clear hk5 hg5 hs5 HK4 HKg HB hc1 hc2; have HK4 := n0_; have HKg := n1_; have HB := n2_; clear n0_ n1_ n2_; have hc2 := (pw_cell_below · (HCE.out (64 + i) (by have := HIL.out; omega))) HB.out)) | ((with_reducible refine gate_store (t := 5) (p := 28) rfl ?_); go_loud (refine wl_store_cell rfl rfl 5 _ _ rfl g4 (36 + i) rfl _ 26 HK4.out.blk (.int .u8 (l.getD (64 + i) 0)) rfl rfl ?side1 rfl info_u8 ?_; (case side1 => rw [rfill_size l HL.out (i + 1) i (by have := HIL.out; omega) (by have := HIL.out; omega)]; have := HIL.out; omega); intro w5 hk5 hg5 hs5; rw [rfill_put_tag l HL.out (i + 1) i HIL.out HIL.out] at hk5; have n0_ := Aside0.mk (show CellAt w5 g4 (CellV.rfill l (i + 1) (i + 1)) from hk5); have n1_ := Aside0.mk (grown_blk hg5 HKg.out (fun e => HNE.out (by injection e with e; exact e.symm))); have n2_ := Aside0.mk (show Below w.heap.size w w5 from grown_below HB.out hg5 HB.out.size HG4.out); clear hk5 hg5 hs5 HK4 HKg HB hc2; have HK4 := n0_; have HKg := n1_; have HB := n2_; clear n0_ n1_ n2_)))
      go_roundg (gk - 1)
      case measure => have := HI.out; have := HIL.out; omega
      case rel => exact ⟨i + 1, by go_num, ⟨by have := HI.out; have := HIL.out; omega⟩, HK4, HKg, HB⟩
    · have h32 : i = 32 := by have := HI.out; omega
      subst h32
      have hget : ∀ (j : Nat) (p : Int), j < 4 → p = 32 + 8 * (j : Int) → ∀ W : World, Kd.C (Kd.int .u8) W (some ad) 96 l → Calls Try.prog 19 #[.slice (some ad) 96 c0, .int .i64 p, .int .i64 8] W (fun e w' => e = .returned (.tuple #[.int .u64 (numAt l j), .int .i64 0]) ∧ Drawn0 W w') := by
        intro j p hj hp W hW
        subst hp
        have h1 := refget_eq 20 (Nat.le_refl _) l (32 + 8 * (j : Int)) 8 HU.out (by rw [HL.out]; decide) (by omega)
        have h2 : getV l (32 + 8 * (j : Int)) 8 = (numAt l j, 0) := by
          unfold getV
          rw [if_pos (insideV_of (by omega) (by omega) (by omega) (by rw [HL.out]; omega))]
          rfl
        rw [h2] at h1
        have h3 := reliquaryref01_Get.calls 20 (some ad) c0 l (32 + 8 * (j : Int)) 8 _ _ W (by rw [HL.out]; exact hW) (by rw [HL.out]; exact HC0.out) h1
        rw [HL.out] at h3
        exact h3
      have HG0 := Aside0.mk (hget 0 32 (by decide) rfl)
      have HG1 := Aside0.mk (hget 1 40 (by decide) rfl)
      have HG2 := Aside0.mk (hget 2 48 (by decide) rfl)
      have HG3 := Aside0.mk (hget 3 56 (by decide) rfl)
      have HSZ := Aside0.mk (fillTo_size l HL.out 4)
      rw [rfill_end l HL.out] at HK4
      have n0_ := Aside0.mk (show CellAt wr g4 (CellV.fillTo l 0) from HK4.out)
      clear hi hget HK4
      have HK4 := n0_
      clear n0_
      go_wp2_with (first | (go_at_call 19; first | (with_reducible refine (HG0.out _ (Kd.C_below HR.out HB.out)).mono ?_) | (with_reducible refine (HG1.out _ (Kd.C_below HR.out HB.out)).mono ?_) | (with_reducible refine (HG2.out _ (Kd.C_below HR.out HB.out)).mono ?_) | (with_reducible refine (HG3.out _ (Kd.C_below HR.out HB.out)).mono ?_)) | (rintro e w4 ⟨rfl, ⟨nd, rfl⟩⟩; have n2_ := Aside0.mk (show Below w.heap.size w _ from pw_below_drewN HB.out nd); have n0_ := Aside0.mk (show CellAt (World.drewN _ nd) g4 _ from HK4.out); have n1_ := Aside0.mk (show (World.drewN _ nd).heap[g]? = some (.cells CellV.nought.cells 26 (0, 0)) from HKg.out); clear HK4 HKg HB; have HK4 := n0_; have HKg := n1_; have HB := n2_; clear n0_ n1_ n2_) | ((with_reducible refine gate_store (t := 24) (p := 34) rfl ?_); go_loud (refine wl_store_cell rfl rfl 24 _ _ rfl g4 32 rfl _ 26 HK4.out.blk (.int .u64 (numAt l 0)) rfl rfl ?side1 rfl info_u64 ?_; (case side1 => rw [fillTo_size l HL.out]; omega); intro w5 hk5 hg5 hs5; have n0_ := Aside0.mk (show CellAt w5 g4 (CellV.fillTo l 1) from by rw [CellV.fillTo, CellAt, CellV.put_cells (by rw [(fillTo_root l _).1, List.length_take, HL.out]; rfl) 0 (by decide)]; exact hk5); have n1_ := Aside0.mk (grown_blk hg5 HKg.out (fun e => HNE.out (by injection e with e; exact e.symm))); have n2_ := Aside0.mk (show Below w.heap.size w w5 from grown_below HB.out hg5 HB.out.size HG4.out); clear hk5 hg5 hs5 HK4 HKg HB; have HK4 := n0_; have HKg := n1_; have HB := n2_; clear n0_ n1_ n2_)) | ((with_reducible refine gate_store (t := 24) (p := 40) rfl ?_); go_loud (refine wl_store_cell rfl rfl 24 _ _ rfl g4 33 rfl _ 26 HK4.out.blk (.int .u64 (numAt l 1)) rfl rfl ?side1 rfl info_u64 ?_; (case side1 => rw [fillTo_size l HL.out]; omega); intro w5 hk5 hg5 hs5; have n0_ := Aside0.mk (show CellAt w5 g4 (CellV.fillTo l 2) from by rw [CellV.fillTo, CellAt, CellV.put_cells (by rw [(fillTo_root l _).1, List.length_take, HL.out]; rfl) 1 (by decide)]; exact hk5); have n1_ := Aside0.mk (grown_blk hg5 HKg.out (fun e => HNE.out (by injection e with e; exact e.symm))); have n2_ := Aside0.mk (show Below w.heap.size w w5 from grown_below HB.out hg5 HB.out.size HG4.out); clear hk5 hg5 hs5 HK4 HKg HB; have HK4 := n0_; have HKg := n1_; have HB := n2_; clear n0_ n1_ n2_)) | ((with_reducible refine gate_store (t := 24) (p := 46) rfl ?_); go_loud (refine wl_store_cell rfl rfl 24 _ _ rfl g4 34 rfl _ 26 HK4.out.blk (.int .u64 (numAt l 2)) rfl rfl ?side1 rfl info_u64 ?_; (case side1 => rw [fillTo_size l HL.out]; omega); intro w5 hk5 hg5 hs5; have n0_ := Aside0.mk (show CellAt w5 g4 (CellV.fillTo l 3) from by rw [CellV.fillTo, CellAt, CellV.put_cells (by rw [(fillTo_root l _).1, List.length_take, HL.out]; rfl) 2 (by decide)]; exact hk5); have n1_ := Aside0.mk (grown_blk hg5 HKg.out (fun e => HNE.out (by injection e with e; exact e.symm))); have n2_ := Aside0.mk (show Below w.heap.size w w5 from grown_below HB.out hg5 HB.out.size HG4.out); clear hk5 hg5 hs5 HK4 HKg HB; have HK4 := n0_; have HKg := n1_; have HB := n2_; clear n0_ n1_ n2_)) | ((with_reducible refine gate_store (t := 24) (p := 52) rfl ?_); go_loud (refine wl_store_cell rfl rfl 24 _ _ rfl g4 35 rfl _ 26 HK4.out.blk (.int .u64 (numAt l 3)) rfl rfl ?side1 rfl info_u64 ?_; (case side1 => rw [fillTo_size l HL.out]; omega); intro w5 hk5 hg5 hs5; have n0_ := Aside0.mk (show CellAt w5 g4 (CellV.fillTo l 4) from by rw [CellV.fillTo, CellAt, CellV.put_cells (by rw [(fillTo_root l _).1, List.length_take, HL.out]; rfl) 3 (by decide)]; exact hk5); have n1_ := Aside0.mk (grown_blk hg5 HKg.out (fun e => HNE.out (by injection e with e; exact e.symm))); have n2_ := Aside0.mk (show Below w.heap.size w w5 from grown_below HB.out hg5 HB.out.size HG4.out); clear hk5 hg5 hs5 HK4 HKg HB; have HK4 := n0_; have HKg := n1_; have HB := n2_; clear n0_ n1_ n2_)) | ((with_reducible refine gate_op (N := .load 26 (.tmp 4)) rfl ?_); refine wl_load_blk rfl _ _ rfl g4 rfl (CellV.fillTo l 4).cells 26 _ HK4.out.blk Try.underlying26 rfl ?side1 ?_; (case side1 => rw [HSZ.out]; exact info_cell)) | ((with_reducible refine gate_store (t := 26) (p := 2) rfl ?_); refine wl_store_all rfl rfl 26 _ _ rfl g rfl CellV.nought.cells 26 HKg.out (.agg (CellV.fillTo l 4).cells) rfl ?side2 CellV.one ?side3 ?_; (case side2 => show (CellV.fillTo l 4).cells.size = _; rw [HSZ.out]; rfl); (case side3 => show _ = some (CellV.fillTo l 4).cells.size; rw [HSZ.out]; exact info_cell); intro w5 hk5 hg5 hs5; have HK5 := Aside0.mk hk5; have HB5 := Aside0.mk (show Below w.heap.size w w5 from grown_below HB.out hg5 HB.out.size (by rw [HG.out]; exact Nat.le_refl _)); clear hk5 hg5 hs5))
      rw [← fillTo_four l HL.out]
      exact bodyPost_ret (results_cell2 rfl _ _ g 26 (CellV.fillTo l 4).cells _ rfl HK5.out Try.underlying26 rfl (by rw [HSZ.out]; exact info_cell)) rfl ⟨rfl, HB5.out⟩
end Go.Proofs.Ytklhpnalchgkaaa.Q
