/- What cell.Get does. -/
import Derived.Test.YtklhpnalchgkaaaHCell
import Derived.Test.YtklhpnalchgkaaaHBlk
namespace Go.Proofs.Ytklhpnalchgkaaa.Q
open Go.RowKit Go.Proofs.YtklhpnalchgkaaaW.PrintWords Go.Proofs.YtklhpnalchgkaaaW.PrintLast Go.Proofs.YtklhpnalchgkaaaW.PrintMore Go.Proofs.Ytklhpnalchgkaaa.Pure
attribute [local go_sem] max2_int min2_int max_two min_two max_three min_three max_four min_four
set_option linter.unusedVariables false
set_option linter.unusedSimpArgs false

theorem info_cell : (Try.prog.info? 26).map (·.size) = some 68 := by kernel_rfl
theorem zero_cell : (Try.prog.info? 26).map (·.zero) = some (some (.agg CellV.nought.cells)) := by kernel_rfl
theorem info_u64 : (Try.prog.info? 24).map (·.size) = some 1 := by kernel_rfl
theorem info_sum : (Try.prog.info? 23).map (·.size) = some 32 := by kernel_rfl
theorem nought_ok : CellV.nought.Ok := ⟨by decide, by decide, by decide, by decide, by decide, by decide, by decide, by decide⟩
theorem CellV.one {x : CellV} : ∀ u ∈ x.cells.toList, u.oneCell' = true := by
  intro u hu
  simp only [CellV.cells, CellV.cellL, List.mem_append, encs, List.mem_map, List.mem_cons, List.not_mem_nil, or_false] at hu
  rcases hu with ⟨_, _, rfl⟩ | (rfl | rfl | rfl | rfl) | ⟨_, _, rfl⟩ <;> rfl
theorem info_nought : (Try.prog.info? 26).map (·.size) = some CellV.nought.cells.size := by kernel_rfl
theorem build_nought : ∀ W : World, (Instr.build 26 #[]).run Try.prog W = .ok (.agg CellV.nought.cells) W := fun W => by kernel_rfl
/-- The cell that bytes are, as its four numbers come in. -/
def CellV.start0 (l : List Int) : CellV := ⟨l.take 32, 0, 0, 0, 0, l.drop 64⟩
def CellV.put (x : CellV) (i : Nat) (v : Int) : CellV := match i with
  | 0 => { x with ver := v }
  | 1 => { x with cnt := v }
  | 2 => { x with start := v }
  | _ => { x with count := v }
def numAt (l : List Int) (i : Nat) : Int := leval (cutV l (32 + 8 * i) 8)
def CellV.fillTo (l : List Int) : Nat → CellV
  | 0 => CellV.start0 l
  | i + 1 => (CellV.fillTo l i).put i (numAt l i)
def formC (l : List Int) : CellV × Int := if l.length = 96 then (⟨l.take 32, numAt l 0, numAt l 1, numAt l 2, numAt l 3, l.drop 64⟩, 0) else (CellV.nought, 11)
theorem fillTo_four (l : List Int) (h : l.length = 96) : CellV.fillTo l 4 = (formC l).1 := by
  unfold formC
  rw [if_pos h]
  rfl
theorem CellV.put_cells {x : CellV} (h : x.root.length = 32) (i : Nat) (hi : i < 4) (v : Int) : (x.put i v).cells = x.cells.setIfInBounds (32 + i) (.int .u64 v) := by
  have hl : (encs (Value.int .u8) x.root).length = 32 := by rw [encs_length, h]
  apply Array.toList_inj.1
  rw [Array.toList_setIfInBounds]
  match i, hi with
  | 0, _ => simp only [CellV.put, CellV.cells, CellV.cellL]; rw [List.set_append_right _ _ (by omega), hl]; rfl
  | 1, _ => simp only [CellV.put, CellV.cells, CellV.cellL]; rw [List.set_append_right _ _ (by omega), hl]; rfl
  | 2, _ => simp only [CellV.put, CellV.cells, CellV.cellL]; rw [List.set_append_right _ _ (by omega), hl]; rfl
  | 3, _ => simp only [CellV.put, CellV.cells, CellV.cellL]; rw [List.set_append_right _ _ (by omega), hl]; rfl
theorem put_root (x : CellV) (i : Nat) (v : Int) : (x.put i v).root = x.root ∧ (x.put i v).tag = x.tag := by
  unfold CellV.put; split <;> exact ⟨rfl, rfl⟩
theorem fillTo_root (l : List Int) : ∀ i, (CellV.fillTo l i).root = l.take 32 ∧ (CellV.fillTo l i).tag = l.drop 64
  | 0 => ⟨rfl, rfl⟩
  | i + 1 => by rw [CellV.fillTo, (put_root _ _ _).1, (put_root _ _ _).2]; exact fillTo_root l i
theorem fillTo_size (l : List Int) (h : l.length = 96) (i : Nat) : (CellV.fillTo l i).cells.size = 68 := by
  simp [CellV.cells, CellV.cellL, encs_length, fillTo_root, h]
/-- 'api.Cell{Root: .., Tag: ..}'. -/
theorem build_start (l : List Int) (h : l.length = 96) : ∀ W : World, (Instr.build 26 #[(0, .agg (encs (Value.int .u8) (l.take 32)).toArray), (5, .agg (encs (Value.int .u8) (l.drop 64)).toArray)]).run Try.prog W = .ok (.agg (CellV.start0 l).cells) W := by
  intro W
  have hz : (zeroValue 26).run Try.prog W = .ok (.agg CellV.nought.cells) W := by kernel_rfl
  have hA : (encs (Value.int .u8) (l.take 32)).length = 32 := by rw [encs_length, List.length_take]; omega
  have hB : (encs (Value.int .u8) (l.drop 64)).length = 32 := by rw [encs_length, List.length_drop]; omega
  have hf : Instr.fill (#[(0, 32), (32, 1), (33, 1), (34, 1), (35, 1), (36, 32)][·]?) CellV.nought.cells [(0, .agg (encs (Value.int .u8) (l.take 32)).toArray), (5, .agg (encs (Value.int .u8) (l.drop 64)).toArray)] = some (CellV.start0 l).cells := by
    rw [fill_cons _ _ 0 0 32 _ _ rfl (by simpa [Value.cells] using hA) (by decide), fill_cons _ _ 5 36 32 _ _ rfl (by simpa [Value.cells] using hB) (by simp [Value.cells, hA]; decide)]
    rw [Instr.fill]
    congr 1
    apply Array.toList_inj.1
    have hz2 : CellV.nought.cells.toList.drop 32 = [Value.int .u64 0, Value.int .u64 0, Value.int .u64 0, Value.int .u64 0] ++ List.replicate 32 (Value.int .u8 0) := by rfl
    have key : ∀ A B N R : List Value, A.length = 32 → N.length = 4 → R.length = 32 → (A ++ (N ++ R)).take 36 ++ B ++ (A ++ (N ++ R)).drop (36 + 32) = A ++ (N ++ B) := by
      intro A B N R h1 h2 h3
      rw [List.take_append, List.take_of_length_le (by omega), List.drop_of_length_le (by simp only [List.length_append]; omega), h1, List.take_append, List.take_of_length_le (by omega), h2]
      simp
    have := key (encs (Value.int .u8) (l.take 32)) (encs (Value.int .u8) (l.drop 64)) [Value.int .u64 0, Value.int .u64 0, Value.int .u64 0, Value.int .u64 0] (List.replicate 32 (Value.int .u8 0)) hA rfl (by simp)
    simp only [Value.cells, List.take_zero, List.nil_append, Nat.zero_add, hz2]
    rw [this]
    rfl
  simp [Instr.build, Sem.run_bind, hz, run_underlying Try.underlying26, Value.cells]
  simp only [List.getElem?_toArray] at hf
  rw [hf]
  rfl
set_option maxHeartbeats 1000000 in
set_option maxRecDepth 100000 in
theorem cell_Get_no (A0 : Option Addr) (n c0 : Nat) (hn : n ≠ 96) (w : World) :
    Calls Try.prog 9 #[.slice A0 n c0] w fun e w' => e = .returned (.tuple #[.agg CellV.nought.cells, .int .i64 11]) ∧ Below w.heap.size w w' := by
  have h1 : ((n : Int) == 96) = false := by simpa using (show ¬ (n : Int) = 96 by omega)
  have h2 : ((n : Int) != 96) = true := by simpa using (show ¬ (n : Int) = 96 by omega)
  clear hn
  go_enter Try.func9, Try.ntmps9
  go_wp2_with (first | ((with_reducible refine gate_op (N := .alloc 26) rfl ?_); refine wl_alloc rfl 26 rfl _ zero_cell ?_; intro g hg w1 hblk hb hsz; have HG := Aside0.mk hg; have HK := Aside0.mk hblk; have HB := Aside0.mk hb; clear hg hblk hb hsz) | ((with_reducible refine gate_op (N := .build 26 #[]) rfl ?_); refine wl_val rfl (.agg CellV.nought.cells) (by unfold execOp; simp [build_nought]) ?_) | ((with_reducible refine gate_store (t := 26) rfl ?_); go_loud (refine wl_store_all rfl rfl 26 _ _ rfl g rfl _ _ HK.out (.agg CellV.nought.cells) rfl rfl CellV.one info_nought ?_; intro w2 hblk hg2 hsz2; have HK2 := Aside0.mk hblk; have HB2 := Aside0.mk (grown_below HB.out hg2 HB.out.size (by rw [HG.out]; exact Nat.le_refl _)); clear hblk hg2 hsz2)))
  exact bodyPost_ret (results_cell2 rfl _ _ g 26 _ _ rfl HK2.out Try.underlying26 rfl info_nought) rfl ⟨rfl, HB2.out⟩
set_option maxHeartbeats 1000000 in
set_option maxRecDepth 100000 in
theorem cell_Get_yes (A0 : Option Addr) (c0 : Nat) (l : List Int) (w : World) (hr : Kd.C (Kd.int .u8) w A0 96 l) (hl : l.length = 96) (hc0 : 96 ≤ c0) (hu : u8s l) :
    Calls Try.prog 9 #[.slice A0 96 c0] w fun e w' => e = .returned (.tuple #[.agg (formC l).1.cells, .int .i64 0]) ∧ Below w.heap.size w w' := by
  obtain ⟨ad, rfl, hcell⟩ := (Kd.reads_of_C (enc := Value.int .u8) (d := (0 : Int)) (h1 := fun _ => rfl) hr).2.2 (by decide)
  have HR := Aside0.mk hr
  have HCE := Aside0.mk hcell
  have HL := Aside0.mk hl
  have HC0 := Aside0.mk hc0
  have HU := Aside0.mk hu
  clear hr hcell hl hu
  go_enter Try.func9, Try.ntmps9
  go_wp2_with (first | ((with_reducible refine gate_op (N := .alloc 26) rfl ?_); refine wl_alloc rfl 26 rfl _ zero_cell ?_; intro g hg w1 hblk hb hsz; have HG := Aside0.mk hg; have HK := Aside0.mk hblk; have HB := Aside0.mk hb; clear hg hblk hb hsz))
  have hw := HB.out
  have h32 : ∀ j v, (encs (Value.int .u8) (l.take 32))[j]? = some v → w1.cell? (ad.add j) = some v := by
    intro j v hv
    have hj : j < 32 := by have := (List.getElem?_eq_some_iff.1 hv).1; rw [encs_length, List.length_take] at this; omega
    have h1 := pw_cell_below HB.out (HCE.out j (by omega))
    rw [encs_get (enc := Value.int .u8) (d := (0 : Int)) _ j (by rw [List.length_take, HL.out]; omega)] at hv
    rw [h1, ← hv]
    simp [List.getD_eq_getElem?_getD, List.getElem?_take_of_lt hj]
  have h64 : ∀ j v, (encs (Value.int .u8) (l.drop 64))[j]? = some v → w1.cell? ((ad.add 64).add j) = some v := by
    intro j v hv
    have hj : j < 32 := by have := (List.getElem?_eq_some_iff.1 hv).1; rw [encs_length, List.length_drop, HL.out] at this; omega
    have h1 := pw_cell_below HB.out (HCE.out (64 + j) (by omega))
    rw [encs_get (enc := Value.int .u8) (d := (0 : Int)) _ j (by rw [List.length_drop, HL.out]; omega)] at hv
    have h2 : (ad.add 64).add j = ad.add (64 + j) := by unfold Addr.add; by_cases h0 : j = 0 <;> simp [h0, Nat.add_assoc]
    rw [h2, h1, ← hv]
    simp [List.getD_eq_getElem?_getD, List.getElem?_drop]
  have H32 := Aside0.mk h32
  have H64 := Aside0.mk h64
  have hi32 : (Try.prog.info? 23).map (·.size) = some (encs (Value.int .u8) (l.take 32)).length := by rw [info_sum, encs_length, List.length_take, HL.out]; rfl
  have hi64 : (Try.prog.info? 23).map (·.size) = some (encs (Value.int .u8) (l.drop 64)).length := by rw [info_sum, encs_length, List.length_drop, HL.out]
  have HI32 := Aside0.mk hi32
  have HI64 := Aside0.mk hi64
  have HBS := Aside0.mk (build_start l HL.out)
  clear h32 h64 hi32 hi64 hw
  refine mono_sink (T := _) (B := [0, 1, 3, 7, 0, 16, 48, 112, 255, 0, 1023]) (n := 11) (s := 10) [(0, 11, VP.is (Value.slice (some ad) 96 c0)), (1, 12, VP.is (Value.slice (some ad) 32 c0)), (2, 13, VP.is (Value.pointer (some ad))), (3, 14, VP.is (Value.agg (encs (Value.int .u8) (l.take 32)).toArray)), (4, 15, VP.is (Value.slice (some ad) 96 c0)), (5, 16, VP.is (Value.slice (some (ad.add 64)) 32 (c0 - 64))), (6, 17, VP.is (Value.pointer (some (ad.add 64)))), (7, 18, VP.is (Value.agg (encs (Value.int .u8) (l.drop 64)).toArray)), (8, 19, VP.is (Value.agg (CellV.start0 l).cells)), (9, 4, VP.blk w1.heap.size CellV.nought.cells 26)] rfl (by kernel_rfl) (by kernel_rfl) rfl (by kernel_rfl) (by kernel_rfl) (by kernel_rfl) (by kernel_rfl) (by kernel_rfl) ?_ ?_
  · refine ms_cons ?_ <| ms_cons ?_ <| ms_cons ?_ <| ms_cons ?_ <| ms_cons ?_ <| ms_cons ?_ <| ms_cons ?_ <| ms_cons ?_ <| ms_cons ?_ <| ms_cons ?_ <| ms_nil
    · intro a w' H
      have e0 := H.tmp (t := 0) rfl (by kernel_rfl)
      have ev0 := eval_of e0
      refine ms_val rfl rfl rfl (Value.slice (some ad) 96 c0) w' ?_ (Below.refl _ _) rfl
      · go_simp
        try rfl
    · intro a w' H
      obtain ⟨_, e11, rfl⟩ := H.on 0 rfl (by kernel_rfl)
      have ev11 := eval_of e11
      refine ms_val rfl rfl rfl (Value.slice (some ad) 32 c0) w' ?_ (Below.refl _ _) rfl
      go_simp
      intro hq
      exfalso
      omega
    · intro a w' H
      obtain ⟨_, e12, rfl⟩ := H.on 1 rfl (by kernel_rfl)
      have ev12 := eval_of e12
      refine ms_val rfl rfl rfl (Value.pointer (some ad)) w' ?_ (Below.refl _ _) rfl
      · go_simp
        try rfl
    · intro a w' H
      obtain ⟨_, e13, rfl⟩ := H.on 2 rfl (by kernel_rfl)
      have ev13 := eval_of e13
      refine ms_val rfl rfl rfl (Value.agg (encs (Value.int .u8) (l.take 32)).toArray) w' ?_ (Below.refl _ _) rfl
      exact ex_load_agg w' _ _ rfl ad ev13 _ _ (fun j v hv => pw_cell_below H.below (H32.out j v hv)) Try.underlying23 rfl HI32.out
    · intro a w' H
      have e0 := H.tmp (t := 0) rfl (by kernel_rfl)
      have ev0 := eval_of e0
      refine ms_val rfl rfl rfl (Value.slice (some ad) 96 c0) w' ?_ (Below.refl _ _) rfl
      · go_simp
        try rfl
    · intro a w' H
      obtain ⟨_, e15, rfl⟩ := H.on 4 rfl (by kernel_rfl)
      have ev15 := eval_of e15
      refine ms_val rfl rfl rfl (Value.slice (some (ad.add 64)) 32 (c0 - 64)) w' ?_ (Below.refl _ _) rfl
      go_simp
      intro hq
      exfalso
      omega
    · intro a w' H
      obtain ⟨_, e16, rfl⟩ := H.on 5 rfl (by kernel_rfl)
      have ev16 := eval_of e16
      refine ms_val rfl rfl rfl (Value.pointer (some (ad.add 64))) w' ?_ (Below.refl _ _) rfl
      · go_simp
        try rfl
    · intro a w' H
      obtain ⟨_, e17, rfl⟩ := H.on 6 rfl (by kernel_rfl)
      have ev17 := eval_of e17
      refine ms_val rfl rfl rfl (Value.agg (encs (Value.int .u8) (l.drop 64)).toArray) w' ?_ (Below.refl _ _) rfl
      exact ex_load_agg w' _ _ rfl (ad.add 64) ev17 _ _ (fun j v hv => pw_cell_below H.below (H64.out j v hv)) Try.underlying23 rfl HI64.out
    · intro a w' H
      obtain ⟨_, e14, rfl⟩ := H.on 3 rfl (by kernel_rfl)
      have ev14 := eval_of e14
      obtain ⟨_, e18, rfl⟩ := H.on 7 rfl (by kernel_rfl)
      have ev18 := eval_of e18
      refine ms_val rfl rfl rfl (Value.agg (CellV.start0 l).cells) w' ?_ (Below.refl _ _) rfl
      unfold execOp
      simp [ev14, ev18, HBS.out]
    · intro a w' H
      exact ms_val rfl rfl rfl _ _ (ex_alloc w' _ rfl _ zero_cell) (below_alloc (Below.refl _ _) _) ⟨_, rfl, H.below.size, blk_new _ _⟩
  intro w2 hb2
  rintro _ rfl _ rfl _ rfl _ rfl _ rfl _ rfl _ rfl _ rfl _ rfl v4 ⟨g4, rfl, hg4, hk4⟩
  have hs0 : (CellV.start0 l).cells.size = 68 := by simp [CellV.start0, CellV.cells, CellV.cellL, encs_length, HL.out]
  simp only [Act.put, List.setIfInBounds_toArray, List.set_cons_zero, List.set_cons_succ]
  refine ⟨_, rfl, fun K hK => ?_⟩
  refine sink_store_all rfl rfl 26 _ _ rfl g4 rfl _ _ hk4 (.agg (CellV.start0 l).cells) rfl (by rw [Value.cells, hs0]; rfl) CellV.one (by rw [Value.cells, hs0]; exact info_cell) ?_
  intro w3 hk5 hgr hsz
  refine hK _ _ ?_
  have hne : g4 ≠ g := by have := blk_lt HK.out; omega
  have HK4 := Aside0.mk (show CellAt w3 g4 (CellV.fillTo l 0) from hk5)
  have HKg := Aside0.mk (show w3.heap[g]? = some (.cells CellV.nought.cells 26 (0, 0)) from grown_blk hgr (blk_below HK.out hb2) (fun e => hne (by injection e with e; exact e.symm)))
  have HB3 := Aside0.mk (show Below w.heap.size w w3 from grown_below (HB.out.trans (hb2.mono HB.out.size)) hgr (Nat.le_trans HB.out.size hb2.size) (Nat.le_trans HB.out.size hg4))
  have HG4 := Aside0.mk (Nat.le_trans HB.out.size hg4)
  have HNE := Aside0.mk hne
  clear hk4 hk5 hgr hsz hb2 hg4 hne hK hs0
  go_wp2
  have HRL := Aside0.mk (show Kd.C (Kd.int .u8) w3 (some ad) 96 l from Kd.C_below HR.out HB3.out)
  clear H32 H64 HI32 HI64 HBS HCE HK HB
  go_loopg [25] 4 (fun gk v25 w' => ∃ i : Nat, v25 = .int .i64 i ∧ Aside0 (gk + i = 4) ∧ Aside0 (CellAt w' g4 (CellV.fillTo l i)) ∧ Aside0 (w'.heap[g]? = some (.cells CellV.nought.cells 26 (0, 0))) ∧ Aside0 (Below w.heap.size w w') ∧ Aside0 (Kd.C (Kd.int .u8) w' (some ad) 96 l))
  case atStart => exact ⟨0, rfl, ⟨rfl⟩, HK4, HKg, HB3, HRL⟩
  case round =>
    clear HK4 HKg HB3 HRL
    obtain ⟨i, rfl, HI, HK4, HKg, HB, HRL⟩ := hrel
    by_cases hi : i < 4
    · have ix : ∀ W : World, (Instr.index 46 (.agg #[.pointer (some ⟨g4, 32, none⟩), .pointer (some ⟨g4, 33, none⟩), .pointer (some ⟨g4, 34, none⟩), .pointer (some ⟨g4, 35, none⟩)]) (.int .i64 i)).run Try.prog W = .ok (.pointer (some ⟨g4, 32 + i, none⟩)) W := by
        match i, hi with
        | 0, _ => exact fun _ => by kernel_rfl
        | 1, _ => exact fun _ => by kernel_rfl
        | 2, _ => exact fun _ => by kernel_rfl
        | 3, _ => exact fun _ => by kernel_rfl
      have hget : ∀ W : World, Kd.C (Kd.int .u8) W (some ad) 96 l → Calls Try.prog 18 #[.slice (some ad) 96 c0, .int .i64 (32 + 8 * (i : Int)), .int .i64 8] W (fun e w' => e = .returned (.tuple #[.int .u64 (numAt l i), .int .i64 0]) ∧ Drawn0 W w') := by
        intro W hW
        have h1 := word_Get_eq l (32 + 8 * (i : Int)) 8 HU.out (by rw [HL.out]; decide) (by omega)
        have h2 : getV l (32 + 8 * (i : Int)) 8 = (numAt l i, 0) := by
          unfold getV
          rw [if_pos (insideV_of (by omega) (by omega) (by omega) (by rw [HL.out]; omega))]
          rfl
        rw [h2] at h1
        have h3 := word_Get.calls (some ad) c0 l (32 + 8 * (i : Int)) 8 _ _ W (by rw [HL.out]; exact hW) (by rw [HL.out]; exact HC0.out) h1
        rw [HL.out] at h3
        exact h3
      have HGET := Aside0.mk hget
      have hil : (i : Int) < 4 := by omega
      have hib : decide ((i : Int) < 4) = true := decide_eq_true hil
      have HIL := Aside0.mk hi
      clear hi hget
      go_wp2_with (first | (go_at_call 18; (with_reducible refine (HGET.out _ HRL.out).mono ?_); rintro e w4 ⟨rfl, ⟨nd, rfl⟩⟩) | ((with_reducible refine gate_store (t := 24) rfl ?_); go_loud (refine wl_store_cell rfl rfl 24 _ _ rfl g4 (32 + i) rfl (CellV.fillTo l i).cells 26 HK4.out.blk (.int .u64 (numAt l i)) rfl rfl ?side1 rfl info_u64 ?_; (case side1 => rw [fillTo_size l HL.out]; have := HIL.out; omega); intro w5 hk5 hg5 hs5; have HK5 := Aside0.mk hk5; have HG5 := Aside0.mk hg5; clear hk5 hg5 hs5)))
      have HK6 := Aside0.mk (show CellAt w5 g4 (CellV.fillTo l (i + 1)) from by rw [CellV.fillTo, CellAt, CellV.put_cells (by rw [(fillTo_root l i).1, List.length_take, HL.out]; rfl) i HIL.out]; exact HK5.out)
      have HKg2 := Aside0.mk (show w5.heap[g]? = some (.cells CellV.nought.cells 26 (0, 0)) from grown_blk HG5.out HKg.out (fun e => HNE.out (by injection e with e; exact e.symm)))
      have HB2 := Aside0.mk (show Below w.heap.size w w5 from grown_below (pw_below_drewN HB.out _) HG5.out HB.out.size HG4.out)
      have HRL2 := Aside0.mk (show Kd.C (Kd.int .u8) w5 (some ad) 96 l from Kd.C_below HR.out HB2.out)
      clear HK5 HG5
      go_roundg (gk - 1)
      case measure => have := HI.out; have := HIL.out; omega
      case rel => exact ⟨i + 1, by go_num, ⟨by have := HI.out; have := HIL.out; omega⟩, HK6, HKg2, HB2, HRL2⟩
    · have h4 : i = 4 := by have := HI.out; omega
      subst h4
      have hib : decide (((4 : Nat) : Int) < 4) = false := by decide
      have HSZ := Aside0.mk (fillTo_size l HL.out 4)
      clear hi
      go_wp2_with (first | ((with_reducible refine gate_op (N := .load 26 (.tmp 4)) rfl ?_); refine wl_load_blk rfl _ _ rfl g4 rfl (CellV.fillTo l 4).cells 26 _ HK4.out.blk Try.underlying26 rfl ?side1 ?_; (case side1 => rw [HSZ.out]; exact info_cell)) | ((with_reducible refine gate_store (t := 26) rfl ?_); refine wl_store_all rfl rfl 26 _ _ rfl g rfl CellV.nought.cells 26 HKg.out (.agg (CellV.fillTo l 4).cells) rfl ?side2 CellV.one ?side3 ?_; (case side2 => show (CellV.fillTo l 4).cells.size = _; rw [HSZ.out]; rfl); (case side3 => show _ = some (CellV.fillTo l 4).cells.size; rw [HSZ.out]; exact info_cell); intro w5 hk5 hg5 hs5; have HK5 := Aside0.mk hk5; have HB5 := Aside0.mk (show Below w.heap.size w w5 from grown_below HB.out hg5 HB.out.size (by rw [HG.out]; exact Nat.le_refl _)); clear hk5 hg5 hs5))
      rw [← fillTo_four l HL.out]
      exact bodyPost_ret (results_cell2 rfl _ _ g 26 (CellV.fillTo l 4).cells _ rfl HK5.out Try.underlying26 rfl (by rw [HSZ.out]; exact info_cell)) rfl ⟨rfl, HB5.out⟩
end Go.Proofs.Ytklhpnalchgkaaa.Q
