/- The statement CellApart, walked. -/
import Derived.Test.YtklhpnalchgkaaaHAwake
namespace Go.Proofs.Ytklhpnalchgkaaa.Q
open Go.RowKit Go.Proofs.YtklhpnalchgkaaaW.PrintWords Go.Proofs.YtklhpnalchgkaaaW.PrintLast Go.Proofs.YtklhpnalchgkaaaW.PrintMore Go.Proofs.Ytklhpnalchgkaaa.Pure
attribute [local go_sem] max2_int min2_int max_two min_two max_three min_three max_four min_four
set_option linter.unusedVariables false
set_option linter.unusedSimpArgs false
theorem guard_cell (op : BinOp) (x y : Operand) (xs ys : Array Value) (W : World) : (eqGuard op 26 x y (.agg xs) (.agg ys)).run Try.prog W = .ok () W := run_eqGuard_agg W op _ x y xs ys (by kernel_rfl)
theorem guard_sum (op : BinOp) (x y : Operand) (xs ys : Array Value) (W : World) : (eqGuard op 23 x y (.agg xs) (.agg ys)).run Try.prog W = .ok () W := run_eqGuard_agg W op _ x y xs ys (by kernel_rfl)
set_option maxHeartbeats 1000000 in
set_option maxRecDepth 100000 in
theorem CellApart.walk (w : World) (a : CellV) (ha : a.Ok) (b : CellV) (hb : b.Ok) :
    Calls Try.prog 5 #[.agg a.cells, .agg b.cells] w fun e w' => e = .returned (.bool true) ∧ Below w.heap.size w w' := by
  have HA := Aside0.mk ha
  have HBB := Aside0.mk hb
  have HSTR := Aside0.mk ((str_eq (a.bytes_u8s ha) (b.bytes_u8s hb)).trans (CellV.same_bytes ha hb))
  have HSA := Aside0.mk (show (Try.prog.info? 26).map (·.size) = some a.cells.size by rw [a.size ha]; exact info_cell)
  have HSB := Aside0.mk (show (Try.prog.info? 26).map (·.size) = some b.cells.size by rw [b.size hb]; exact info_cell)
  clear ha hb
  go_enter Try.func5, Try.ntmps5
  go_wp2_with (first | ((with_reducible refine gate_op (N := .box 26 (.tmp 0)) rfl ?_); refine wl_box rfl 26 _ rfl (.agg a.cells) rfl ?_; intro g1 hg w1 hblk hb hsz; have HK1 := Aside0.mk (show CellAt w1 g1 a from hblk); have HB1 := Aside0.mk hb; clear hg hblk hb hsz) | ((with_reducible refine gate_op (N := .box 26 (.tmp 1)) rfl ?_); refine wl_box rfl 26 _ rfl (.agg b.cells) rfl ?_; intro g2 hg w2 hblk hb hsz; have HK2 := Aside0.mk (show CellAt w2 g2 b from hblk); have HKA := Aside0.mk (show CellAt w2 g1 a from blk_below HK1.out.blk hb); have HB := Aside0.mk (HB1.out.trans (hb.mono HB1.out.size)); clear hg hblk hb hsz HK1 HB1) | (go_at_call 7; (with_reducible refine (awake07.calls _).mono ?_); rintro e w3 ⟨rfl, hb⟩; have n0_ := Aside0.mk (show CellAt w3 g1 a from blk_below HKA.out.blk hb); have n1_ := Aside0.mk (show CellAt w3 g2 b from blk_below HK2.out.blk hb); have n2_ := Aside0.mk (HB.out.trans (hb.mono HB.out.size)); clear hb HKA HK2 HB; have HKA := n0_; have HKB := n1_; have HB := n2_; clear n0_ n1_ n2_))
  refine mono_region (T := _) (B := [0, 1, 3, 0, 11, 27, 63, 0, 0, 384, 1023, 2047, 4095, 8191, 16383, 32767, 65535, 131071]) (n := 18) [(0, 9, VP.is (Value.agg a.cells)), (1, 10, VP.row (Kd.int .u8) a.bytes), (2, 11, VP.is (Value.string (strOfNums a.bytes))), (3, 12, VP.is (Value.agg b.cells)), (4, 13, VP.row (Kd.int .u8) b.bytes), (5, 14, VP.is (Value.string (strOfNums b.bytes))), (6, 15, VP.is (Value.bool (a.same b))), (7, 16, VP.is (Value.agg a.cells)), (8, 17, VP.is (Value.agg b.cells)), (9, 18, VP.is (Value.bool (a.same b))), (10, 19, VP.is (Value.bool true)), (11, 20, VP.is (Value.bool true)), (12, 21, VP.is (Value.agg a.cells)), (13, 22, VP.row (Kd.int .u8) a.bytes), (14, 23, VP.is (Value.int .i64 96)), (15, 24, VP.is (Value.bool true)), (16, 25, VP.is (Value.bool true)), (17, 4, VP.is (Value.bool true))] rfl (by kernel_rfl) (by kernel_rfl) rfl (by kernel_rfl) (by kernel_rfl) (by kernel_rfl) (by kernel_rfl) (by kernel_rfl) ?_ ?_
  · refine ms_cons ?_ <| ms_cons ?_ <| ms_cons ?_ <| ms_cons ?_ <| ms_cons ?_ <| ms_cons ?_ <| ms_cons ?_ <| ms_cons ?_ <| ms_cons ?_ <| ms_cons ?_ <| ms_cons ?_ <| ms_cons ?_ <| ms_cons ?_ <| ms_cons ?_ <| ms_cons ?_ <| ms_cons ?_ <| ms_cons ?_ <| ms_cons ?_ <| ms_nil
    · intro act_ w' H
      have e2 := H.tmp (t := 2) rfl (by kernel_rfl)
      have ev2 := eval_of e2
      refine ms_val rfl rfl rfl (Value.agg a.cells) w' ?_ (Below.refl _ _) rfl
      exact ex_load_blk w' _ _ rfl g1 ev2 a.cells _ _ (blk_below HKA.out.blk H.below) Try.underlying26 rfl HSA.out
    · intro act_ w' H
      obtain ⟨_, e9, rfl⟩ := H.on 0 rfl (by kernel_rfl)
      have ev9 := eval_of e9
      exact ms_call rfl rfl rfl Try.func8 (by kernel_rfl) rfl #[.agg a.cells] rfl (by simp [ev9]) ((cell_Put.calls a HA.out _).mono fun e w1 ⟨v, he, ho, hb⟩ => ⟨v, he, hb, Kd.R_reads ho⟩)
    · intro act_ w' H
      obtain ⟨v10, e10, A10, c10, rfl, hl10, hr10⟩ := H.on 1 rfl (by kernel_rfl)
      have ev10 := eval_of e10
      refine ms_val rfl rfl rfl (Value.string (strOfNums a.bytes)) w' ?_ (Below.refl _ _) rfl
      exact ex_string_row w' _ _ _ _ rfl Try.underlying27 Try.underlying5 Try.underlying9 A10 c10 _ ev10 hr10
    · intro act_ w' H
      have e3 := H.tmp (t := 3) rfl (by kernel_rfl)
      have ev3 := eval_of e3
      refine ms_val rfl rfl rfl (Value.agg b.cells) w' ?_ (Below.refl _ _) rfl
      exact ex_load_blk w' _ _ rfl g2 ev3 b.cells _ _ (blk_below HKB.out.blk H.below) Try.underlying26 rfl HSB.out
    · intro act_ w' H
      obtain ⟨_, e12, rfl⟩ := H.on 3 rfl (by kernel_rfl)
      have ev12 := eval_of e12
      exact ms_call rfl rfl rfl Try.func8 (by kernel_rfl) rfl #[.agg b.cells] rfl (by simp [ev12]) ((cell_Put.calls b HBB.out _).mono fun e w1 ⟨v, he, ho, hb⟩ => ⟨v, he, hb, Kd.R_reads ho⟩)
    · intro act_ w' H
      obtain ⟨v13, e13, A13, c13, rfl, hl13, hr13⟩ := H.on 4 rfl (by kernel_rfl)
      have ev13 := eval_of e13
      refine ms_val rfl rfl rfl (Value.string (strOfNums b.bytes)) w' ?_ (Below.refl _ _) rfl
      exact ex_string_row w' _ _ _ _ rfl Try.underlying27 Try.underlying5 Try.underlying9 A13 c13 _ ev13 hr13
    · intro act_ w' H
      obtain ⟨_, e11, rfl⟩ := H.on 2 rfl (by kernel_rfl)
      have ev11 := eval_of e11
      obtain ⟨_, e14, rfl⟩ := H.on 5 rfl (by kernel_rfl)
      have ev14 := eval_of e14
      have hq := HSTR.out
      refine ms_val rfl rfl rfl (Value.bool (a.same b)) w' ?_ (Below.refl _ _) rfl
      · go_simp
        try rfl
    · intro act_ w' H
      have e2 := H.tmp (t := 2) rfl (by kernel_rfl)
      have ev2 := eval_of e2
      refine ms_val rfl rfl rfl (Value.agg a.cells) w' ?_ (Below.refl _ _) rfl
      exact ex_load_blk w' _ _ rfl g1 ev2 a.cells _ _ (blk_below HKA.out.blk H.below) Try.underlying26 rfl HSA.out
    · intro act_ w' H
      have e3 := H.tmp (t := 3) rfl (by kernel_rfl)
      have ev3 := eval_of e3
      refine ms_val rfl rfl rfl (Value.agg b.cells) w' ?_ (Below.refl _ _) rfl
      exact ex_load_blk w' _ _ rfl g2 ev3 b.cells _ _ (blk_below HKB.out.blk H.below) Try.underlying26 rfl HSB.out
    · intro act_ w' H
      obtain ⟨_, e16, rfl⟩ := H.on 7 rfl (by kernel_rfl)
      have ev16 := eval_of e16
      obtain ⟨_, e17, rfl⟩ := H.on 8 rfl (by kernel_rfl)
      have ev17 := eval_of e17
      refine ms_val rfl rfl rfl (Value.bool (a.same b)) w' ?_ (Below.refl _ _) rfl
      exact ex_binop w' _ _ _ _ _ rfl _ _ ev16 ev17 (guard_cell _ _ _ _ _ w') _ (eql_cells HA.out HBB.out w')
    · intro act_ w' H
      obtain ⟨_, e15, rfl⟩ := H.on 6 rfl (by kernel_rfl)
      have ev15 := eval_of e15
      obtain ⟨_, e18, rfl⟩ := H.on 9 rfl (by kernel_rfl)
      have ev18 := eval_of e18
      refine ms_val rfl rfl rfl (Value.bool true) w' ?_ (Below.refl _ _) rfl
      · go_simp
        try rfl
    · intro act_ w' H
      obtain ⟨_, e19, rfl⟩ := H.on 10 rfl (by kernel_rfl)
      have ev19 := eval_of e19
      refine ms_val rfl rfl rfl (Value.bool true) w' ?_ (Below.refl _ _) rfl
      · go_simp
        try rfl
    · intro act_ w' H
      have e2 := H.tmp (t := 2) rfl (by kernel_rfl)
      have ev2 := eval_of e2
      obtain ⟨_, e20, rfl⟩ := H.on 11 rfl (by kernel_rfl)
      have ev20 := eval_of e20
      refine ms_val rfl rfl (wanted_on rfl rfl rfl e20) (Value.agg a.cells) w' ?_ (Below.refl _ _) rfl
      exact ex_load_blk w' _ _ rfl g1 ev2 a.cells _ _ (blk_below HKA.out.blk H.below) Try.underlying26 rfl HSA.out
    · intro act_ w' H
      obtain ⟨_, e21, rfl⟩ := H.on 12 rfl (by kernel_rfl)
      have ev21 := eval_of e21
      obtain ⟨_, e20, rfl⟩ := H.on 11 rfl (by kernel_rfl)
      have ev20 := eval_of e20
      exact ms_call rfl rfl (wanted_on rfl rfl rfl e20) Try.func8 (by kernel_rfl) rfl #[.agg a.cells] rfl (by simp [ev21]) ((cell_Put.calls a HA.out _).mono fun e w1 ⟨v, he, ho, hb⟩ => ⟨v, he, hb, Kd.R_reads ho⟩)
    · intro act_ w' H
      obtain ⟨v22, e22, A22, c22, rfl, hl22, hr22⟩ := H.on 13 rfl (by kernel_rfl)
      have ev22 := eval_of e22
      obtain ⟨_, e20, rfl⟩ := H.on 11 rfl (by kernel_rfl)
      have ev20 := eval_of e20
      have hq := a.bytes_length HA.out
      refine ms_val rfl rfl (wanted_on rfl rfl rfl e20) (Value.int .i64 96) w' ?_ (Below.refl _ _) rfl
      · go_simp
        try rfl
    · intro act_ w' H
      obtain ⟨_, e23, rfl⟩ := H.on 14 rfl (by kernel_rfl)
      have ev23 := eval_of e23
      obtain ⟨_, e20, rfl⟩ := H.on 11 rfl (by kernel_rfl)
      have ev20 := eval_of e20
      refine ms_val rfl rfl (wanted_on rfl rfl rfl e20) (Value.bool true) w' ?_ (Below.refl _ _) rfl
      · go_simp
        try rfl
    · intro act_ w' H
      obtain ⟨_, e20, rfl⟩ := H.on 11 rfl (by kernel_rfl)
      have ev20 := eval_of e20
      obtain ⟨_, e24, rfl⟩ := H.on 15 rfl (by kernel_rfl)
      have ev24 := eval_of e24
      refine ms_val rfl rfl rfl (Value.bool true) w' ?_ (Below.refl _ _) rfl
      · go_simp
        try rfl
    · intro act_ w' H
      obtain ⟨_, e25, rfl⟩ := H.on 16 rfl (by kernel_rfl)
      have ev25 := eval_of e25
      refine ms_val rfl rfl rfl (Value.bool true) w' ?_ (Below.refl _ _) rfl
      · go_simp
        try rfl
  intro w4 hb4
  rintro _ rfl v10 - _ rfl _ rfl v13 - _ rfl _ rfl _ rfl _ rfl _ rfl _ rfl _ rfl _ rfl v22 - _ rfl _ rfl _ rfl _ rfl
  simp only [Ends, Act.put, List.setIfInBounds_toArray, List.set_cons_zero, List.set_cons_succ]
  have HB4 := Aside0.mk (HB.out.trans (hb4.mono HB.out.size))
  clear hb4
  go_wp2
  go_ret
  exact ⟨rfl, HB4.out⟩
end Go.Proofs.Ytklhpnalchgkaaa.Q
