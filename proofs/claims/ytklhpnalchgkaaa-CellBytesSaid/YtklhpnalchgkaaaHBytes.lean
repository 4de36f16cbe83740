/- The statement CellBytes, walked. -/
import Derived.Test.YtklhpnalchgkaaaHApart
namespace Go.Proofs.Ytklhpnalchgkaaa.Q
open Go.RowKit Go.Proofs.YtklhpnalchgkaaaW.PrintWords Go.Proofs.YtklhpnalchgkaaaW.PrintLast Go.Proofs.YtklhpnalchgkaaaW.PrintMore Go.Proofs.Ytklhpnalchgkaaa.Pure
attribute [local go_sem] max2_int min2_int max_two min_two max_three min_three max_four min_four
set_option linter.unusedVariables false
set_option linter.unusedSimpArgs false
theorem same_self (x : CellV) : (!x.same x) = false := by rw [(x.same_iff x).2 rfl]; rfl
set_option maxHeartbeats 4000000 in
set_option maxRecDepth 100000 in
theorem CellBytes.walk (w : World) (c : CellV) (hc : c.Ok) (A1 : Option Addr) (c1 : Nat) (l : List Int) (hr : Kd.C (Kd.int .u8) w A1 l.length l) (hcap : l.length ≤ c1) (hu : u8s l) (hsz : l.length ≤ 140737488351232) :
    Calls Try.prog 3 #[.agg c.cells, .slice A1 l.length c1] w fun e w' => e = .returned (.bool true) ∧ Below w.heap.size w w' := by
  have HC := Aside0.mk hc
  have HU := Aside0.mk hu
  have HR := Aside0.mk hr
  have HCAP := Aside0.mk hcap
  have HSC := Aside0.mk (show (Try.prog.info? 26).map (·.size) = some c.cells.size by rw [c.size hc]; exact info_cell)
  obtain ⟨z, hz⟩ : ∃ z : CellV, z = (formC l).1 := ⟨_, rfl⟩
  obtain ⟨q, hq⟩ : ∃ q : Int, q = (formC l).2 := ⟨_, rfl⟩
  have hzo : z.Ok := by rw [hz]; exact formC_ok l hu
  have HZO := Aside0.mk hzo
  have HSZ := Aside0.mk (show (Try.prog.info? 26).map (·.size) = some z.cells.size by rw [z.size hzo]; exact info_cell)
  have HGET := Aside0.mk (fun (W : World) (h : Kd.C (Kd.int .u8) W A1 l.length l) => show Calls Try.prog 9 #[.slice A1 l.length c1] W (fun e w' => e = .returned (.tuple #[.agg z.cells, .int .i64 q]) ∧ Below W.heap.size W w') from by rw [hz, hq]; exact cell_Get.calls A1 c1 l W h hcap hu)
  have HRGET := Aside0.mk (fun (W : World) (h : Kd.C (Kd.int .u8) W A1 l.length l) => show Calls Try.prog 10 #[.slice A1 l.length c1] W (fun e w' => e = .returned (.tuple #[.agg z.cells, .int .i64 q]) ∧ Below W.heap.size W w') from by rw [hz, hq]; exact ref_Get.calls A1 c1 l W h hcap hu)
  have HEND := Aside0.mk (show (l.length = 96 ∧ q = 0 ∧ z.bytes = l) ∨ q = 11 from by
    by_cases h : l.length = 96
    · exact .inl ⟨h, by rw [hq]; unfold formC; rw [if_pos h], by rw [hz]; exact bytes_formC l hu h⟩
    · exact .inr (by rw [hq]; unfold formC; rw [if_neg h]))
  clear hc hr hcap hz hq hzo hu
  by_cases h300 : (300 : Int) < (l.length : Int)
  · have hd : decide ((300 : Int) < (l.length : Int)) = true := decide_eq_true h300
    have hd2 : decide (300 < l.length) = true := decide_eq_true (by omega)
    go_enter Try.func3, Try.ntmps3
    go_wp2_with (first | ((with_reducible refine gate_op (N := .box 26 (.tmp 0)) rfl ?_); refine wl_box rfl 26 _ rfl (.agg c.cells) rfl ?_; intro g1 hg w1 hblk hb hsz; have HB1 := Aside0.mk hb; clear hg hblk hb hsz) | (go_at_call 7; (with_reducible refine (awake07.calls _).mono ?_); rintro e w3 ⟨rfl, hb⟩; have HB := Aside0.mk (HB1.out.trans (hb.mono HB1.out.size)); clear hb HB1))
    go_ret
    exact ⟨rfl, HB.out⟩
  · have hd : decide ((300 : Int) < (l.length : Int)) = false := decide_eq_false h300
    have hd2 : decide (300 < l.length) = false := decide_eq_false (by omega)
    have hle : (l.length : Int) ≤ 300 := by omega
    clear h300
    go_enter Try.func3, Try.ntmps3
    go_wp2_with (first | ((with_reducible refine gate_op (N := .box 26 (.tmp 0)) rfl ?_); refine wl_box rfl 26 _ rfl (.agg c.cells) rfl ?_; intro g2 hg w1 hblk hb hsz; have HK2 := Aside0.mk (show CellAt w1 g2 c from hblk); have HB := Aside0.mk hb; clear hg hblk hb hsz) | (go_at_call 7; (with_reducible refine (awake07.calls _).mono ?_); rintro e w3 ⟨rfl, hb⟩; have n0_ := Aside0.mk (show CellAt w3 g2 c from blk_below HK2.out.blk hb); have n2_ := Aside0.mk (HB.out.trans (hb.mono HB.out.size)); clear hb HK2 HB; have HK2 := n0_; have HB := n2_; clear n0_ n2_) | ((with_reducible refine gate_op (N := .load 26 (.tmp 2)) rfl ?_); refine wl_load_blk rfl _ _ rfl g2 rfl c.cells 26 _ HK2.out.blk Try.underlying26 rfl HSC.out ?_) | (go_at_call 8; (with_reducible refine (cell_Put.calls c HC.out _).mono ?_); rintro e w4 ⟨v4, rfl, ho, hb⟩; obtain ⟨A6, c6, rfl, hl4, hc4⟩ := Kd.R_reads ho; have HR6 := Aside0.mk hc4; have HLC6 := Aside0.mk hl4; have n0_ := Aside0.mk (show CellAt w4 g2 c from blk_below HK2.out.blk hb); have n2_ := Aside0.mk (HB.out.trans (hb.mono HB.out.size)); clear hb ho hl4 hc4 HK2 HB; have HK2 := n0_; have HB := n2_; clear n0_ n2_; have tokA : True := trivial) | (go_at_call 9; have _t := tokA; (with_reducible refine (cell_Get_of HC.out _ _ _ (c.bytes_length HC.out) _ HR6.out HLC6.out).mono ?_); rintro e w5 ⟨rfl, hb⟩; have n0_ := Aside0.mk (show CellAt w5 g2 c from blk_below HK2.out.blk hb); have n1_ := Aside0.mk (Kd.C_below HR6.out hb); have n2_ := Aside0.mk (HB.out.trans (hb.mono HB.out.size)); clear hb HK2 HB HR6 tokA; have HK2 := n0_; have HR6 := n1_; have HB := n2_; clear n0_ n1_ n2_; have tokB : True := trivial) | (go_at_call 9; have _t := tokB; (with_reducible refine (HGET.out _ (Kd.C_below HR.out HB.out)).mono ?_); rintro e w5 ⟨rfl, hb⟩; have n0_ := Aside0.mk (show CellAt w5 g2 c from blk_below HK2.out.blk hb); have n1_ := Aside0.mk (Kd.C_below HR6.out hb); have n2_ := Aside0.mk (HB.out.trans (hb.mono HB.out.size)); have n3_ := Aside0.mk (show CellAt w5 g7 c from blk_below HK7.out.blk hb); clear hb HK2 HB HR6 HK7 tokB; have HK2 := n0_; have HR6 := n1_; have HB := n2_; have HK7 := n3_; clear n0_ n1_ n2_ n3_) | (go_at_call 10; (with_reducible refine (HRGET.out _ (Kd.C_below HR.out HB.out)).mono ?_); rintro e w5 ⟨rfl, hb⟩; have n0_ := Aside0.mk (show CellAt w5 g2 c from blk_below HK2.out.blk hb); have n1_ := Aside0.mk (Kd.C_below HR6.out hb); have n2_ := Aside0.mk (HB.out.trans (hb.mono HB.out.size)); have n3_ := Aside0.mk (show CellAt w5 g7 c from blk_below HK7.out.blk hb); have n4_ := Aside0.mk (show CellAt w5 g9 z from blk_below HK9.out.blk hb); clear hb HK2 HB HR6 HK7 HK9; have HK2 := n0_; have HR6 := n1_; have HB := n2_; have HK7 := n3_; have HK9 := n4_; clear n0_ n1_ n2_ n3_ n4_) | ((with_reducible refine gate_dst (N := 7) rfl ?_); refine wl_alloc rfl 26 rfl _ zero_cell ?_; intro g7 hg w6 hblk hb hsz; have HGE := Aside0.mk hg; have HAL := Aside0.mk hb; have HZE := Aside0.mk hblk; clear hg hblk hb hsz) | ((with_reducible refine gate_dst (N := 9) rfl ?_); refine wl_alloc rfl 26 rfl _ zero_cell ?_; intro g9 hg w6 hblk hb hsz; have HGE := Aside0.mk hg; have HAL := Aside0.mk hb; have HZE := Aside0.mk hblk; clear hg hblk hb hsz) | ((with_reducible refine gate_dst (N := 11) rfl ?_); refine wl_alloc rfl 26 rfl _ zero_cell ?_; intro g11 hg w6 hblk hb hsz; have HGE := Aside0.mk hg; have HAL := Aside0.mk hb; have HZE := Aside0.mk hblk; clear hg hblk hb hsz) | ((with_reducible refine gate_store (t := 26) (p := 7) rfl ?_); refine wl_store_all rfl rfl 26 _ _ rfl g7 rfl _ _ HZE.out (.agg c.cells) rfl ?side1 CellV.one HSC.out ?_; (case side1 => show c.cells.size = _; rw [c.size HC.out]; rfl); intro w7 hk7 hg7 hs7; have hbx := grown_below HAL.out hg7 HAL.out.size (by rw [HGE.out]; exact Nat.le_refl _); have HK7 := Aside0.mk (show CellAt w7 g7 c from hk7); have m0_ := Aside0.mk (show CellAt w7 g2 c from blk_below HK2.out.blk hbx); have m1_ := Aside0.mk (Kd.C_below HR6.out hbx); have m2_ := Aside0.mk (HB.out.trans (hbx.mono HB.out.size)); clear HK2 HR6 HB; have HK2 := m0_; have HR6 := m1_; have HB := m2_; clear m0_ m1_ m2_; clear hbx hk7 hg7 hs7 HAL HGE HZE) | ((with_reducible refine gate_store (t := 26) (p := 9) rfl ?_); refine wl_store_all rfl rfl 26 _ _ rfl g9 rfl _ _ HZE.out (.agg z.cells) rfl ?side1 CellV.one HSZ.out ?_; (case side1 => show z.cells.size = _; rw [z.size HZO.out]; rfl); intro w7 hk7 hg7 hs7; have hbx := grown_below HAL.out hg7 HAL.out.size (by rw [HGE.out]; exact Nat.le_refl _); have HK9 := Aside0.mk (show CellAt w7 g9 z from hk7); have m0_ := Aside0.mk (show CellAt w7 g2 c from blk_below HK2.out.blk hbx); have m1_ := Aside0.mk (Kd.C_below HR6.out hbx); have m2_ := Aside0.mk (HB.out.trans (hbx.mono HB.out.size)); have m3_ := Aside0.mk (show CellAt w7 g7 c from blk_below HK7.out.blk hbx); clear HK2 HR6 HB HK7; have HK2 := m0_; have HR6 := m1_; have HB := m2_; have HK7 := m3_; clear m0_ m1_ m2_ m3_; clear hbx hk7 hg7 hs7 HAL HGE HZE) | ((with_reducible refine gate_store (t := 26) (p := 11) rfl ?_); refine wl_store_all rfl rfl 26 _ _ rfl g11 rfl _ _ HZE.out (.agg z.cells) rfl ?side1 CellV.one HSZ.out ?_; (case side1 => show z.cells.size = _; rw [z.size HZO.out]; rfl); intro w7 hk7 hg7 hs7; have hbx := grown_below HAL.out hg7 HAL.out.size (by rw [HGE.out]; exact Nat.le_refl _); have HK11 := Aside0.mk (show CellAt w7 g11 z from hk7); have m0_ := Aside0.mk (show CellAt w7 g2 c from blk_below HK2.out.blk hbx); have m1_ := Aside0.mk (Kd.C_below HR6.out hbx); have m2_ := Aside0.mk (HB.out.trans (hbx.mono HB.out.size)); have m3_ := Aside0.mk (show CellAt w7 g7 c from blk_below HK7.out.blk hbx); have m4_ := Aside0.mk (show CellAt w7 g9 z from blk_below HK9.out.blk hbx); clear HK2 HR6 HB HK7 HK9; have HK2 := m0_; have HR6 := m1_; have HB := m2_; have HK7 := m3_; have HK9 := m4_; clear m0_ m1_ m2_ m3_ m4_; clear hbx hk7 hg7 hs7 HAL HGE HZE))
    have hx6 := HR6.out
    have hcx := HLC6.out
    rw [c.bytes_length HC.out] at hx6 hcx ⊢
    clear HR6 HLC6
    have HX6 := Aside0.mk hx6
    clear hx6
    have hsame := same_self c
    have hsamez := same_self z
    have HS1 := Aside0.mk hsame
    have HS2 := Aside0.mk hsamez
    have H96 := Aside0.mk (c.bytes_length HC.out)
    clear hsame hsamez
    refine mono_region (T := _) (B := [0, 1, 0, 4, 12, 31, 63, 127, 127, 511, 1023, 2047, 4095, 8191, 16383, 32767, 65535, 65535, 262143, 524287, 1048575, 2097151, 2097151, 8388607, 16777215]) (n := 25) [(0, 36, VP.is (Value.slice A6 96 c6)), (1, 37, VP.is (Value.string (strOfNums c.bytes))), (2, 38, VP.is (Value.agg c.cells)), (3, 39, VP.row (Kd.int .u8) c.bytes), (4, 40, VP.is (Value.string (strOfNums c.bytes))), (5, 41, VP.is (Value.bool false)), (6, 42, VP.is (Value.bool false)), (7, 43, VP.is (Value.agg c.cells)), (8, 44, VP.is (Value.agg c.cells)), (9, 45, VP.is (Value.bool false)), (10, 46, VP.is (Value.bool false)), (11, 47, VP.is (Value.bool false)), (12, 48, VP.is (Value.int .i64 0)), (13, 49, VP.is (Value.bool false)), (14, 50, VP.is (Value.bool false)), (15, 51, VP.is (Value.bool false)), (16, 52, VP.is (Value.agg z.cells)), (17, 53, VP.is (Value.agg z.cells)), (18, 54, VP.is (Value.bool false)), (19, 55, VP.is (Value.bool false)), (20, 56, VP.is (Value.bool false)), (21, 57, VP.is (Value.int .i64 q)), (22, 58, VP.is (Value.int .i64 q)), (23, 59, VP.is (Value.bool false)), (24, 60, VP.is (Value.bool false))] rfl (by kernel_rfl) (by kernel_rfl) rfl (by kernel_rfl) (by kernel_rfl) (by kernel_rfl) (by kernel_rfl) (by kernel_rfl) ?_ ?_
    · refine ms_cons ?_ <| ms_cons ?_ <| ms_cons ?_ <| ms_cons ?_ <| ms_cons ?_ <| ms_cons ?_ <| ms_cons ?_ <| ms_cons ?_ <| ms_cons ?_ <| ms_cons ?_ <| ms_cons ?_ <| ms_cons ?_ <| ms_cons ?_ <| ms_cons ?_ <| ms_cons ?_ <| ms_cons ?_ <| ms_cons ?_ <| ms_cons ?_ <| ms_cons ?_ <| ms_cons ?_ <| ms_cons ?_ <| ms_cons ?_ <| ms_cons ?_ <| ms_cons ?_ <| ms_cons ?_ <| ms_nil
      · intro act_ w' H
        have e6 := H.tmp (t := 6) rfl (by kernel_rfl)
        have ev6 := eval_of e6
        refine ms_val rfl rfl rfl (Value.slice A6 96 c6) w' ?_ (Below.refl _ _) rfl
        · go_simp
          try rfl
      · intro act_ w' H
        obtain ⟨_, e36, rfl⟩ := H.on 0 rfl (by kernel_rfl)
        have ev36 := eval_of e36
        refine ms_val rfl rfl rfl (Value.string (strOfNums c.bytes)) w' ?_ (Below.refl _ _) rfl
        exact ex_string_row w' _ _ _ _ rfl Try.underlying27 Try.underlying5 Try.underlying9 A6 c6 _ (by rw [H96.out]; exact ev36) (by rw [H96.out]; exact Kd.C_below HX6.out H.below)
      · intro act_ w' H
        have e2 := H.tmp (t := 2) rfl (by kernel_rfl)
        have ev2 := eval_of e2
        refine ms_val rfl rfl rfl (Value.agg c.cells) w' ?_ (Below.refl _ _) rfl
        exact ex_load_blk w' _ _ rfl g2 ev2 c.cells _ _ (blk_below HK2.out.blk H.below) Try.underlying26 rfl HSC.out
      · intro act_ w' H
        obtain ⟨_, e38, rfl⟩ := H.on 2 rfl (by kernel_rfl)
        have ev38 := eval_of e38
        exact ms_call rfl rfl rfl Try.func11 (by kernel_rfl) rfl #[.agg c.cells] rfl (by simp [ev38]) ((ref_Put.calls c HC.out _).mono fun e w1 ⟨v, he, ho, hb⟩ => ⟨v, he, hb, Kd.R_reads ho⟩)
      · intro act_ w' H
        obtain ⟨v39, e39, A39, c39, rfl, hl39, hr39⟩ := H.on 3 rfl (by kernel_rfl)
        have ev39 := eval_of e39
        refine ms_val rfl rfl rfl (Value.string (strOfNums c.bytes)) w' ?_ (Below.refl _ _) rfl
        exact ex_string_row w' _ _ _ _ rfl Try.underlying27 Try.underlying5 Try.underlying9 A39 c39 _ ev39 hr39
      · intro act_ w' H
        obtain ⟨_, e37, rfl⟩ := H.on 1 rfl (by kernel_rfl)
        have ev37 := eval_of e37
        obtain ⟨_, e40, rfl⟩ := H.on 4 rfl (by kernel_rfl)
        have ev40 := eval_of e40
        refine ms_val rfl rfl rfl (Value.bool false) w' ?_ (Below.refl _ _) rfl
        · go_simp
          try rfl
      · intro act_ w' H
        obtain ⟨_, e41, rfl⟩ := H.on 5 rfl (by kernel_rfl)
        have ev41 := eval_of e41
        refine ms_val rfl rfl rfl (Value.bool false) w' ?_ (Below.refl _ _) rfl
        · go_simp
          try rfl
      · intro act_ w' H
        have e7 := H.tmp (t := 7) rfl (by kernel_rfl)
        have ev7 := eval_of e7
        obtain ⟨_, e42, rfl⟩ := H.on 6 rfl (by kernel_rfl)
        have ev42 := eval_of e42
        refine ms_val rfl rfl (wanted_on rfl rfl rfl e42) (Value.agg c.cells) w' ?_ (Below.refl _ _) rfl
        exact ex_load_blk w' _ _ rfl g7 ev7 c.cells _ _ (blk_below HK7.out.blk H.below) Try.underlying26 rfl HSC.out
      · intro act_ w' H
        have e2 := H.tmp (t := 2) rfl (by kernel_rfl)
        have ev2 := eval_of e2
        obtain ⟨_, e42, rfl⟩ := H.on 6 rfl (by kernel_rfl)
        have ev42 := eval_of e42
        refine ms_val rfl rfl (wanted_on rfl rfl rfl e42) (Value.agg c.cells) w' ?_ (Below.refl _ _) rfl
        exact ex_load_blk w' _ _ rfl g2 ev2 c.cells _ _ (blk_below HK2.out.blk H.below) Try.underlying26 rfl HSC.out
      · intro act_ w' H
        obtain ⟨_, e43, rfl⟩ := H.on 7 rfl (by kernel_rfl)
        have ev43 := eval_of e43
        obtain ⟨_, e44, rfl⟩ := H.on 8 rfl (by kernel_rfl)
        have ev44 := eval_of e44
        obtain ⟨_, e42, rfl⟩ := H.on 6 rfl (by kernel_rfl)
        have ev42 := eval_of e42
        refine ms_val rfl rfl (wanted_on rfl rfl rfl e42) (Value.bool false) w' ?_ (Below.refl _ _) rfl
        exact ex_binop w' _ _ _ _ _ rfl _ _ ev43 ev44 (guard_cell _ _ _ _ _ w') _ (by rw [neq_cells HC.out HC.out w', HS1.out])
      · intro act_ w' H
        obtain ⟨_, e42, rfl⟩ := H.on 6 rfl (by kernel_rfl)
        have ev42 := eval_of e42
        obtain ⟨_, e45, rfl⟩ := H.on 9 rfl (by kernel_rfl)
        have ev45 := eval_of e45
        refine ms_val rfl rfl rfl (Value.bool false) w' ?_ (Below.refl _ _) rfl
        · go_simp
          try rfl
      · intro act_ w' H
        obtain ⟨_, e46, rfl⟩ := H.on 10 rfl (by kernel_rfl)
        have ev46 := eval_of e46
        refine ms_val rfl rfl rfl (Value.bool false) w' ?_ (Below.refl _ _) rfl
        · go_simp
          try rfl
      · intro act_ w' H
        have e8 := H.tmp (t := 8) rfl (by kernel_rfl)
        have ev8 := eval_of e8
        obtain ⟨_, e47, rfl⟩ := H.on 11 rfl (by kernel_rfl)
        have ev47 := eval_of e47
        refine ms_val rfl rfl (wanted_on rfl rfl rfl e47) (Value.int .i64 0) w' ?_ (Below.refl _ _) rfl
        · go_simp
          try rfl
      · intro act_ w' H
        obtain ⟨_, e48, rfl⟩ := H.on 12 rfl (by kernel_rfl)
        have ev48 := eval_of e48
        obtain ⟨_, e47, rfl⟩ := H.on 11 rfl (by kernel_rfl)
        have ev47 := eval_of e47
        refine ms_val rfl rfl (wanted_on rfl rfl rfl e47) (Value.bool false) w' ?_ (Below.refl _ _) rfl
        · go_simp
          try rfl
      · intro act_ w' H
        obtain ⟨_, e47, rfl⟩ := H.on 11 rfl (by kernel_rfl)
        have ev47 := eval_of e47
        obtain ⟨_, e49, rfl⟩ := H.on 13 rfl (by kernel_rfl)
        have ev49 := eval_of e49
        refine ms_val rfl rfl rfl (Value.bool false) w' ?_ (Below.refl _ _) rfl
        · go_simp
          try rfl
      · intro act_ w' H
        obtain ⟨_, e50, rfl⟩ := H.on 14 rfl (by kernel_rfl)
        have ev50 := eval_of e50
        refine ms_val rfl rfl rfl (Value.bool false) w' ?_ (Below.refl _ _) rfl
        · go_simp
          try rfl
      · intro act_ w' H
        have e9 := H.tmp (t := 9) rfl (by kernel_rfl)
        have ev9 := eval_of e9
        obtain ⟨_, e51, rfl⟩ := H.on 15 rfl (by kernel_rfl)
        have ev51 := eval_of e51
        refine ms_val rfl rfl (wanted_on rfl rfl rfl e51) (Value.agg z.cells) w' ?_ (Below.refl _ _) rfl
        exact ex_load_blk w' _ _ rfl g9 ev9 z.cells _ _ (blk_below HK9.out.blk H.below) Try.underlying26 rfl HSZ.out
      · intro act_ w' H
        have e11 := H.tmp (t := 11) rfl (by kernel_rfl)
        have ev11 := eval_of e11
        obtain ⟨_, e51, rfl⟩ := H.on 15 rfl (by kernel_rfl)
        have ev51 := eval_of e51
        refine ms_val rfl rfl (wanted_on rfl rfl rfl e51) (Value.agg z.cells) w' ?_ (Below.refl _ _) rfl
        exact ex_load_blk w' _ _ rfl g11 ev11 z.cells _ _ (blk_below HK11.out.blk H.below) Try.underlying26 rfl HSZ.out
      · intro act_ w' H
        obtain ⟨_, e52, rfl⟩ := H.on 16 rfl (by kernel_rfl)
        have ev52 := eval_of e52
        obtain ⟨_, e53, rfl⟩ := H.on 17 rfl (by kernel_rfl)
        have ev53 := eval_of e53
        obtain ⟨_, e51, rfl⟩ := H.on 15 rfl (by kernel_rfl)
        have ev51 := eval_of e51
        refine ms_val rfl rfl (wanted_on rfl rfl rfl e51) (Value.bool false) w' ?_ (Below.refl _ _) rfl
        exact ex_binop w' _ _ _ _ _ rfl _ _ ev52 ev53 (guard_cell _ _ _ _ _ w') _ (by rw [neq_cells HZO.out HZO.out w', HS2.out])
      · intro act_ w' H
        obtain ⟨_, e51, rfl⟩ := H.on 15 rfl (by kernel_rfl)
        have ev51 := eval_of e51
        obtain ⟨_, e54, rfl⟩ := H.on 18 rfl (by kernel_rfl)
        have ev54 := eval_of e54
        refine ms_val rfl rfl rfl (Value.bool false) w' ?_ (Below.refl _ _) rfl
        · go_simp
          try rfl
      · intro act_ w' H
        obtain ⟨_, e55, rfl⟩ := H.on 19 rfl (by kernel_rfl)
        have ev55 := eval_of e55
        refine ms_val rfl rfl rfl (Value.bool false) w' ?_ (Below.refl _ _) rfl
        · go_simp
          try rfl
      · intro act_ w' H
        have e10 := H.tmp (t := 10) rfl (by kernel_rfl)
        have ev10 := eval_of e10
        obtain ⟨_, e56, rfl⟩ := H.on 20 rfl (by kernel_rfl)
        have ev56 := eval_of e56
        refine ms_val rfl rfl (wanted_on rfl rfl rfl e56) (Value.int .i64 q) w' ?_ (Below.refl _ _) rfl
        · go_simp
          try rfl
      · intro act_ w' H
        have e12 := H.tmp (t := 12) rfl (by kernel_rfl)
        have ev12 := eval_of e12
        obtain ⟨_, e56, rfl⟩ := H.on 20 rfl (by kernel_rfl)
        have ev56 := eval_of e56
        refine ms_val rfl rfl (wanted_on rfl rfl rfl e56) (Value.int .i64 q) w' ?_ (Below.refl _ _) rfl
        · go_simp
          try rfl
      · intro act_ w' H
        obtain ⟨_, e57, rfl⟩ := H.on 21 rfl (by kernel_rfl)
        have ev57 := eval_of e57
        obtain ⟨_, e58, rfl⟩ := H.on 22 rfl (by kernel_rfl)
        have ev58 := eval_of e58
        obtain ⟨_, e56, rfl⟩ := H.on 20 rfl (by kernel_rfl)
        have ev56 := eval_of e56
        refine ms_val rfl rfl (wanted_on rfl rfl rfl e56) (Value.bool false) w' ?_ (Below.refl _ _) rfl
        · go_simp
          try rfl
      · intro act_ w' H
        obtain ⟨_, e56, rfl⟩ := H.on 20 rfl (by kernel_rfl)
        have ev56 := eval_of e56
        obtain ⟨_, e59, rfl⟩ := H.on 23 rfl (by kernel_rfl)
        have ev59 := eval_of e59
        refine ms_val rfl rfl rfl (Value.bool false) w' ?_ (Below.refl _ _) rfl
        · go_simp
          try rfl
    intro w6 hb6
    rintro _ rfl _ rfl _ rfl v39 - _ rfl _ rfl _ rfl _ rfl _ rfl _ rfl _ rfl _ rfl _ rfl _ rfl _ rfl _ rfl _ rfl _ rfl _ rfl _ rfl _ rfl _ rfl _ rfl _ rfl _ rfl
    simp only [Ends, Act.put, List.setIfInBounds_toArray, List.set_cons_zero, List.set_cons_succ]
    have n0_ := Aside0.mk (show CellAt w6 g9 z from blk_below HK9.out.blk hb6)
    have n1_ := Aside0.mk (HB.out.trans (hb6.mono HB.out.size))
    clear hb6 HK9 HB HK2 HK7 HK11 HX6
    have HK9 := n0_
    have HB := n1_
    clear n0_ n1_
    go_wp2
    rcases HEND.out with ⟨h96, hq0, hzb⟩ | hq11
    · subst hq0
      have HZB := Aside0.mk hzb
      clear h96 hzb
      refine mono_region (T := _) (B := [0, 1, 3, 7, 15, 31, 7, 71, 255, 511, 1023]) (n := 11) [(0, 61, VP.is (Value.int .i64 0)), (1, 62, VP.is (Value.bool false)), (2, 63, VP.is (Value.bool false)), (3, 64, VP.is (Value.agg z.cells)), (4, 65, VP.row (Kd.int .u8) z.bytes), (5, 66, VP.is (Value.string (strOfNums l))), (6, 67, VP.is (Value.slice A1 l.length c1)), (7, 68, VP.is (Value.string (strOfNums l))), (8, 69, VP.is (Value.bool true)), (9, 70, VP.is (Value.bool true)), (10, 4, VP.is (Value.bool true))] rfl (by kernel_rfl) (by kernel_rfl) rfl (by kernel_rfl) (by kernel_rfl) (by kernel_rfl) (by kernel_rfl) (by kernel_rfl) ?_ ?_
      · refine ms_cons ?_ <| ms_cons ?_ <| ms_cons ?_ <| ms_cons ?_ <| ms_cons ?_ <| ms_cons ?_ <| ms_cons ?_ <| ms_cons ?_ <| ms_cons ?_ <| ms_cons ?_ <| ms_cons ?_ <| ms_nil
        · intro act_ w' H
          have e10 := H.tmp (t := 10) rfl (by kernel_rfl)
          have ev10 := eval_of e10
          refine ms_val rfl rfl rfl (Value.int .i64 0) w' ?_ (Below.refl _ _) rfl
          · go_simp
            try rfl
        · intro act_ w' H
          obtain ⟨_, e61, rfl⟩ := H.on 0 rfl (by kernel_rfl)
          have ev61 := eval_of e61
          refine ms_val rfl rfl rfl (Value.bool false) w' ?_ (Below.refl _ _) rfl
          · go_simp
            try rfl
        · intro act_ w' H
          obtain ⟨_, e62, rfl⟩ := H.on 1 rfl (by kernel_rfl)
          have ev62 := eval_of e62
          refine ms_val rfl rfl rfl (Value.bool false) w' ?_ (Below.refl _ _) rfl
          · go_simp
            try rfl
        · intro act_ w' H
          have e9 := H.tmp (t := 9) rfl (by kernel_rfl)
          have ev9 := eval_of e9
          obtain ⟨_, e63, rfl⟩ := H.on 2 rfl (by kernel_rfl)
          have ev63 := eval_of e63
          refine ms_val rfl rfl (wanted_on rfl rfl rfl e63) (Value.agg z.cells) w' ?_ (Below.refl _ _) rfl
          exact ex_load_blk w' _ _ rfl g9 ev9 z.cells _ _ (blk_below HK9.out.blk H.below) Try.underlying26 rfl HSZ.out
        · intro act_ w' H
          obtain ⟨_, e64, rfl⟩ := H.on 3 rfl (by kernel_rfl)
          have ev64 := eval_of e64
          obtain ⟨_, e63, rfl⟩ := H.on 2 rfl (by kernel_rfl)
          have ev63 := eval_of e63
          exact ms_call rfl rfl (wanted_on rfl rfl rfl e63) Try.func8 (by kernel_rfl) rfl #[.agg z.cells] rfl (by simp [ev64]) ((cell_Put.calls z HZO.out _).mono fun e w1 ⟨v, he, ho, hb⟩ => ⟨v, he, hb, Kd.R_reads ho⟩)
        · intro act_ w' H
          obtain ⟨v65, e65, A65, c65, rfl, hl65, hr65⟩ := H.on 4 rfl (by kernel_rfl)
          have ev65 := eval_of e65
          obtain ⟨_, e63, rfl⟩ := H.on 2 rfl (by kernel_rfl)
          have ev63 := eval_of e63
          refine ms_val rfl rfl (wanted_on rfl rfl rfl e63) (Value.string (strOfNums l)) w' ?_ (Below.refl _ _) rfl
          rw [← HZB.out]
          exact ex_string_row w' _ _ _ _ rfl Try.underlying27 Try.underlying5 Try.underlying9 A65 c65 _ ev65 hr65
        · intro act_ w' H
          have e1 := H.tmp (t := 1) rfl (by kernel_rfl)
          have ev1 := eval_of e1
          obtain ⟨_, e63, rfl⟩ := H.on 2 rfl (by kernel_rfl)
          have ev63 := eval_of e63
          refine ms_val rfl rfl (wanted_on rfl rfl rfl e63) (Value.slice A1 l.length c1) w' ?_ (Below.refl _ _) rfl
          · go_simp
            try rfl
        · intro act_ w' H
          obtain ⟨_, e67, rfl⟩ := H.on 6 rfl (by kernel_rfl)
          have ev67 := eval_of e67
          obtain ⟨_, e63, rfl⟩ := H.on 2 rfl (by kernel_rfl)
          have ev63 := eval_of e63
          refine ms_val rfl rfl (wanted_on rfl rfl rfl e63) (Value.string (strOfNums l)) w' ?_ (Below.refl _ _) rfl
          exact ex_string_row w' _ _ _ _ rfl Try.underlying27 Try.underlying5 Try.underlying9 A1 c1 _ ev67 (Kd.C_below HR.out (HB.out.trans (H.below.mono HB.out.size)))
        · intro act_ w' H
          obtain ⟨_, e66, rfl⟩ := H.on 5 rfl (by kernel_rfl)
          have ev66 := eval_of e66
          obtain ⟨_, e68, rfl⟩ := H.on 7 rfl (by kernel_rfl)
          have ev68 := eval_of e68
          obtain ⟨_, e63, rfl⟩ := H.on 2 rfl (by kernel_rfl)
          have ev63 := eval_of e63
          refine ms_val rfl rfl (wanted_on rfl rfl rfl e63) (Value.bool true) w' ?_ (Below.refl _ _) rfl
          · go_simp
            try rfl
        · intro act_ w' H
          obtain ⟨_, e63, rfl⟩ := H.on 2 rfl (by kernel_rfl)
          have ev63 := eval_of e63
          obtain ⟨_, e69, rfl⟩ := H.on 8 rfl (by kernel_rfl)
          have ev69 := eval_of e69
          refine ms_val rfl rfl rfl (Value.bool true) w' ?_ (Below.refl _ _) rfl
          · go_simp
            try rfl
        · intro act_ w' H
          obtain ⟨_, e70, rfl⟩ := H.on 9 rfl (by kernel_rfl)
          have ev70 := eval_of e70
          refine ms_val rfl rfl rfl (Value.bool true) w' ?_ (Below.refl _ _) rfl
          · go_simp
            try rfl
      intro w8 hb8
      rintro _ rfl _ rfl _ rfl _ rfl v65 - _ rfl _ rfl _ rfl _ rfl _ rfl _ rfl
      simp only [Ends, Act.put, List.setIfInBounds_toArray, List.set_cons_zero, List.set_cons_succ]
      have HB8 := Aside0.mk (HB.out.trans (hb8.mono HB.out.size))
      clear hb8
      go_wp2
      go_ret
      exact ⟨rfl, HB8.out⟩
    · subst hq11
      refine mono_region (T := _) (B := [0, 1, 3, 7, 15, 31, 7, 71, 255, 511, 1023]) (n := 11) [(0, 61, VP.is (Value.int .i64 11)), (1, 62, VP.is (Value.bool true)), (2, 63, VP.is (Value.bool true)), (3, 64, VP.is undef), (4, 65, VP.is undef), (5, 66, VP.is undef), (6, 67, VP.is undef), (7, 68, VP.is undef), (8, 69, VP.is undef), (9, 70, VP.is (Value.bool true)), (10, 4, VP.is (Value.bool true))] rfl (by kernel_rfl) (by kernel_rfl) rfl (by kernel_rfl) (by kernel_rfl) (by kernel_rfl) (by kernel_rfl) (by kernel_rfl) ?_ ?_
      · refine ms_cons ?_ <| ms_cons ?_ <| ms_cons ?_ <| ms_cons ?_ <| ms_cons ?_ <| ms_cons ?_ <| ms_cons ?_ <| ms_cons ?_ <| ms_cons ?_ <| ms_cons ?_ <| ms_cons ?_ <| ms_nil
        · intro act_ w' H
          have e10 := H.tmp (t := 10) rfl (by kernel_rfl)
          have ev10 := eval_of e10
          refine ms_val rfl rfl rfl (Value.int .i64 11) w' ?_ (Below.refl _ _) rfl
          · go_simp
            try rfl
        · intro act_ w' H
          obtain ⟨_, e61, rfl⟩ := H.on 0 rfl (by kernel_rfl)
          have ev61 := eval_of e61
          refine ms_val rfl rfl rfl (Value.bool true) w' ?_ (Below.refl _ _) rfl
          · go_simp
            try rfl
        · intro act_ w' H
          obtain ⟨_, e62, rfl⟩ := H.on 1 rfl (by kernel_rfl)
          have ev62 := eval_of e62
          refine ms_val rfl rfl rfl (Value.bool true) w' ?_ (Below.refl _ _) rfl
          · go_simp
            try rfl
        · intro act_ w' H
          obtain ⟨_, e63, rfl⟩ := H.on 2 rfl (by kernel_rfl)
          have ev63 := eval_of e63
          exact ms_off rfl rfl (wanted_off rfl rfl rfl e63) rfl
        · intro act_ w' H
          obtain ⟨_, e63, rfl⟩ := H.on 2 rfl (by kernel_rfl)
          have ev63 := eval_of e63
          exact ms_off rfl rfl (wanted_off rfl rfl rfl e63) rfl
        · intro act_ w' H
          obtain ⟨_, e63, rfl⟩ := H.on 2 rfl (by kernel_rfl)
          have ev63 := eval_of e63
          exact ms_off rfl rfl (wanted_off rfl rfl rfl e63) rfl
        · intro act_ w' H
          obtain ⟨_, e63, rfl⟩ := H.on 2 rfl (by kernel_rfl)
          have ev63 := eval_of e63
          exact ms_off rfl rfl (wanted_off rfl rfl rfl e63) rfl
        · intro act_ w' H
          obtain ⟨_, e63, rfl⟩ := H.on 2 rfl (by kernel_rfl)
          have ev63 := eval_of e63
          exact ms_off rfl rfl (wanted_off rfl rfl rfl e63) rfl
        · intro act_ w' H
          obtain ⟨_, e63, rfl⟩ := H.on 2 rfl (by kernel_rfl)
          have ev63 := eval_of e63
          exact ms_off rfl rfl (wanted_off rfl rfl rfl e63) rfl
        · intro act_ w' H
          obtain ⟨_, e63, rfl⟩ := H.on 2 rfl (by kernel_rfl)
          have ev63 := eval_of e63
          obtain ⟨_, e69, rfl⟩ := H.on 8 rfl (by kernel_rfl)
          have ev69 := eval_of e69
          refine ms_val rfl rfl rfl (Value.bool true) w' ?_ (Below.refl _ _) rfl
          · go_simp
            try rfl
        · intro act_ w' H
          obtain ⟨_, e70, rfl⟩ := H.on 9 rfl (by kernel_rfl)
          have ev70 := eval_of e70
          refine ms_val rfl rfl rfl (Value.bool true) w' ?_ (Below.refl _ _) rfl
          · go_simp
            try rfl
      intro w8 hb8
      rintro _ rfl _ rfl _ rfl _ rfl _ rfl _ rfl _ rfl _ rfl _ rfl _ rfl _ rfl
      simp only [Ends, Act.put, List.setIfInBounds_toArray, List.set_cons_zero, List.set_cons_succ]
      have HB8 := Aside0.mk (HB.out.trans (hb8.mono HB.out.size))
      clear hb8
      go_wp2
      go_ret
      exact ⟨rfl, HB8.out⟩
end Go.Proofs.Ytklhpnalchgkaaa.Q
