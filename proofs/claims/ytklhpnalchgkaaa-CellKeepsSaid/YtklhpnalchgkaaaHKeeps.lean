/- The statement CellKeeps, walked. -/
import Derived.Test.YtklhpnalchgkaaaHApart
namespace Go.Proofs.Ytklhpnalchgkaaa.Q
open Go.RowKit Go.Proofs.YtklhpnalchgkaaaW.PrintWords Go.Proofs.YtklhpnalchgkaaaW.PrintLast Go.Proofs.YtklhpnalchgkaaaW.PrintMore Go.Proofs.Ytklhpnalchgkaaa.Pure
attribute [local go_sem] max2_int min2_int max_two min_two max_three min_three max_four min_four
set_option linter.unusedVariables false
set_option linter.unusedSimpArgs false
/-- A slice of cells that reads as a list. -/
def CellsAt (w : World) (A : Option Addr) (xs : List CellV) : Prop :=
  xs.length * 68 ≤ 9223372036854775807 ∧ (0 < xs.length → ∃ ad, A = some ad ∧ ∀ (j : Nat) (x : CellV), xs[j]? = some x → ∀ (i : Nat) (v : Value), x.cellL[i]? = some v → w.cell? (ad.add (j * 68 + i)) = some v)
theorem CellsAt.below {w w1 : World} {A : Option Addr} {xs : List CellV} (h : CellsAt w A xs) (hb : Below w.heap.size w w1) : CellsAt w1 A xs :=
  ⟨h.1, fun h0 => by
    obtain ⟨ad, h1, h2⟩ := h.2 h0
    exact ⟨ad, h1, fun j x hj i v hv => pw_cell_below hb (h2 j x hj i v hv)⟩⟩
theorem add_add (ad : Addr) (a b : Nat) : (ad.add a).add b = ad.add (a + b) := by
  unfold Addr.add
  by_cases ha : a = 0 <;> by_cases hb : b = 0 <;> simp [ha, hb, Nat.add_assoc]
set_option maxHeartbeats 4000000 in
set_option maxRecDepth 100000 in
theorem CellKeeps.walk (w : World) (A0 : Option Addr) (c0 : Nat) (xs : List CellV) (hc : CellsAt w A0 xs) (hok : ∀ x ∈ xs, x.Ok) :
    Calls Try.prog 4 #[.slice A0 xs.length c0] w fun e w' => e = .returned (.bool true) ∧ Below w.heap.size w w' := by
  have HXS := Aside0.mk hc
  have HOK := Aside0.mk hok
  clear hc hok
  go_enter Try.func4, Try.ntmps4
  go_wp2_with (first | (go_at_call 7; (with_reducible refine (awake07.calls _).mono ?_); rintro e w3 ⟨rfl, hb⟩; have HB := Aside0.mk hb; clear hb) | (go_at_call 12; (with_reducible refine (keeper_New.calls _).mono ?_); rintro e w4 ⟨gkp, rfl, hg, hk, hb⟩; have HGK := Aside0.mk (Nat.le_trans HB.out.size hg); have HK := Aside0.mk hk; have n0_ := Aside0.mk (HB.out.trans (hb.mono HB.out.size)); clear hg hk hb HB; have HB := n0_; clear n0_) | ((with_reducible refine gate_dst (N := 6) rfl ?_); refine wl_alloc rfl 26 rfl _ zero_cell ?_; intro g6 hg w6 hblk hb hsz; have HG6 := Aside0.mk (show w.heap.size ≤ g6 by rw [hg]; exact HB.out.size); have HNE := Aside0.mk (show gkp ≠ g6 by have := blk_lt HK.out.blk; omega); have HN := Aside0.mk (show CellAt w6 g6 CellV.nought from hblk); have n0_ := Aside0.mk (show KeepAt w6 gkp CellV.nought 0 from blk_below HK.out.blk hb); have n1_ := Aside0.mk (HB.out.trans (hb.mono HB.out.size)); clear hg hblk hb hsz HB HK; have HB := n1_; have HK := n0_; clear n0_ n1_))
  go_loopg [7, 8] xs.length (fun gk v7 v8 w' => ∃ (i : Nat) (x : CellV) (n : Int), v8 = .int .i64 i ∧ v7 = .int .i64 n ∧ Aside0 (gk + i = xs.length) ∧ Aside0 (x.Ok) ∧ Aside0 (0 ≤ n ∧ n ≤ i ∧ i ≤ 100) ∧ Aside0 (KeepAt w' gkp x n) ∧ Aside0 (CellAt w' g6 x) ∧ Aside0 (Below w.heap.size w w'))
  case atStart => exact ⟨0, _, 0, rfl, rfl, ⟨by omega⟩, ⟨nought_ok⟩, ⟨by omega⟩, HK, HN, HB⟩
  case round =>
    clear HK HN HB
    obtain ⟨i, x, n, rfl, rfl, HI, HX, HNI, HK, HN, HB⟩ := hrel
    have hmx : (xs.length : Int) ≤ 9223372036854775807 := by have := HXS.out.1; omega
    have hni := HNI.out
    by_cases hgo : i < xs.length ∧ i < 100
    · have h1 : (i : Int) < (xs.length : Int) := by omega
      have h2 : (i : Int) < 100 := by omega
      have h1b : decide ((i : Int) < (xs.length : Int)) = true := decide_eq_true h1
      have h1n : decide (i < xs.length) = true := decide_eq_true hgo.1
      have h2b : decide ((i : Int) < 100) = true := decide_eq_true h2
      have HGO := Aside0.mk hgo
      obtain ⟨y, hy⟩ : ∃ y, xs[i]? = some y := ⟨_, List.getElem?_eq_getElem hgo.1⟩
      have hyo := HOK.out y (List.mem_of_getElem? hy)
      obtain ⟨ad, rfl, hcell⟩ := HXS.out.2 (by omega)
      have HY := Aside0.mk hyo
      have HCE := Aside0.mk (hcell i y hy)
      clear hgo hy hyo hcell
      have HLY := Aside0.mk (fun (w' : World) (hb : Below w.heap.size w w') (j : Nat) (v : Value) (hv : y.cellL[j]? = some v) => show w'.cell? ((ad.add (i * 68)).add j) = some v from by rw [add_add]; exact pw_cell_below hb (HCE.out j v hv))
      have HYZ := Aside0.mk (show (Try.prog.info? 26).map (·.size) = some y.cellL.length by rw [cellL_length HY.out]; exact info_cell)
      have HYC := Aside0.mk (show y.cellL[33]? = some (.int .u64 y.cnt) from by have := (y.at_num HY.out).2.1; simpa [CellV.cells] using this)
      clear HCE
      by_cases hcnt : x.cnt < y.cnt
      · have HCNT := Aside0.mk hcnt
        have hcb : decide (x.cnt < y.cnt) = true := decide_eq_true hcnt
        go_wp2_with (first | ((with_reducible refine gate_op (N := .load 26 (.tmp 27)) rfl ?_); refine wl_load_agg rfl _ _ rfl (ad.add (i * 68)) rfl y.cellL _ (HLY.out _ HB.out) Try.underlying26 rfl HYZ.out ?_; rw [show y.cellL.toArray = y.cells from rfl]) | (go_at_call 13; (with_reducible refine (keeper_Put.calls gkp x y n _ HX.out HY.out HK.out (by have := HNI.out; omega)).mono ?_); rintro e w4 ⟨_, h1⟩; obtain ⟨rfl, hk, hg⟩ := h1 HCNT.out; have n0_ := Aside0.mk (show KeepAt w4 gkp y (n + 1) from hk); have n1_ := Aside0.mk (show CellAt w4 g6 x from grown_blk hg HN.out.blk (fun e => HNE.out (by injection e with e; exact e.symm))); have n2_ := Aside0.mk (show Below w.heap.size w w4 from grown_below HB.out hg HB.out.size HGK.out); clear h1 hk hg HK HN HB; have HK := n0_; have HN := n1_; have HB := n2_; clear n0_ n1_ n2_))
        refine mono_region (T := _) (B := [0, 0, 3, 7, 15, 0, 32, 127]) (n := 8) [(0, 30, VP.is (Value.slice (some ad) xs.length c0)), (1, 31, VP.is (Value.int .i64 i)), (2, 32, VP.is (Value.pointer (some (ad.add (i * 68))))), (3, 33, VP.is (Value.pointer (some ((ad.add (i * 68)).add 33)))), (4, 34, VP.is (Value.int .u64 y.cnt)), (5, 35, VP.is (Value.pointer (some ⟨g6, 33, none⟩))), (6, 36, VP.is (Value.int .u64 x.cnt)), (7, 37, VP.is (Value.bool (decide (x.cnt < y.cnt))))] rfl (by kernel_rfl) (by kernel_rfl) rfl (by kernel_rfl) (by kernel_rfl) (by kernel_rfl) (by kernel_rfl) (by kernel_rfl) ?_ ?_
        · refine ms_cons ?_ <| ms_cons ?_ <| ms_cons ?_ <| ms_cons ?_ <| ms_cons ?_ <| ms_cons ?_ <| ms_cons ?_ <| ms_cons ?_ <| ms_nil
          · intro act_ w' H
            have e0 := H.tmp (t := 0) rfl (by kernel_rfl)
            have ev0 := eval_of e0
            refine ms_val rfl rfl rfl (Value.slice (some ad) xs.length c0) w' ?_ (Below.refl _ _) rfl
            · go_simp
              try rfl
          · intro act_ w' H
            have e8 := H.tmp (t := 8) rfl (by kernel_rfl)
            have ev8 := eval_of e8
            refine ms_val rfl rfl rfl (Value.int .i64 i) w' ?_ (Below.refl _ _) rfl
            · go_simp
              try rfl
          · intro act_ w' H
            obtain ⟨_, e30, rfl⟩ := H.on 0 rfl (by kernel_rfl)
            have ev30 := eval_of e30
            obtain ⟨_, e31, rfl⟩ := H.on 1 rfl (by kernel_rfl)
            have ev31 := eval_of e31
            refine ms_val rfl rfl rfl (Value.pointer (some (ad.add (i * 68)))) w' ?_ (Below.refl _ _) rfl
            go_simp
          · intro act_ w' H
            obtain ⟨_, e32, rfl⟩ := H.on 2 rfl (by kernel_rfl)
            have ev32 := eval_of e32
            refine ms_val rfl rfl rfl (Value.pointer (some ((ad.add (i * 68)).add 33))) w' ?_ (Below.refl _ _) rfl
            · go_simp
              try rfl
          · intro act_ w' H
            obtain ⟨_, e33, rfl⟩ := H.on 3 rfl (by kernel_rfl)
            have ev33 := eval_of e33
            refine ms_val rfl rfl rfl (Value.int .u64 y.cnt) w' ?_ (Below.refl _ _) rfl
            exact ex_load_cell w' _ _ rfl _ ev33 _ (HLY.out w' (HB.out.trans (H.below.mono HB.out.size)) 33 _ HYC.out) _ Try.underlying24 rfl
          · intro act_ w' H
            have e6 := H.tmp (t := 6) rfl (by kernel_rfl)
            have ev6 := eval_of e6
            refine ms_val rfl rfl rfl (Value.pointer (some ⟨g6, 33, none⟩)) w' ?_ (Below.refl _ _) rfl
            · go_simp
              try rfl
          · intro act_ w' H
            obtain ⟨_, e35, rfl⟩ := H.on 5 rfl (by kernel_rfl)
            have ev35 := eval_of e35
            have hq := (CellAt.nums (show CellAt w' g6 x from blk_below HN.out.blk H.below) HX.out).2.1
            refine ms_val rfl rfl rfl (Value.int .u64 x.cnt) w' ?_ (Below.refl _ _) rfl
            · go_simp
              try rfl
          · intro act_ w' H
            obtain ⟨_, e34, rfl⟩ := H.on 4 rfl (by kernel_rfl)
            have ev34 := eval_of e34
            obtain ⟨_, e36, rfl⟩ := H.on 6 rfl (by kernel_rfl)
            have ev36 := eval_of e36
            refine ms_val rfl rfl rfl (Value.bool (decide (x.cnt < y.cnt))) w' ?_ (Below.refl _ _) rfl
            · go_simp
              try rfl
        intro w5 hb5
        rintro _ rfl _ rfl _ rfl _ rfl _ rfl _ rfl _ rfl _ rfl
        simp only [Ends, Act.put, List.setIfInBounds_toArray, List.set_cons_zero, List.set_cons_succ]
        have n0_ := Aside0.mk (show KeepAt w5 gkp y (n + 1) from blk_below HK.out.blk hb5)
        have n1_ := Aside0.mk (show CellAt w5 g6 x from blk_below HN.out.blk hb5)
        have n2_ := Aside0.mk (HB.out.trans (hb5.mono HB.out.size))
        clear hb5 HK HN HB
        have HK := n0_
        have HN := n1_
        have HB := n2_
        clear n0_ n1_ n2_
        go_wp2_with (first | ((with_reducible refine gate_op (N := .load 26 (.tmp 40)) rfl ?_); refine wl_load_agg rfl _ _ rfl (ad.add (i * 68)) rfl y.cellL _ (HLY.out _ HB.out) Try.underlying26 rfl HYZ.out ?_; rw [show y.cellL.toArray = y.cells from rfl]) | ((with_reducible refine gate_store (t := 26) (p := 6) rfl ?_); refine wl_store_all rfl rfl 26 _ _ rfl g6 rfl _ _ HN.out.blk (.agg y.cells) rfl ?side1 CellV.one ?side2 ?_; (case side1 => show y.cells.size = x.cells.size; rw [y.size HY.out, x.size HX.out]); (case side2 => show _ = some y.cells.size; rw [y.size HY.out]; exact info_cell); intro w6 hk6 hg6 hs6; have n0_ := Aside0.mk (show KeepAt w6 gkp y (n + 1) from grown_blk hg6 HK.out.blk (fun e => HNE.out (by injection e))); have n1_ := Aside0.mk (show CellAt w6 g6 y from hk6); have n2_ := Aside0.mk (show Below w.heap.size w w6 from grown_below HB.out hg6 HB.out.size HG6.out); clear hk6 hg6 hs6 HK HN HB; have HK := n0_; have HN := n1_; have HB := n2_; clear n0_ n1_ n2_))
        refine mono_region (T := _) (B := [0, 1, 0, 7, 15, 31, 63, 31, 255, 511, 1023, 2047, 2047, 2047, 14335, 30719, 65535, 131071, 262143]) (n := 19) [(0, 48, VP.is (Value.pointer (some ⟨gkp, 0, none⟩))), (1, 49, VP.is (Value.agg y.cells)), (2, 50, VP.is (Value.agg y.cells)), (3, 51, VP.is (Value.bool false)), (4, 52, VP.is (Value.bool false)), (5, 53, VP.is (Value.pointer (some ⟨gkp, 0, none⟩))), (6, 54, VP.is (Value.int .i64 (n + 1))), (7, 55, VP.is (Value.int .i64 (n + 1))), (8, 56, VP.is (Value.bool false)), (9, 57, VP.is (Value.bool false)), (10, 58, VP.is (Value.bool false)), (11, 59, VP.is (Value.pointer none)), (12, 60, VP.is (Value.slice (some ad) xs.length c0)), (13, 61, VP.is (Value.int .i64 i)), (14, 62, VP.is (Value.pointer (some (ad.add (i * 68))))), (15, 63, VP.is (Value.agg y.cells)), (16, 64, VP.is (Value.int .i64 1)), (17, 65, VP.is (Value.bool false)), (18, 66, VP.is (Value.bool false))] rfl (by kernel_rfl) (by kernel_rfl) rfl (by kernel_rfl) (by kernel_rfl) (by kernel_rfl) (by kernel_rfl) (by kernel_rfl) ?_ ?_
        · refine ms_cons ?_ <| ms_cons ?_ <| ms_cons ?_ <| ms_cons ?_ <| ms_cons ?_ <| ms_cons ?_ <| ms_cons ?_ <| ms_cons ?_ <| ms_cons ?_ <| ms_cons ?_ <| ms_cons ?_ <| ms_cons ?_ <| ms_cons ?_ <| ms_cons ?_ <| ms_cons ?_ <| ms_cons ?_ <| ms_cons ?_ <| ms_cons ?_ <| ms_cons ?_ <| ms_nil
          · intro act_ w' H
            have e5 := H.tmp (t := 5) rfl (by kernel_rfl)
            have ev5 := eval_of e5
            refine ms_val rfl rfl rfl (Value.pointer (some ⟨gkp, 0, none⟩)) w' ?_ (Below.refl _ _) rfl
            · go_simp
              try rfl
          · intro act_ w' H
            obtain ⟨_, e48, rfl⟩ := H.on 0 rfl (by kernel_rfl)
            have ev48 := eval_of e48
            exact ms_call rfl rfl rfl Try.func14 (by kernel_rfl) rfl #[.pointer (some ⟨gkp, 0, none⟩)] rfl (by simp [ev48]) ((keeper_Get.calls gkp y (n + 1) w' HY.out (blk_below HK.out.blk H.below)).mono fun e w1 ⟨he, hb⟩ => ⟨_, he, hb, rfl⟩)
          · intro act_ w' H
            have e6 := H.tmp (t := 6) rfl (by kernel_rfl)
            have ev6 := eval_of e6
            refine ms_val rfl rfl rfl (Value.agg y.cells) w' ?_ (Below.refl _ _) rfl
            exact ex_load_blk w' _ _ rfl g6 ev6 y.cells _ _ (blk_below HN.out.blk H.below) Try.underlying26 rfl (by rw [CellV.size HY.out]; exact info_cell)
          · intro act_ w' H
            obtain ⟨_, e49, rfl⟩ := H.on 1 rfl (by kernel_rfl)
            have ev49 := eval_of e49
            obtain ⟨_, e50, rfl⟩ := H.on 2 rfl (by kernel_rfl)
            have ev50 := eval_of e50
            refine ms_val rfl rfl rfl (Value.bool false) w' ?_ (Below.refl _ _) rfl
            exact ex_binop w' _ _ _ _ _ rfl _ _ ev49 ev50 (guard_cell _ _ _ _ _ w') _ (by rw [neq_cells HY.out HY.out w', (CellV.same_iff y y).2 rfl]; rfl)
          · intro act_ w' H
            obtain ⟨_, e51, rfl⟩ := H.on 3 rfl (by kernel_rfl)
            have ev51 := eval_of e51
            refine ms_val rfl rfl rfl (Value.bool false) w' ?_ (Below.refl _ _) rfl
            · go_simp
              try rfl
          · intro act_ w' H
            have e5 := H.tmp (t := 5) rfl (by kernel_rfl)
            have ev5 := eval_of e5
            obtain ⟨_, e52, rfl⟩ := H.on 4 rfl (by kernel_rfl)
            have ev52 := eval_of e52
            refine ms_val rfl rfl (wanted_on rfl rfl rfl e52) (Value.pointer (some ⟨gkp, 0, none⟩)) w' ?_ (Below.refl _ _) rfl
            · go_simp
              try rfl
          · intro act_ w' H
            obtain ⟨_, e53, rfl⟩ := H.on 5 rfl (by kernel_rfl)
            have ev53 := eval_of e53
            obtain ⟨_, e52, rfl⟩ := H.on 4 rfl (by kernel_rfl)
            have ev52 := eval_of e52
            exact ms_call rfl rfl (wanted_on rfl rfl rfl e52) Try.func15 (by kernel_rfl) rfl #[.pointer (some ⟨gkp, 0, none⟩)] rfl (by simp [ev53]) ((keeper_Times.calls gkp y (n + 1) w' HY.out (blk_below HK.out.blk H.below)).mono fun e w1 ⟨he, hw⟩ => ⟨_, he, hw ▸ Below.refl _ _, rfl⟩)
          · intro act_ w' H
            have e7 := H.tmp (t := 7) rfl (by kernel_rfl)
            have ev7 := eval_of e7
            obtain ⟨_, e52, rfl⟩ := H.on 4 rfl (by kernel_rfl)
            have ev52 := eval_of e52
            refine ms_val rfl rfl (wanted_on rfl rfl rfl e52) (Value.int .i64 (n + 1)) w' ?_ (Below.refl _ _) rfl
            · go_simp
              try rfl
          · intro act_ w' H
            obtain ⟨_, e54, rfl⟩ := H.on 6 rfl (by kernel_rfl)
            have ev54 := eval_of e54
            obtain ⟨_, e55, rfl⟩ := H.on 7 rfl (by kernel_rfl)
            have ev55 := eval_of e55
            obtain ⟨_, e52, rfl⟩ := H.on 4 rfl (by kernel_rfl)
            have ev52 := eval_of e52
            refine ms_val rfl rfl (wanted_on rfl rfl rfl e52) (Value.bool false) w' ?_ (Below.refl _ _) rfl
            · go_simp
              try rfl
          · intro act_ w' H
            obtain ⟨_, e52, rfl⟩ := H.on 4 rfl (by kernel_rfl)
            have ev52 := eval_of e52
            obtain ⟨_, e56, rfl⟩ := H.on 8 rfl (by kernel_rfl)
            have ev56 := eval_of e56
            refine ms_val rfl rfl rfl (Value.bool false) w' ?_ (Below.refl _ _) rfl
            · go_simp
              try rfl
          · intro act_ w' H
            obtain ⟨_, e57, rfl⟩ := H.on 9 rfl (by kernel_rfl)
            have ev57 := eval_of e57
            refine ms_val rfl rfl rfl (Value.bool false) w' ?_ (Below.refl _ _) rfl
            · go_simp
              try rfl
          · intro act_ w' H
            have e4 := H.tmp (t := 4) rfl (by kernel_rfl)
            have ev4 := eval_of e4
            obtain ⟨_, e58, rfl⟩ := H.on 10 rfl (by kernel_rfl)
            have ev58 := eval_of e58
            refine ms_val rfl rfl (wanted_on rfl rfl rfl e58) (Value.pointer none) w' ?_ (Below.refl _ _) rfl
            · go_simp
              try rfl
          · intro act_ w' H
            have e0 := H.tmp (t := 0) rfl (by kernel_rfl)
            have ev0 := eval_of e0
            obtain ⟨_, e58, rfl⟩ := H.on 10 rfl (by kernel_rfl)
            have ev58 := eval_of e58
            refine ms_val rfl rfl (wanted_on rfl rfl rfl e58) (Value.slice (some ad) xs.length c0) w' ?_ (Below.refl _ _) rfl
            · go_simp
              try rfl
          · intro act_ w' H
            have e8 := H.tmp (t := 8) rfl (by kernel_rfl)
            have ev8 := eval_of e8
            obtain ⟨_, e58, rfl⟩ := H.on 10 rfl (by kernel_rfl)
            have ev58 := eval_of e58
            refine ms_val rfl rfl (wanted_on rfl rfl rfl e58) (Value.int .i64 i) w' ?_ (Below.refl _ _) rfl
            · go_simp
              try rfl
          · intro act_ w' H
            obtain ⟨_, e60, rfl⟩ := H.on 12 rfl (by kernel_rfl)
            have ev60 := eval_of e60
            obtain ⟨_, e61, rfl⟩ := H.on 13 rfl (by kernel_rfl)
            have ev61 := eval_of e61
            obtain ⟨_, e58, rfl⟩ := H.on 10 rfl (by kernel_rfl)
            have ev58 := eval_of e58
            refine ms_val rfl rfl (wanted_on rfl rfl rfl e58) (Value.pointer (some (ad.add (i * 68)))) w' ?_ (Below.refl _ _) rfl
            go_simp
          · intro act_ w' H
            obtain ⟨_, e62, rfl⟩ := H.on 14 rfl (by kernel_rfl)
            have ev62 := eval_of e62
            obtain ⟨_, e58, rfl⟩ := H.on 10 rfl (by kernel_rfl)
            have ev58 := eval_of e58
            refine ms_val rfl rfl (wanted_on rfl rfl rfl e58) (Value.agg y.cells) w' ?_ (Below.refl _ _) rfl
            exact ex_load_agg w' _ _ rfl _ ev62 y.cellL _ (HLY.out w' (HB.out.trans (H.below.mono HB.out.size))) Try.underlying26 rfl HYZ.out
          · intro act_ w' H
            obtain ⟨_, e59, rfl⟩ := H.on 11 rfl (by kernel_rfl)
            have ev59 := eval_of e59
            obtain ⟨_, e63, rfl⟩ := H.on 15 rfl (by kernel_rfl)
            have ev63 := eval_of e63
            obtain ⟨_, e58, rfl⟩ := H.on 10 rfl (by kernel_rfl)
            have ev58 := eval_of e58
            exact ms_call rfl rfl (wanted_on rfl rfl rfl e58) Try.func13 (by kernel_rfl) rfl #[.pointer none, .agg y.cells] rfl (by simp [ev59, ev63]) ((keeper_Put_nil y w').mono fun e w1 ⟨he, hb⟩ => ⟨_, he, hb, rfl⟩)
          · intro act_ w' H
            obtain ⟨_, e64, rfl⟩ := H.on 16 rfl (by kernel_rfl)
            have ev64 := eval_of e64
            obtain ⟨_, e58, rfl⟩ := H.on 10 rfl (by kernel_rfl)
            have ev58 := eval_of e58
            refine ms_val rfl rfl (wanted_on rfl rfl rfl e58) (Value.bool false) w' ?_ (Below.refl _ _) rfl
            · go_simp
              try rfl
          · intro act_ w' H
            obtain ⟨_, e58, rfl⟩ := H.on 10 rfl (by kernel_rfl)
            have ev58 := eval_of e58
            obtain ⟨_, e65, rfl⟩ := H.on 17 rfl (by kernel_rfl)
            have ev65 := eval_of e65
            refine ms_val rfl rfl rfl (Value.bool false) w' ?_ (Below.refl _ _) rfl
            · go_simp
              try rfl
        intro w7 hb7
        rintro _ rfl _ rfl _ rfl _ rfl _ rfl _ rfl _ rfl _ rfl _ rfl _ rfl _ rfl _ rfl _ rfl _ rfl _ rfl _ rfl _ rfl _ rfl _ rfl
        simp only [Ends, Act.put, List.setIfInBounds_toArray, List.set_cons_zero, List.set_cons_succ]
        have n0_ := Aside0.mk (show KeepAt w7 gkp y (n + 1) from blk_below HK.out.blk hb7)
        have n1_ := Aside0.mk (show CellAt w7 g6 y from blk_below HN.out.blk hb7)
        have n2_ := Aside0.mk (HB.out.trans (hb7.mono HB.out.size))
        clear hb7 HK HN HB
        have HK := n0_
        have HN := n1_
        have HB := n2_
        clear n0_ n1_ n2_
        go_wp2
        go_roundg (gk - 1)
        case measure => have := HI.out; have := HGO.out; omega
        case rel => exact ⟨i + 1, y, (n + 1), by go_num, by go_num, ⟨by have := HI.out; have := HGO.out; omega⟩, HY, ⟨by have := HNI.out; have := HGO.out; omega⟩, HK, HN, HB⟩
      · have hcnt := Int.not_lt.1 hcnt
        have HCNT := Aside0.mk hcnt
        have hcb : decide (x.cnt < y.cnt) = false := decide_eq_false (by omega)
        go_wp2_with (first | ((with_reducible refine gate_op (N := .load 26 (.tmp 27)) rfl ?_); refine wl_load_agg rfl _ _ rfl (ad.add (i * 68)) rfl y.cellL _ (HLY.out _ HB.out) Try.underlying26 rfl HYZ.out ?_; rw [show y.cellL.toArray = y.cells from rfl]) | (go_at_call 13; (with_reducible refine (keeper_Put.calls gkp x y n _ HX.out HY.out HK.out (by have := HNI.out; omega)).mono ?_); rintro e w4 ⟨h1, _⟩; obtain ⟨rfl, hb⟩ := h1 HCNT.out; have n0_ := Aside0.mk (show KeepAt w4 gkp x n from blk_below HK.out.blk hb); have n1_ := Aside0.mk (show CellAt w4 g6 x from blk_below HN.out.blk hb); have n2_ := Aside0.mk (HB.out.trans (hb.mono HB.out.size)); clear h1 hb HK HN HB; have HK := n0_; have HN := n1_; have HB := n2_; clear n0_ n1_ n2_))
        refine mono_region (T := _) (B := [0, 0, 3, 7, 15, 0, 32, 127]) (n := 8) [(0, 30, VP.is (Value.slice (some ad) xs.length c0)), (1, 31, VP.is (Value.int .i64 i)), (2, 32, VP.is (Value.pointer (some (ad.add (i * 68))))), (3, 33, VP.is (Value.pointer (some ((ad.add (i * 68)).add 33)))), (4, 34, VP.is (Value.int .u64 y.cnt)), (5, 35, VP.is (Value.pointer (some ⟨g6, 33, none⟩))), (6, 36, VP.is (Value.int .u64 x.cnt)), (7, 37, VP.is (Value.bool (decide (x.cnt < y.cnt))))] rfl (by kernel_rfl) (by kernel_rfl) rfl (by kernel_rfl) (by kernel_rfl) (by kernel_rfl) (by kernel_rfl) (by kernel_rfl) ?_ ?_
        · refine ms_cons ?_ <| ms_cons ?_ <| ms_cons ?_ <| ms_cons ?_ <| ms_cons ?_ <| ms_cons ?_ <| ms_cons ?_ <| ms_cons ?_ <| ms_nil
          · intro act_ w' H
            have e0 := H.tmp (t := 0) rfl (by kernel_rfl)
            have ev0 := eval_of e0
            refine ms_val rfl rfl rfl (Value.slice (some ad) xs.length c0) w' ?_ (Below.refl _ _) rfl
            · go_simp
              try rfl
          · intro act_ w' H
            have e8 := H.tmp (t := 8) rfl (by kernel_rfl)
            have ev8 := eval_of e8
            refine ms_val rfl rfl rfl (Value.int .i64 i) w' ?_ (Below.refl _ _) rfl
            · go_simp
              try rfl
          · intro act_ w' H
            obtain ⟨_, e30, rfl⟩ := H.on 0 rfl (by kernel_rfl)
            have ev30 := eval_of e30
            obtain ⟨_, e31, rfl⟩ := H.on 1 rfl (by kernel_rfl)
            have ev31 := eval_of e31
            refine ms_val rfl rfl rfl (Value.pointer (some (ad.add (i * 68)))) w' ?_ (Below.refl _ _) rfl
            go_simp
          · intro act_ w' H
            obtain ⟨_, e32, rfl⟩ := H.on 2 rfl (by kernel_rfl)
            have ev32 := eval_of e32
            refine ms_val rfl rfl rfl (Value.pointer (some ((ad.add (i * 68)).add 33))) w' ?_ (Below.refl _ _) rfl
            · go_simp
              try rfl
          · intro act_ w' H
            obtain ⟨_, e33, rfl⟩ := H.on 3 rfl (by kernel_rfl)
            have ev33 := eval_of e33
            refine ms_val rfl rfl rfl (Value.int .u64 y.cnt) w' ?_ (Below.refl _ _) rfl
            exact ex_load_cell w' _ _ rfl _ ev33 _ (HLY.out w' (HB.out.trans (H.below.mono HB.out.size)) 33 _ HYC.out) _ Try.underlying24 rfl
          · intro act_ w' H
            have e6 := H.tmp (t := 6) rfl (by kernel_rfl)
            have ev6 := eval_of e6
            refine ms_val rfl rfl rfl (Value.pointer (some ⟨g6, 33, none⟩)) w' ?_ (Below.refl _ _) rfl
            · go_simp
              try rfl
          · intro act_ w' H
            obtain ⟨_, e35, rfl⟩ := H.on 5 rfl (by kernel_rfl)
            have ev35 := eval_of e35
            have hq := (CellAt.nums (show CellAt w' g6 x from blk_below HN.out.blk H.below) HX.out).2.1
            refine ms_val rfl rfl rfl (Value.int .u64 x.cnt) w' ?_ (Below.refl _ _) rfl
            · go_simp
              try rfl
          · intro act_ w' H
            obtain ⟨_, e34, rfl⟩ := H.on 4 rfl (by kernel_rfl)
            have ev34 := eval_of e34
            obtain ⟨_, e36, rfl⟩ := H.on 6 rfl (by kernel_rfl)
            have ev36 := eval_of e36
            refine ms_val rfl rfl rfl (Value.bool (decide (x.cnt < y.cnt))) w' ?_ (Below.refl _ _) rfl
            · go_simp
              try rfl
        intro w5 hb5
        rintro _ rfl _ rfl _ rfl _ rfl _ rfl _ rfl _ rfl _ rfl
        simp only [Ends, Act.put, List.setIfInBounds_toArray, List.set_cons_zero, List.set_cons_succ]
        have n0_ := Aside0.mk (show KeepAt w5 gkp x n from blk_below HK.out.blk hb5)
        have n1_ := Aside0.mk (show CellAt w5 g6 x from blk_below HN.out.blk hb5)
        have n2_ := Aside0.mk (HB.out.trans (hb5.mono HB.out.size))
        clear hb5 HK HN HB
        have HK := n0_
        have HN := n1_
        have HB := n2_
        clear n0_ n1_ n2_
        go_wp2
        refine mono_region (T := _) (B := [0, 1, 0, 7, 15, 31, 63, 31, 255, 511, 1023, 2047, 2047, 2047, 14335, 30719, 65535, 131071, 262143]) (n := 19) [(0, 48, VP.is (Value.pointer (some ⟨gkp, 0, none⟩))), (1, 49, VP.is (Value.agg x.cells)), (2, 50, VP.is (Value.agg x.cells)), (3, 51, VP.is (Value.bool false)), (4, 52, VP.is (Value.bool false)), (5, 53, VP.is (Value.pointer (some ⟨gkp, 0, none⟩))), (6, 54, VP.is (Value.int .i64 n)), (7, 55, VP.is (Value.int .i64 n)), (8, 56, VP.is (Value.bool false)), (9, 57, VP.is (Value.bool false)), (10, 58, VP.is (Value.bool false)), (11, 59, VP.is (Value.pointer none)), (12, 60, VP.is (Value.slice (some ad) xs.length c0)), (13, 61, VP.is (Value.int .i64 i)), (14, 62, VP.is (Value.pointer (some (ad.add (i * 68))))), (15, 63, VP.is (Value.agg y.cells)), (16, 64, VP.is (Value.int .i64 1)), (17, 65, VP.is (Value.bool false)), (18, 66, VP.is (Value.bool false))] rfl (by kernel_rfl) (by kernel_rfl) rfl (by kernel_rfl) (by kernel_rfl) (by kernel_rfl) (by kernel_rfl) (by kernel_rfl) ?_ ?_
        · refine ms_cons ?_ <| ms_cons ?_ <| ms_cons ?_ <| ms_cons ?_ <| ms_cons ?_ <| ms_cons ?_ <| ms_cons ?_ <| ms_cons ?_ <| ms_cons ?_ <| ms_cons ?_ <| ms_cons ?_ <| ms_cons ?_ <| ms_cons ?_ <| ms_cons ?_ <| ms_cons ?_ <| ms_cons ?_ <| ms_cons ?_ <| ms_cons ?_ <| ms_cons ?_ <| ms_nil
          · intro act_ w' H
            have e5 := H.tmp (t := 5) rfl (by kernel_rfl)
            have ev5 := eval_of e5
            refine ms_val rfl rfl rfl (Value.pointer (some ⟨gkp, 0, none⟩)) w' ?_ (Below.refl _ _) rfl
            · go_simp
              try rfl
          · intro act_ w' H
            obtain ⟨_, e48, rfl⟩ := H.on 0 rfl (by kernel_rfl)
            have ev48 := eval_of e48
            exact ms_call rfl rfl rfl Try.func14 (by kernel_rfl) rfl #[.pointer (some ⟨gkp, 0, none⟩)] rfl (by simp [ev48]) ((keeper_Get.calls gkp x n w' HX.out (blk_below HK.out.blk H.below)).mono fun e w1 ⟨he, hb⟩ => ⟨_, he, hb, rfl⟩)
          · intro act_ w' H
            have e6 := H.tmp (t := 6) rfl (by kernel_rfl)
            have ev6 := eval_of e6
            refine ms_val rfl rfl rfl (Value.agg x.cells) w' ?_ (Below.refl _ _) rfl
            exact ex_load_blk w' _ _ rfl g6 ev6 x.cells _ _ (blk_below HN.out.blk H.below) Try.underlying26 rfl (by rw [CellV.size HX.out]; exact info_cell)
          · intro act_ w' H
            obtain ⟨_, e49, rfl⟩ := H.on 1 rfl (by kernel_rfl)
            have ev49 := eval_of e49
            obtain ⟨_, e50, rfl⟩ := H.on 2 rfl (by kernel_rfl)
            have ev50 := eval_of e50
            refine ms_val rfl rfl rfl (Value.bool false) w' ?_ (Below.refl _ _) rfl
            exact ex_binop w' _ _ _ _ _ rfl _ _ ev49 ev50 (guard_cell _ _ _ _ _ w') _ (by rw [neq_cells HX.out HX.out w', (CellV.same_iff x x).2 rfl]; rfl)
          · intro act_ w' H
            obtain ⟨_, e51, rfl⟩ := H.on 3 rfl (by kernel_rfl)
            have ev51 := eval_of e51
            refine ms_val rfl rfl rfl (Value.bool false) w' ?_ (Below.refl _ _) rfl
            · go_simp
              try rfl
          · intro act_ w' H
            have e5 := H.tmp (t := 5) rfl (by kernel_rfl)
            have ev5 := eval_of e5
            obtain ⟨_, e52, rfl⟩ := H.on 4 rfl (by kernel_rfl)
            have ev52 := eval_of e52
            refine ms_val rfl rfl (wanted_on rfl rfl rfl e52) (Value.pointer (some ⟨gkp, 0, none⟩)) w' ?_ (Below.refl _ _) rfl
            · go_simp
              try rfl
          · intro act_ w' H
            obtain ⟨_, e53, rfl⟩ := H.on 5 rfl (by kernel_rfl)
            have ev53 := eval_of e53
            obtain ⟨_, e52, rfl⟩ := H.on 4 rfl (by kernel_rfl)
            have ev52 := eval_of e52
            exact ms_call rfl rfl (wanted_on rfl rfl rfl e52) Try.func15 (by kernel_rfl) rfl #[.pointer (some ⟨gkp, 0, none⟩)] rfl (by simp [ev53]) ((keeper_Times.calls gkp x n w' HX.out (blk_below HK.out.blk H.below)).mono fun e w1 ⟨he, hw⟩ => ⟨_, he, hw ▸ Below.refl _ _, rfl⟩)
          · intro act_ w' H
            have e7 := H.tmp (t := 7) rfl (by kernel_rfl)
            have ev7 := eval_of e7
            obtain ⟨_, e52, rfl⟩ := H.on 4 rfl (by kernel_rfl)
            have ev52 := eval_of e52
            refine ms_val rfl rfl (wanted_on rfl rfl rfl e52) (Value.int .i64 n) w' ?_ (Below.refl _ _) rfl
            · go_simp
              try rfl
          · intro act_ w' H
            obtain ⟨_, e54, rfl⟩ := H.on 6 rfl (by kernel_rfl)
            have ev54 := eval_of e54
            obtain ⟨_, e55, rfl⟩ := H.on 7 rfl (by kernel_rfl)
            have ev55 := eval_of e55
            obtain ⟨_, e52, rfl⟩ := H.on 4 rfl (by kernel_rfl)
            have ev52 := eval_of e52
            refine ms_val rfl rfl (wanted_on rfl rfl rfl e52) (Value.bool false) w' ?_ (Below.refl _ _) rfl
            · go_simp
              try rfl
          · intro act_ w' H
            obtain ⟨_, e52, rfl⟩ := H.on 4 rfl (by kernel_rfl)
            have ev52 := eval_of e52
            obtain ⟨_, e56, rfl⟩ := H.on 8 rfl (by kernel_rfl)
            have ev56 := eval_of e56
            refine ms_val rfl rfl rfl (Value.bool false) w' ?_ (Below.refl _ _) rfl
            · go_simp
              try rfl
          · intro act_ w' H
            obtain ⟨_, e57, rfl⟩ := H.on 9 rfl (by kernel_rfl)
            have ev57 := eval_of e57
            refine ms_val rfl rfl rfl (Value.bool false) w' ?_ (Below.refl _ _) rfl
            · go_simp
              try rfl
          · intro act_ w' H
            have e4 := H.tmp (t := 4) rfl (by kernel_rfl)
            have ev4 := eval_of e4
            obtain ⟨_, e58, rfl⟩ := H.on 10 rfl (by kernel_rfl)
            have ev58 := eval_of e58
            refine ms_val rfl rfl (wanted_on rfl rfl rfl e58) (Value.pointer none) w' ?_ (Below.refl _ _) rfl
            · go_simp
              try rfl
          · intro act_ w' H
            have e0 := H.tmp (t := 0) rfl (by kernel_rfl)
            have ev0 := eval_of e0
            obtain ⟨_, e58, rfl⟩ := H.on 10 rfl (by kernel_rfl)
            have ev58 := eval_of e58
            refine ms_val rfl rfl (wanted_on rfl rfl rfl e58) (Value.slice (some ad) xs.length c0) w' ?_ (Below.refl _ _) rfl
            · go_simp
              try rfl
          · intro act_ w' H
            have e8 := H.tmp (t := 8) rfl (by kernel_rfl)
            have ev8 := eval_of e8
            obtain ⟨_, e58, rfl⟩ := H.on 10 rfl (by kernel_rfl)
            have ev58 := eval_of e58
            refine ms_val rfl rfl (wanted_on rfl rfl rfl e58) (Value.int .i64 i) w' ?_ (Below.refl _ _) rfl
            · go_simp
              try rfl
          · intro act_ w' H
            obtain ⟨_, e60, rfl⟩ := H.on 12 rfl (by kernel_rfl)
            have ev60 := eval_of e60
            obtain ⟨_, e61, rfl⟩ := H.on 13 rfl (by kernel_rfl)
            have ev61 := eval_of e61
            obtain ⟨_, e58, rfl⟩ := H.on 10 rfl (by kernel_rfl)
            have ev58 := eval_of e58
            refine ms_val rfl rfl (wanted_on rfl rfl rfl e58) (Value.pointer (some (ad.add (i * 68)))) w' ?_ (Below.refl _ _) rfl
            go_simp
          · intro act_ w' H
            obtain ⟨_, e62, rfl⟩ := H.on 14 rfl (by kernel_rfl)
            have ev62 := eval_of e62
            obtain ⟨_, e58, rfl⟩ := H.on 10 rfl (by kernel_rfl)
            have ev58 := eval_of e58
            refine ms_val rfl rfl (wanted_on rfl rfl rfl e58) (Value.agg y.cells) w' ?_ (Below.refl _ _) rfl
            exact ex_load_agg w' _ _ rfl _ ev62 y.cellL _ (HLY.out w' (HB.out.trans (H.below.mono HB.out.size))) Try.underlying26 rfl HYZ.out
          · intro act_ w' H
            obtain ⟨_, e59, rfl⟩ := H.on 11 rfl (by kernel_rfl)
            have ev59 := eval_of e59
            obtain ⟨_, e63, rfl⟩ := H.on 15 rfl (by kernel_rfl)
            have ev63 := eval_of e63
            obtain ⟨_, e58, rfl⟩ := H.on 10 rfl (by kernel_rfl)
            have ev58 := eval_of e58
            exact ms_call rfl rfl (wanted_on rfl rfl rfl e58) Try.func13 (by kernel_rfl) rfl #[.pointer none, .agg y.cells] rfl (by simp [ev59, ev63]) ((keeper_Put_nil y w').mono fun e w1 ⟨he, hb⟩ => ⟨_, he, hb, rfl⟩)
          · intro act_ w' H
            obtain ⟨_, e64, rfl⟩ := H.on 16 rfl (by kernel_rfl)
            have ev64 := eval_of e64
            obtain ⟨_, e58, rfl⟩ := H.on 10 rfl (by kernel_rfl)
            have ev58 := eval_of e58
            refine ms_val rfl rfl (wanted_on rfl rfl rfl e58) (Value.bool false) w' ?_ (Below.refl _ _) rfl
            · go_simp
              try rfl
          · intro act_ w' H
            obtain ⟨_, e58, rfl⟩ := H.on 10 rfl (by kernel_rfl)
            have ev58 := eval_of e58
            obtain ⟨_, e65, rfl⟩ := H.on 17 rfl (by kernel_rfl)
            have ev65 := eval_of e65
            refine ms_val rfl rfl rfl (Value.bool false) w' ?_ (Below.refl _ _) rfl
            · go_simp
              try rfl
        intro w7 hb7
        rintro _ rfl _ rfl _ rfl _ rfl _ rfl _ rfl _ rfl _ rfl _ rfl _ rfl _ rfl _ rfl _ rfl _ rfl _ rfl _ rfl _ rfl _ rfl _ rfl
        simp only [Ends, Act.put, List.setIfInBounds_toArray, List.set_cons_zero, List.set_cons_succ]
        have n0_ := Aside0.mk (show KeepAt w7 gkp x n from blk_below HK.out.blk hb7)
        have n1_ := Aside0.mk (show CellAt w7 g6 x from blk_below HN.out.blk hb7)
        have n2_ := Aside0.mk (HB.out.trans (hb7.mono HB.out.size))
        clear hb7 HK HN HB
        have HK := n0_
        have HN := n1_
        have HB := n2_
        clear n0_ n1_ n2_
        go_wp2
        go_roundg (gk - 1)
        case measure => have := HI.out; have := HGO.out; omega
        case rel => exact ⟨i + 1, x, n, by go_num, rfl, ⟨by have := HI.out; have := HGO.out; omega⟩, HX, ⟨by have := HNI.out; have := HGO.out; omega⟩, HK, HN, HB⟩
    · have hgo2 : xs.length ≤ i ∨ 100 ≤ i := by omega
      have hlast : ∀ W : World, (binOp .eql 26 (.agg CellV.nought.cells) (.agg CellV.nought.cells)).run Try.prog W = .ok (.bool true) W := fun W => by rw [eql_cells nought_ok nought_ok W, (CellV.same_iff _ _).2 rfl]
      have HLAST := Aside0.mk hlast
      clear hlast hgo
      rcases hgo2 with hgo2 | hgo2
      · have h1b : decide ((i : Int) < (xs.length : Int)) = false := decide_eq_false (by omega)
        have h1n : decide (i < xs.length) = false := decide_eq_false (by omega)
        have h1 : (xs.length : Int) ≤ (i : Int) := by omega
        go_wp2_with (first | (go_at_call 14; (with_reducible refine (keeper_Get_nil _).mono ?_); rintro e w4 ⟨rfl, hb⟩; have n0_ := Aside0.mk (HB.out.trans (hb.mono HB.out.size)); clear hb HB; have HB := n0_; clear n0_) | (go_at_call 15; (with_reducible refine (keeper_Times_nil _).mono ?_); rintro e w4 ⟨rfl, rfl⟩) | ((with_reducible refine gate_op (N := .build 26 #[]) rfl ?_); refine wl_val rfl (.agg CellV.nought.cells) (by unfold execOp; simp [build_nought]) ?_) | ((with_reducible refine gate_dst (N := 70) rfl ?_); refine wl_val rfl (.bool true) (ex_binop _ _ _ _ _ _ rfl _ _ rfl rfl (guard_cell _ _ _ _ _ _) _ (HLAST.out _)) ?_))
        go_ret
        exact ⟨rfl, HB.out⟩
      · have h2b : decide ((i : Int) < 100) = false := decide_eq_false (by omega)
        have h2 : (100 : Int) ≤ (i : Int) := by omega
        by_cases hii : i < xs.length
        all_goals
          go_wp2_with (first | (go_at_call 14; (with_reducible refine (keeper_Get_nil _).mono ?_); rintro e w4 ⟨rfl, hb⟩; have n0_ := Aside0.mk (HB.out.trans (hb.mono HB.out.size)); clear hb HB; have HB := n0_; clear n0_) | (go_at_call 15; (with_reducible refine (keeper_Times_nil _).mono ?_); rintro e w4 ⟨rfl, rfl⟩) | ((with_reducible refine gate_op (N := .build 26 #[]) rfl ?_); refine wl_val rfl (.agg CellV.nought.cells) (by unfold execOp; simp [build_nought]) ?_) | ((with_reducible refine gate_dst (N := 70) rfl ?_); refine wl_val rfl (.bool true) (ex_binop _ _ _ _ _ _ rfl _ _ rfl rfl (guard_cell _ _ _ _ _ _) _ (HLAST.out _)) ?_))
          go_ret
          exact ⟨rfl, HB.out⟩
end Go.Proofs.Ytklhpnalchgkaaa.Q
