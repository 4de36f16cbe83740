/- What a keeper's Put does. -/
import Derived.Test.YtklhpnalchgkaaaHKeep
namespace Go.Proofs.Ytklhpnalchgkaaa.Q
open Go.RowKit Go.Proofs.YtklhpnalchgkaaaW.PrintWords Go.Proofs.YtklhpnalchgkaaaW.PrintLast Go.Proofs.YtklhpnalchgkaaaW.PrintMore Go.Proofs.Ytklhpnalchgkaaa.Pure
attribute [local go_sem] max2_int min2_int max_two min_two max_three min_three max_four min_four
set_option linter.unusedVariables false
set_option linter.unusedSimpArgs false
theorem info_int : (Try.prog.info? 3).map (·.size) = some 1 := by kernel_rfl
theorem keepCells_put (x c : CellV) (hx : x.Ok) (hc : c.Ok) (n : Int) : ((keepCells x n).toList.take 0 ++ (Value.agg c.cells).cells.toList ++ (keepCells x n).toList.drop (0 + (Value.agg c.cells).cells.size)).toArray = keepCells c n := by
  have h1 : (Value.agg c.cells).cells.size = 68 := c.size hc
  rw [h1]
  unfold keepCells
  rw [List.take_zero, List.nil_append, List.drop_append_of_le_length (by rw [cellL_length hx]; omega), List.drop_of_length_le (by rw [cellL_length hx]; omega), List.nil_append]
  rfl
theorem keepCells_set (c : CellV) (hc : c.Ok) (n m : Int) : (keepCells c n).setIfInBounds 68 (.int .i64 m) = keepCells c m := by
  unfold keepCells
  apply Array.toList_inj.1
  rw [Array.toList_setIfInBounds]
  simp only []
  rw [List.set_append_right _ _ (by rw [cellL_length hc]; omega), cellL_length hc]
  rfl
set_option maxHeartbeats 1000000 in
set_option maxRecDepth 100000 in
theorem keeper_Put.calls (g : Nat) (x c : CellV) (n : Int) (w : World) (hx : x.Ok) (hc : c.Ok) (h : KeepAt w g x n) (hn : -9223372036854775808 ≤ n ∧ n < 9223372036854775807) :
    Calls Try.prog 13 #[.pointer (some ⟨g, 0, none⟩), .agg c.cells] w fun e w' =>
      (c.cnt ≤ x.cnt → e = .returned (.int .i64 16) ∧ Below w.heap.size w w') ∧ (x.cnt < c.cnt → e = .returned (.int .i64 0) ∧ KeepAt w' g c (n + 1) ∧ w.grownBy w' (some g)) := by
  have HX := Aside0.mk hx
  have HC := Aside0.mk hc
  have HH := Aside0.mk h
  have HN := Aside0.mk hn
  clear hx hc h hn
  go_enter Try.func13, Try.ntmps13
  go_wp2_with (first | ((with_reducible refine gate_op (N := .box 26 (.tmp 1)) rfl ?_); refine wl_box rfl 26 _ rfl (.agg c.cells) rfl ?_; intro g1 hg w1 hblk hb hsz; have HG := Aside0.mk hg; have HK := Aside0.mk hblk; have HB := Aside0.mk hb; clear hg hblk hb hsz))
  have hcnt : ∀ w', Below w1.heap.size w1 w' → w'.cell? ⟨g1, 33, none⟩ = some (.int .u64 c.cnt) := fun w' hb => (cell_of_row w' g1 33 _ _ _ (blk_below HK.out hb)).trans (c.at_num HC.out).2.1
  have hcnx : ∀ w', Below w1.heap.size w1 w' → w'.cell? ⟨g, 33, none⟩ = some (.int .u64 x.cnt) := fun w' hb => (show KeepAt w' g x n from blk_below (blk_below HH.out.blk HB.out) hb).cnt HX.out
  have HCC := Aside0.mk hcnt
  have HCX := Aside0.mk hcnx
  clear hcnt hcnx
  refine mono_region (T := _) (B := [0, 1, 0, 4, 12, 28, 60, 127, 255]) (n := 9) [(0, 9, VP.is (Value.pointer (some ⟨g1, 33, none⟩))), (1, 10, VP.is (Value.int .u64 c.cnt)), (2, 11, VP.is (Value.pointer (some ⟨g, 0, none⟩))), (3, 12, VP.is (Value.pointer (some ⟨g, 0, none⟩))), (4, 13, VP.is (Value.pointer (some ⟨g, 0, none⟩))), (5, 14, VP.is (Value.pointer (some ⟨g, 33, none⟩))), (6, 15, VP.is (Value.int .u64 x.cnt)), (7, 16, VP.is (Value.bool (decide (c.cnt ≤ x.cnt)))), (8, 8, VP.is (Value.bool (decide (c.cnt ≤ x.cnt))))] rfl (by kernel_rfl) (by kernel_rfl) rfl (by kernel_rfl) (by kernel_rfl) (by kernel_rfl) (by kernel_rfl) (by kernel_rfl) ?_ ?_
  · refine ms_cons ?_ <| ms_cons ?_ <| ms_cons ?_ <| ms_cons ?_ <| ms_cons ?_ <| ms_cons ?_ <| ms_cons ?_ <| ms_cons ?_ <| ms_cons ?_ <| ms_nil
    · intro a w' H
      have e3 := H.tmp (t := 3) rfl (by kernel_rfl)
      have ev3 := eval_of e3
      refine ms_val rfl rfl rfl (Value.pointer (some ⟨g1, 33, none⟩)) w' ?_ (Below.refl _ _) rfl
      · go_simp
        try rfl
    · intro a w' H
      obtain ⟨_, e9, rfl⟩ := H.on 0 rfl (by kernel_rfl)
      have ev9 := eval_of e9
      have hq := HCC.out w' H.below
      refine ms_val rfl rfl rfl (Value.int .u64 c.cnt) w' ?_ (Below.refl _ _) rfl
      · go_simp
        try rfl
    · intro a w' H
      have e0 := H.tmp (t := 0) rfl (by kernel_rfl)
      have ev0 := eval_of e0
      refine ms_val rfl rfl rfl (Value.pointer (some ⟨g, 0, none⟩)) w' ?_ (Below.refl _ _) rfl
      · go_simp
        try rfl
    · intro a w' H
      obtain ⟨_, e11, rfl⟩ := H.on 2 rfl (by kernel_rfl)
      have ev11 := eval_of e11
      refine ms_val rfl rfl rfl (Value.pointer (some ⟨g, 0, none⟩)) w' ?_ (Below.refl _ _) rfl
      · go_simp
        try rfl
    · intro a w' H
      obtain ⟨_, e12, rfl⟩ := H.on 3 rfl (by kernel_rfl)
      have ev12 := eval_of e12
      refine ms_val rfl rfl rfl (Value.pointer (some ⟨g, 0, none⟩)) w' ?_ (Below.refl _ _) rfl
      · go_simp
        try rfl
    · intro a w' H
      obtain ⟨_, e13, rfl⟩ := H.on 4 rfl (by kernel_rfl)
      have ev13 := eval_of e13
      refine ms_val rfl rfl rfl (Value.pointer (some ⟨g, 33, none⟩)) w' ?_ (Below.refl _ _) rfl
      · go_simp
        try rfl
    · intro a w' H
      obtain ⟨_, e14, rfl⟩ := H.on 5 rfl (by kernel_rfl)
      have ev14 := eval_of e14
      have hq := HCX.out w' H.below
      refine ms_val rfl rfl rfl (Value.int .u64 x.cnt) w' ?_ (Below.refl _ _) rfl
      · go_simp
        try rfl
    · intro a w' H
      obtain ⟨_, e10, rfl⟩ := H.on 1 rfl (by kernel_rfl)
      have ev10 := eval_of e10
      obtain ⟨_, e15, rfl⟩ := H.on 6 rfl (by kernel_rfl)
      have ev15 := eval_of e15
      refine ms_val rfl rfl rfl (Value.bool (decide (c.cnt ≤ x.cnt))) w' ?_ (Below.refl _ _) rfl
      · go_simp
        try rfl
    · intro a w' H
      obtain ⟨_, e16, rfl⟩ := H.on 7 rfl (by kernel_rfl)
      have ev16 := eval_of e16
      refine ms_val rfl rfl rfl (Value.bool (decide (c.cnt ≤ x.cnt))) w' ?_ (Below.refl _ _) rfl
      · go_simp
        try rfl
  intro w2 hb2
  rintro _ rfl _ rfl _ rfl _ rfl _ rfl _ rfl _ rfl _ rfl _ rfl
  simp only [Ends, Act.put, List.setIfInBounds_toArray, List.set_cons_zero, List.set_cons_succ]
  have HB2 := Aside0.mk (HB.out.trans (hb2.mono HB.out.size))
  have HK2 := Aside0.mk (blk_below HK.out hb2)
  have HKX := Aside0.mk (show KeepAt w2 g x n from blk_below (blk_below HH.out.blk HB.out) hb2)
  have HLT := Aside0.mk (blk_lt HH.out.blk)
  have HNE := Aside0.mk (show g ≠ g1 by have := HG.out; have := HLT.out; omega)
  clear hb2
  by_cases hle : c.cnt ≤ x.cnt
  · have hd : decide (c.cnt ≤ x.cnt) = true := decide_eq_true hle
    have HLE := Aside0.mk hle
    go_wp2
    go_ret
    exact ⟨fun _ => ⟨rfl, HB2.out⟩, fun h => absurd HLE.out (by omega)⟩
  · have hd : decide (c.cnt ≤ x.cnt) = false := decide_eq_false hle
    have HLE := Aside0.mk hle
    replace hle := Int.not_le.1 hle
    go_wp2_with (first | ((with_reducible refine gate_op (N := .load 26 (.tmp 3)) rfl ?_); refine wl_load_blk rfl _ _ rfl g1 rfl c.cells 26 _ HK2.out Try.underlying26 rfl ?side1 ?_; (case side1 => rw [c.size HC.out]; exact info_cell)) | ((with_reducible refine gate_store (t := 26) rfl ?_); refine wl_store_agg rfl rfl 26 _ _ rfl g 0 rfl (keepCells x n) 50 HKX.out.blk (.agg c.cells) rfl ?side1 CellV.one ?side2 ?_; (case side1 => show 0 + c.cells.size ≤ _; rw [c.size HC.out, keepCells_size HX.out]; omega); (case side2 => show _ = some c.cells.size; rw [c.size HC.out]; exact info_cell); intro w3 hk3 hg3 hs3; rw [keepCells_put x c HX.out HC.out] at hk3; have HK3 := Aside0.mk (show KeepAt w3 g c n from hk3); have HG3 := Aside0.mk hg3; have ht3 := HK3.out.times HC.out; clear hk3 hg3 hs3) | ((with_reducible refine gate_store (t := 3) rfl ?_); refine wl_store_cell rfl rfl 3 _ _ rfl g 68 rfl (keepCells c n) 50 HK3.out.blk (.int .i64 (wrap64 (n + 1))) ?side3 rfl ?side1 rfl info_int ?_; (case side1 => rw [keepCells_size HC.out]; omega); (case side3 => rfl); intro w4 hk4 hg4 hs4; rw [keepCells_set c HC.out] at hk4; have HK4 := Aside0.mk (show KeepAt w4 g c (wrap64 (n + 1)) from hk4); have HG4 := Aside0.mk hg4; clear hk4 hg4 hs4))
    go_ret
    have hw : wrap64 (n + 1) = n + 1 := by have := HN.out; unfold wrap64; omega
    have h4 := HK4.out
    rw [hw] at h4
    refine ⟨fun h => absurd h (by have := HLE.out; omega), rfl, h4, ?_⟩
    have e1 : w.grownBy w2 (some g) := grown_of_below HB2.out _
    have tr : ∀ {a b c : World}, a.grownBy b (some g) → b.grownBy c (some g) → a.grownBy c (some g) := fun {a b c} h k => ⟨k.os.trans h.os, k.tape.trans h.tape, k.output.trans h.output, Nat.le_trans h.size k.size, fun q hq hne => (k.block q (Nat.lt_of_lt_of_le hq h.size) hne).trans (h.block q hq hne)⟩
    exact tr (tr e1 HG3.out) HG4.out
end Go.Proofs.Ytklhpnalchgkaaa.Q
