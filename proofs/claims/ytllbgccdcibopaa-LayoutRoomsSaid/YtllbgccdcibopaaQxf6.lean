-- Written by this session's own program (ext_print.py) over the kit's print.py, hand proofs among it. Not trusted: Lean checks it.
import Derived.Test.YtllbgccdcibopaaQx0
import Derived.Test.YtllbgccdcibopaaQxf12
import Derived.Test.YtllbgccdcibopaaQxf8
import Derived.Test.YtllbgccdcibopaaQxf9
namespace Go.Proofs.Ytllbgccdcibopaa.Q
open Go.RowKit Go.Proofs.YtllbgccdcibopaaW.PrintWords Go.Proofs.YtllbgccdcibopaaW.PrintLast Go.Proofs.YtllbgccdcibopaaW.PrintMore
attribute [local go_sem] max2_int min2_int max_two min_two max_three min_three max_four min_four   -- for this text's walks alone
set_option linter.unusedVariables false
set_option linter.unusedSimpArgs false

/-! ### reliquarylaw17_LayoutRooms: function 6 -/
def reliquarylaw17_LayoutRooms.l0 : Nat → Int → Int → Int → Int → Int → Int → Int → Option (Bool)
  | 0, _, _, _, _, _, _, _ => none
  | k + 1, x0, x1, x8, x240000, x240001, x240002, x240003 => if x8 < x240001 then ((layout_Layout_Inode.f x240000 x240001 x240002 x240003 x8).bind fun bt240 => (if bt240.2.2 = 0 then (if (wrap64 ((wrap64 (160 * (wrap64 (bt240.1 - x240002)))) + bt240.2.1)) = (wrap64 (32 * x8)) then (reliquarylaw17_LayoutRooms.l0 k x0 x1 (wrap64 (x8 + 1)) x240000 x240001 x240002 x240003) else (some false)) else (some false))) else ((layout_Layout_Inode.f x240000 x240001 x240002 x240003 (wrap64 (x240001 - 1))).bind fun bt243 => ((layout_Layout_Inode.f x240000 x240001 x240002 x240003 x240001).bind fun bt246 => (if bt243.1 = (wrap64 (x240003 - 1)) then (if bt246.2.2 = 12 then (if x240000 = (wrap64 (x0)) then (some (x240001 == (wrap64 (x1)))) else (some false)) else (some false)) else (some false))))
def reliquarylaw17_LayoutRooms.f (k : Nat) (a0 : Int) (a1 : Int) : Option (Bool) := (reliquarylaw17_awake.f k).bind fun t233 => (if t233 = true then ((layout_New.f k (wrap64 (a0)) (wrap64 (a1))).bind fun bt234 => (if bt234.2.2.2.2 = 0 then (reliquarylaw17_LayoutRooms.l0 k a0 a1 1 bt234.1 bt234.2.1 bt234.2.2.1 bt234.2.2.2.1) else (some true))) else (some false))
theorem reliquarylaw17_LayoutRooms.mono_l : ∀ k, (∀ y0 y1 y2 y3 y4 y5 y6, LeO (reliquarylaw17_LayoutRooms.l0 k y0 y1 y2 y3 y4 y5 y6) (reliquarylaw17_LayoutRooms.l0 (k + 1) y0 y1 y2 y3 y4 y5 y6))
  | 0 => fun _ _ _ _ _ _ _ r h => by simp [reliquarylaw17_LayoutRooms.l0] at h
  | k + 1 => by
    have ih0 := reliquarylaw17_LayoutRooms.mono_l k
    · intro y0 y1 y2 y3 y4 y5 y6
      unfold reliquarylaw17_LayoutRooms.l0
      repeat' first
      | (with_reducible exact ih0 _ _ _ _ _ _ _)
      | (with_reducible exact layout_New.mono _ _ _)
      | (with_reducible exact reliquarylaw17_awake.mono _)
      | (with_reducible exact LeO.refl _)
      | (with_reducible exact LeO.none _)
      | (with_reducible refine LeO.ite ?_ ?_)
      | (with_reducible refine LeO.bind ?_ (fun _ => ?_))
      | exact ih0 _ _ _ _ _ _ _
      | exact layout_New.mono _ _ _
      | exact reliquarylaw17_awake.mono _
      | exact LeO.none _
      | refine LeO.ite ?_ ?_
      | refine LeO.bind ?_ (fun _ => ?_)
theorem reliquarylaw17_LayoutRooms.mono : ∀ a0 a1 k, LeO (reliquarylaw17_LayoutRooms.f k a0 a1) (reliquarylaw17_LayoutRooms.f (k + 1) a0 a1) := by
  intro a0 a1 k
  have ih0 := reliquarylaw17_LayoutRooms.mono_l k
  unfold reliquarylaw17_LayoutRooms.f
  repeat' first
      | (with_reducible exact ih0 _ _ _ _ _ _ _)
      | (with_reducible exact layout_New.mono _ _ _)
      | (with_reducible exact reliquarylaw17_awake.mono _)
      | (with_reducible exact LeO.refl _)
      | (with_reducible exact LeO.none _)
      | (with_reducible refine LeO.ite ?_ ?_)
      | (with_reducible refine LeO.bind ?_ (fun _ => ?_))
      | exact ih0 _ _ _ _ _ _ _
      | exact layout_New.mono _ _ _
      | exact reliquarylaw17_awake.mono _
      | exact LeO.none _
      | refine LeO.ite ?_ ?_
      | refine LeO.bind ?_ (fun _ => ?_)
set_option maxHeartbeats 8000000 in
set_option maxRecDepth 100000 in
theorem reliquarylaw17_LayoutRooms.calls (k : Nat) (a0 : Int) (a1 : Int) (r : Bool) (w : World) (h : reliquarylaw17_LayoutRooms.f k a0 a1 = some r) :
    Calls Try.prog 6 #[.int .u16 a0, .int .u16 a1] w fun e w' => e = .returned (.bool r) ∧ Below w.heap.size w w' := by
  have hu24 := Try.underlying24
  have HB := Aside0.mk (Below.refl w.heap.size w)
  have H : ((reliquarylaw17_awake.f k).bind fun t233 => (if t233 = true then ((layout_New.f k (wrap64 (a0)) (wrap64 (a1))).bind fun bt234 => (if bt234.2.2.2.2 = 0 then (reliquarylaw17_LayoutRooms.l0 k a0 a1 1 bt234.1 bt234.2.1 bt234.2.2.1 bt234.2.2.2.1) else (some true))) else (some false))) = some r := h
  clear h
  replace H := Option.bind_eq_some_iff.mp H
  obtain ⟨t233, A30, H⟩ := H
  replace H : (if t233 = true then ((layout_New.f k (wrap64 (a0)) (wrap64 (a1))).bind fun bt234 => (if bt234.2.2.2.2 = 0 then (reliquarylaw17_LayoutRooms.l0 k a0 a1 1 bt234.1 bt234.2.1 bt234.2.2.1 bt234.2.2.2.1) else (some true))) else (some false)) = some r := H
  have A3 := Aside0.mk A30
  clear A30
  by_cases c4 : t233 = true
  · subst c4
    have H1 : ((layout_New.f k (wrap64 (a0)) (wrap64 (a1))).bind fun bt234 => (if bt234.2.2.2.2 = 0 then (reliquarylaw17_LayoutRooms.l0 k a0 a1 1 bt234.1 bt234.2.1 bt234.2.2.1 bt234.2.2.2.1) else (some true))) = some r := by rw [if_pos rfl] at H; exact H
    clear H
    have H := H1
    clear H1
    replace H := Option.bind_eq_some_iff.mp H
    obtain ⟨⟨t234, t235, t236, t237, t238⟩, A50, H⟩ := H
    replace H : (if t238 = 0 then (reliquarylaw17_LayoutRooms.l0 k a0 a1 1 t234 t235 t236 t237) else (some true)) = some r := H
    have A5 := Aside0.mk A50
    clear A50
    by_cases c6 : t238 = 0
    · rw [if_pos c6] at H
      have c6b0 : (t238 == 0) = true := beq_iff_eq.mpr c6
      have c6b1 : (t238 != 0) = false := bne_eq_false_iff_eq.mpr c6
      clear c6
      have H' := Aside0.mk H
      clear H
      go_enter Try.func6, Try.ntmps6
      go_wp2_with (first | ((with_reducible refine gate_callee (f := 8) rfl ?_); refine goesL_ (some 18) rfl rfl Try.func8 (by kernel_rfl) rfl #[] rfl (by (try simp only [List.map_toArray, List.map_cons, List.map_nil]); first | done | rfl | (simp only [List.length_drop, List.length_take]; rfl)) ?_; (with_reducible refine (reliquarylaw17_awake.calls k  true _ A3.out).mono ?_); rintro e w7 ⟨rfl, hb⟩; refine ⟨_, rfl, ?_⟩; have n0_ := Aside0.mk (below_step (by repeat (first | (with_reducible first | exact HB.out | apply below_alloc | apply pw_below_drewN | apply below_drew1) | exact HB.out)) hb); clear HB; have HB := n0_; clear n0_; (try clear hb); (try clear hb2); (try clear hk); (try clear hi)) | ((with_reducible refine gate_callee (f := 9) rfl ?_); refine goesL_ (some 26) rfl rfl Try.func9 (by kernel_rfl) rfl #[.int .i64 (wrap64 (a0)), .int .i64 (wrap64 (a1))] rfl (by (try simp only [List.map_toArray, List.map_cons, List.map_nil]); first | done | rfl | (simp only [List.length_drop, List.length_take]; rfl)) ?_; (with_reducible refine (layout_New.calls k (wrap64 (a0)) (wrap64 (a1)) t234 t235 t236 t237 t238 _ A5.out).mono ?_); rintro e w8 ⟨rfl, hb⟩; refine ⟨_, rfl, ?_⟩; have n0_ := Aside0.mk (below_step (by repeat (first | (with_reducible first | exact HB.out | apply below_alloc | apply pw_below_drewN | apply below_drew1) | exact HB.out)) hb); clear HB; have HB := n0_; clear n0_; (try clear hb); (try clear hb2); (try clear hk); (try clear hi)) | ((with_reducible refine gate_dst (N := 6) rfl ?_); refine box_event ?hg (N := 6) ?hd (cs := #[.int .i64 0, .int .i64 0, .int .i64 0, .int .i64 0]) (t := 24) ?hr ?_; (case hd => rfl); (case hg => rfl); (case hr => first | (go_simp; done) | (go_simp; rfl)); intro gb239 hg w9 hbox hb; have n0_ := Aside0.mk (below_step (by repeat (first | (with_reducible first | exact HB.out | apply below_alloc | apply pw_below_drewN | apply below_drew1) | exact HB.out)) hb); have n1_ := Aside0.mk (hbox); have n2_ := Aside0.mk ((by rw [hg]; exact (below_size (by repeat (first | (with_reducible first | exact HB.out | apply below_alloc | apply pw_below_drewN | apply below_drew1) | exact HB.out))) : w.heap.size ≤ gb239)); have n3_ := Aside0.mk ((by rw [hg]; exact (below_size (by repeat (first | (with_reducible first | exact HB.out | apply below_alloc | apply pw_below_drewN | apply below_drew1) | exact HB.out))) : w.heap.size ≤ gb239)); clear HB; have HB := n0_; have BK239 := n1_; have GW239 := n2_; have GE239 := n3_; clear n0_ n1_ n2_ n3_; clear hb hbox hg; have hcz10_0 : w9.cell? ⟨gb239, 0, none⟩ = some (.int .i64 0) := (blk_cell BK239.out 0).trans rfl; have hcz10_1 : w9.cell? ⟨gb239, 1, none⟩ = some (.int .i64 0) := (blk_cell BK239.out 1).trans rfl; have hcz10_2 : w9.cell? ⟨gb239, 2, none⟩ = some (.int .i64 0) := (blk_cell BK239.out 2).trans rfl; have hcz10_3 : w9.cell? ⟨gb239, 3, none⟩ = some (.int .i64 0) := (blk_cell BK239.out 3).trans rfl; have hfz10_0 := blk_frozen BK239.out 0; have hfz10_1 := blk_frozen BK239.out 1; have hfz10_2 := blk_frozen BK239.out 2; have hfz10_3 := blk_frozen BK239.out 3))
      go_loopg [8] k (fun kq v8 w' => ∃ (x8_1 : Int), v8 = .int .i64 x8_1 ∧ Aside0 (reliquarylaw17_LayoutRooms.l0 kq a0 a1 x8_1 t234 t235 t236 t237 = some r) ∧ Aside0 (kq ≤ k) ∧ Aside0 (w'.heap[gb239]? = some (.cells #[.int .i64 t234, .int .i64 t235, .int .i64 t236, .int .i64 t237] 24 (0, 0))) ∧ Aside0 (Below w.heap.size w w'))
      case atStart => exact ⟨(1), (by first | rfl | (simp; done) | (simp [*]; done)), H', ⟨Nat.le_refl _⟩, ⟨by (with_reducible repeat (first | refine blk_drewN ?_ _ | refine blk_drew ?_ | refine blk_alloc ?_ _)); refine blk_put (cs := #[.int .i64 t234, .int .i64 t235, .int .i64 t236, .int .i64 0]) ?_ 3 _ rfl; (with_reducible repeat (first | refine blk_drewN ?_ _ | refine blk_drew ?_ | refine blk_alloc ?_ _)); refine blk_put (cs := #[.int .i64 t234, .int .i64 t235, .int .i64 0, .int .i64 0]) ?_ 2 _ rfl; (with_reducible repeat (first | refine blk_drewN ?_ _ | refine blk_drew ?_ | refine blk_alloc ?_ _)); refine blk_put (cs := #[.int .i64 t234, .int .i64 0, .int .i64 0, .int .i64 0]) ?_ 1 _ rfl; (with_reducible repeat (first | refine blk_drewN ?_ _ | refine blk_drew ?_ | refine blk_alloc ?_ _)); refine blk_put (cs := #[.int .i64 0, .int .i64 0, .int .i64 0, .int .i64 0]) ?_ 0 _ rfl; (with_reducible repeat (first | refine blk_drewN ?_ _ | refine blk_drew ?_ | refine blk_alloc ?_ _)); exact BK239.out⟩, ⟨by repeat (first | (with_reducible first | exact HB.out | apply below_alloc | apply pw_below_drewN | apply below_drew1 | refine below_set ?_ GE239.out) | exact HB.out)⟩⟩
      case round =>
        clear H'
        try clear p2
        try clear c4
        try clear c6
        try clear c6b0
        try clear c6b1
        try clear p6
        try clear c8
        try clear c9
        try clear hcz10_0
        try clear hcz10_1
        try clear hcz10_2
        try clear hcz10_3
        try clear hfz10_0
        try clear hfz10_1
        try clear hfz10_2
        try clear hfz10_3
        obtain ⟨x8_1, rfl, HA, HK1, BK239, HB⟩ := hrel
        cases gk with
        | zero => exact absurd HA.out (by simp [reliquarylaw17_LayoutRooms.l0])
        | succ k1 =>
          have H := HA.out
          clear HA
          simp only [reliquarylaw17_LayoutRooms.l0] at H
          by_cases c11 : x8_1 < t235
          · rw [if_pos c11] at H
            have c11b0 : decide (x8_1 < t235) = true := decide_eq_true c11
            clear c11
            replace H := Option.bind_eq_some_iff.mp H
            obtain ⟨⟨t240, t241, t242⟩, A120, H⟩ := H
            replace H : (if t242 = 0 then (if (wrap64 ((wrap64 (160 * (wrap64 (t240 - t236)))) + t241)) = (wrap64 (32 * x8_1)) then (reliquarylaw17_LayoutRooms.l0 k1 a0 a1 (wrap64 (x8_1 + 1)) t234 t235 t236 t237) else (some false)) else (some false)) = some r := H
            have A12 := Aside0.mk A120
            clear A120
            by_cases c13 : t242 = 0
            · rw [if_pos c13] at H
              have c13b0 : (t242 == 0) = true := beq_iff_eq.mpr c13
              have c13b1 : (t242 != 0) = false := bne_eq_false_iff_eq.mpr c13
              clear c13
              by_cases c14 : (wrap64 ((wrap64 (160 * (wrap64 (t240 - t236)))) + t241)) = (wrap64 (32 * x8_1))
              · rw [if_pos c14] at H
                have c14b0 : ((wrap64 ((wrap64 (160 * (wrap64 (t240 - t236)))) + t241)) == (wrap64 (32 * x8_1))) = true := beq_iff_eq.mpr c14
                have c14b1 : ((wrap64 ((wrap64 (160 * (wrap64 (t240 - t236)))) + t241)) != (wrap64 (32 * x8_1))) = false := bne_eq_false_iff_eq.mpr c14
                clear c14
                have H' := Aside0.mk H
                clear H
                have hcz15_0 : wr.cell? ⟨gb239, 0, none⟩ = some (.int .i64 t234) := (blk_cell BK239.out 0).trans rfl
                have hcz15_1 : wr.cell? ⟨gb239, 1, none⟩ = some (.int .i64 t235) := (blk_cell BK239.out 1).trans rfl
                have hcz15_2 : wr.cell? ⟨gb239, 2, none⟩ = some (.int .i64 t236) := (blk_cell BK239.out 2).trans rfl
                have hcz15_3 : wr.cell? ⟨gb239, 3, none⟩ = some (.int .i64 t237) := (blk_cell BK239.out 3).trans rfl
                have hfz15_0 := blk_frozen BK239.out 0
                have hfz15_1 := blk_frozen BK239.out 1
                have hfz15_2 := blk_frozen BK239.out 2
                have hfz15_3 := blk_frozen BK239.out 3
                go_wp2_with (first | ((with_reducible refine gate_callee (f := 12) rfl ?_); refine goesL_ (some 40) rfl rfl Try.func12 (by kernel_rfl) rfl #[.agg #[.int .i64 t234, .int .i64 t235, .int .i64 t236, .int .i64 t237], .int .i64 x8_1] rfl (by (try simp only [List.map_toArray, List.map_cons, List.map_nil]); first | done | rfl | (simp only [List.length_drop, List.length_take]; rfl)) ?_; (with_reducible refine (layout_Layout_Inode.calls t234 t235 t236 t237 x8_1 t240 t241 t242 _ A12.out).mono ?_); rintro e w16 ⟨rfl, hb⟩; refine ⟨_, rfl, ?_⟩; have n0_ := Aside0.mk (blk_below (g := gb239) (o := .cells #[.int .i64 t234, .int .i64 t235, .int .i64 t236, .int .i64 t237] 24 (0, 0)) (by (with_reducible repeat (first | refine blk_drewN ?_ _ | refine blk_drew ?_ | refine blk_alloc ?_ _)); exact BK239.out) hb); have n1_ := Aside0.mk (below_step (by repeat (first | (with_reducible first | exact HB.out | apply below_alloc | apply pw_below_drewN | apply below_drew1 | refine below_set ?_ GE239.out) | exact HB.out)) hb); clear BK239; clear HB; have BK239 := n0_; have HB := n1_; clear n0_ n1_; (try clear hb); (try clear hb2); (try clear hk); (try clear hi); have hcz17_0 : w16.cell? ⟨gb239, 0, none⟩ = some (.int .i64 t234) := (blk_cell BK239.out 0).trans rfl; have hcz17_1 : w16.cell? ⟨gb239, 1, none⟩ = some (.int .i64 t235) := (blk_cell BK239.out 1).trans rfl; have hcz17_2 : w16.cell? ⟨gb239, 2, none⟩ = some (.int .i64 t236) := (blk_cell BK239.out 2).trans rfl; have hcz17_3 : w16.cell? ⟨gb239, 3, none⟩ = some (.int .i64 t237) := (blk_cell BK239.out 3).trans rfl; have hfz17_0 := blk_frozen BK239.out 0; have hfz17_1 := blk_frozen BK239.out 1; have hfz17_2 := blk_frozen BK239.out 2; have hfz17_3 := blk_frozen BK239.out 3))
                go_roundg k1
                case measure => have := HK1.out; omega
                case rel => exact ⟨(wrap64 (x8_1 + 1)), (by first | rfl | (simp; done) | (simp [*]; done)), H', ⟨by have := HK1.out; omega⟩, ⟨by (with_reducible repeat (first | refine blk_drewN ?_ _ | refine blk_drew ?_ | refine blk_alloc ?_ _)); exact BK239.out⟩, ⟨by repeat (first | (with_reducible first | exact HB.out | apply below_alloc | apply pw_below_drewN | apply below_drew1 | refine below_set ?_ GE239.out) | exact HB.out)⟩⟩
              · rw [if_neg c14] at H
                have c14b0 : ((wrap64 ((wrap64 (160 * (wrap64 (t240 - t236)))) + t241)) == (wrap64 (32 * x8_1))) = false := beq_eq_false_iff_ne.mpr c14
                have c14b1 : ((wrap64 ((wrap64 (160 * (wrap64 (t240 - t236)))) + t241)) != (wrap64 (32 * x8_1))) = true := bne_iff_ne.mpr c14
                obtain rfl := Option.some.inj H
                have hcz18_0 : wr.cell? ⟨gb239, 0, none⟩ = some (.int .i64 t234) := (blk_cell BK239.out 0).trans rfl
                have hcz18_1 : wr.cell? ⟨gb239, 1, none⟩ = some (.int .i64 t235) := (blk_cell BK239.out 1).trans rfl
                have hcz18_2 : wr.cell? ⟨gb239, 2, none⟩ = some (.int .i64 t236) := (blk_cell BK239.out 2).trans rfl
                have hcz18_3 : wr.cell? ⟨gb239, 3, none⟩ = some (.int .i64 t237) := (blk_cell BK239.out 3).trans rfl
                have hfz18_0 := blk_frozen BK239.out 0
                have hfz18_1 := blk_frozen BK239.out 1
                have hfz18_2 := blk_frozen BK239.out 2
                have hfz18_3 := blk_frozen BK239.out 3
                go_wp2_with (first | ((with_reducible refine gate_callee (f := 12) rfl ?_); refine goesL_ (some 40) rfl rfl Try.func12 (by kernel_rfl) rfl #[.agg #[.int .i64 t234, .int .i64 t235, .int .i64 t236, .int .i64 t237], .int .i64 x8_1] rfl (by (try simp only [List.map_toArray, List.map_cons, List.map_nil]); first | done | rfl | (simp only [List.length_drop, List.length_take]; rfl)) ?_; (with_reducible refine (layout_Layout_Inode.calls t234 t235 t236 t237 x8_1 t240 t241 t242 _ A12.out).mono ?_); rintro e w19 ⟨rfl, hb⟩; refine ⟨_, rfl, ?_⟩; have n0_ := Aside0.mk (blk_below (g := gb239) (o := .cells #[.int .i64 t234, .int .i64 t235, .int .i64 t236, .int .i64 t237] 24 (0, 0)) (by (with_reducible repeat (first | refine blk_drewN ?_ _ | refine blk_drew ?_ | refine blk_alloc ?_ _)); exact BK239.out) hb); have n1_ := Aside0.mk (below_step (by repeat (first | (with_reducible first | exact HB.out | apply below_alloc | apply pw_below_drewN | apply below_drew1 | refine below_set ?_ GE239.out) | exact HB.out)) hb); clear BK239; clear HB; have BK239 := n0_; have HB := n1_; clear n0_ n1_; (try clear hb); (try clear hb2); (try clear hk); (try clear hi); have hcz20_0 : w19.cell? ⟨gb239, 0, none⟩ = some (.int .i64 t234) := (blk_cell BK239.out 0).trans rfl; have hcz20_1 : w19.cell? ⟨gb239, 1, none⟩ = some (.int .i64 t235) := (blk_cell BK239.out 1).trans rfl; have hcz20_2 : w19.cell? ⟨gb239, 2, none⟩ = some (.int .i64 t236) := (blk_cell BK239.out 2).trans rfl; have hcz20_3 : w19.cell? ⟨gb239, 3, none⟩ = some (.int .i64 t237) := (blk_cell BK239.out 3).trans rfl; have hfz20_0 := blk_frozen BK239.out 0; have hfz20_1 := blk_frozen BK239.out 1; have hfz20_2 := blk_frozen BK239.out 2; have hfz20_3 := blk_frozen BK239.out 3))
                go_ret
                exact ⟨by first | rfl | (simp [errW_none, errW_some] <;> rfl) | (simp [*, errW_none, errW_some] <;> rfl), by repeat (first | (with_reducible first | exact HB.out | apply below_alloc | apply pw_below_drewN | apply below_drew1 | refine below_set ?_ GE239.out) | exact HB.out)⟩
            · rw [if_neg c13] at H
              have c13b0 : (t242 == 0) = false := beq_eq_false_iff_ne.mpr c13
              have c13b1 : (t242 != 0) = true := bne_iff_ne.mpr c13
              obtain rfl := Option.some.inj H
              have hcz21_0 : wr.cell? ⟨gb239, 0, none⟩ = some (.int .i64 t234) := (blk_cell BK239.out 0).trans rfl
              have hcz21_1 : wr.cell? ⟨gb239, 1, none⟩ = some (.int .i64 t235) := (blk_cell BK239.out 1).trans rfl
              have hcz21_2 : wr.cell? ⟨gb239, 2, none⟩ = some (.int .i64 t236) := (blk_cell BK239.out 2).trans rfl
              have hcz21_3 : wr.cell? ⟨gb239, 3, none⟩ = some (.int .i64 t237) := (blk_cell BK239.out 3).trans rfl
              have hfz21_0 := blk_frozen BK239.out 0
              have hfz21_1 := blk_frozen BK239.out 1
              have hfz21_2 := blk_frozen BK239.out 2
              have hfz21_3 := blk_frozen BK239.out 3
              go_wp2_with (first | ((with_reducible refine gate_callee (f := 12) rfl ?_); refine goesL_ (some 40) rfl rfl Try.func12 (by kernel_rfl) rfl #[.agg #[.int .i64 t234, .int .i64 t235, .int .i64 t236, .int .i64 t237], .int .i64 x8_1] rfl (by (try simp only [List.map_toArray, List.map_cons, List.map_nil]); first | done | rfl | (simp only [List.length_drop, List.length_take]; rfl)) ?_; (with_reducible refine (layout_Layout_Inode.calls t234 t235 t236 t237 x8_1 t240 t241 t242 _ A12.out).mono ?_); rintro e w22 ⟨rfl, hb⟩; refine ⟨_, rfl, ?_⟩; have n0_ := Aside0.mk (blk_below (g := gb239) (o := .cells #[.int .i64 t234, .int .i64 t235, .int .i64 t236, .int .i64 t237] 24 (0, 0)) (by (with_reducible repeat (first | refine blk_drewN ?_ _ | refine blk_drew ?_ | refine blk_alloc ?_ _)); exact BK239.out) hb); have n1_ := Aside0.mk (below_step (by repeat (first | (with_reducible first | exact HB.out | apply below_alloc | apply pw_below_drewN | apply below_drew1 | refine below_set ?_ GE239.out) | exact HB.out)) hb); clear BK239; clear HB; have BK239 := n0_; have HB := n1_; clear n0_ n1_; (try clear hb); (try clear hb2); (try clear hk); (try clear hi)))
              go_ret
              exact ⟨by first | rfl | (simp [errW_none, errW_some] <;> rfl) | (simp [*, errW_none, errW_some] <;> rfl), by repeat (first | (with_reducible first | exact HB.out | apply below_alloc | apply pw_below_drewN | apply below_drew1 | refine below_set ?_ GE239.out) | exact HB.out)⟩
          · rw [if_neg c11] at H
            have c11b0 : decide (x8_1 < t235) = false := decide_eq_false c11
            clear c11
            replace H := Option.bind_eq_some_iff.mp H
            obtain ⟨⟨t243, t244, t245⟩, A230, H⟩ := H
            replace H : ((layout_Layout_Inode.f t234 t235 t236 t237 t235).bind fun bt246 => (if t243 = (wrap64 (t237 - 1)) then (if bt246.2.2 = 12 then (if t234 = (wrap64 (a0)) then (some (t235 == (wrap64 (a1)))) else (some false)) else (some false)) else (some false))) = some r := H
            have A23 := Aside0.mk A230
            clear A230
            replace H := Option.bind_eq_some_iff.mp H
            obtain ⟨⟨t246, t247, t248⟩, A240, H⟩ := H
            replace H : (if t243 = (wrap64 (t237 - 1)) then (if t248 = 12 then (if t234 = (wrap64 (a0)) then (some (t235 == (wrap64 (a1)))) else (some false)) else (some false)) else (some false)) = some r := H
            have A24 := Aside0.mk A240
            clear A240
            by_cases c25 : t243 = (wrap64 (t237 - 1))
            · rw [if_pos c25] at H
              have c25b0 : (t243 == (wrap64 (t237 - 1))) = true := beq_iff_eq.mpr c25
              have c25b1 : (t243 != (wrap64 (t237 - 1))) = false := bne_eq_false_iff_eq.mpr c25
              clear c25
              by_cases c26 : t248 = 12
              · rw [if_pos c26] at H
                have c26b0 : (t248 == 12) = true := beq_iff_eq.mpr c26
                have c26b1 : (t248 != 12) = false := bne_eq_false_iff_eq.mpr c26
                clear c26
                by_cases c27 : t234 = (wrap64 (a0))
                · rw [if_pos c27] at H
                  have c27b0 : (t234 == (wrap64 (a0))) = true := beq_iff_eq.mpr c27
                  have c27b1 : (t234 != (wrap64 (a0))) = false := bne_eq_false_iff_eq.mpr c27
                  clear c27
                  obtain rfl := Option.some.inj H
                  have hcz28_0 : wr.cell? ⟨gb239, 0, none⟩ = some (.int .i64 t234) := (blk_cell BK239.out 0).trans rfl
                  have hcz28_1 : wr.cell? ⟨gb239, 1, none⟩ = some (.int .i64 t235) := (blk_cell BK239.out 1).trans rfl
                  have hcz28_2 : wr.cell? ⟨gb239, 2, none⟩ = some (.int .i64 t236) := (blk_cell BK239.out 2).trans rfl
                  have hcz28_3 : wr.cell? ⟨gb239, 3, none⟩ = some (.int .i64 t237) := (blk_cell BK239.out 3).trans rfl
                  have hfz28_0 := blk_frozen BK239.out 0
                  have hfz28_1 := blk_frozen BK239.out 1
                  have hfz28_2 := blk_frozen BK239.out 2
                  have hfz28_3 := blk_frozen BK239.out 3
                  go_wp2_with (first | ((with_reducible refine gate_callee (f := 12) rfl ?_); refine goesL_ (some 63) rfl rfl Try.func12 (by kernel_rfl) rfl #[.agg #[.int .i64 t234, .int .i64 t235, .int .i64 t236, .int .i64 t237], .int .i64 (wrap64 (t235 - 1))] rfl (by (try simp only [List.map_toArray, List.map_cons, List.map_nil]); first | done | rfl | (simp only [List.length_drop, List.length_take]; rfl)) ?_; (with_reducible refine (layout_Layout_Inode.calls t234 t235 t236 t237 (wrap64 (t235 - 1)) t243 t244 t245 _ A23.out).mono ?_); rintro e w29 ⟨rfl, hb⟩; refine ⟨_, rfl, ?_⟩; have n0_ := Aside0.mk (blk_below (g := gb239) (o := .cells #[.int .i64 t234, .int .i64 t235, .int .i64 t236, .int .i64 t237] 24 (0, 0)) (by (with_reducible repeat (first | refine blk_drewN ?_ _ | refine blk_drew ?_ | refine blk_alloc ?_ _)); exact BK239.out) hb); have n1_ := Aside0.mk (below_step (by repeat (first | (with_reducible first | exact HB.out | apply below_alloc | apply pw_below_drewN | apply below_drew1 | refine below_set ?_ GE239.out) | exact HB.out)) hb); clear BK239; clear HB; have BK239 := n0_; have HB := n1_; clear n0_ n1_; (try clear hb); (try clear hb2); (try clear hk); (try clear hi); have hcz30_0 : w29.cell? ⟨gb239, 0, none⟩ = some (.int .i64 t234) := (blk_cell BK239.out 0).trans rfl; have hcz30_1 : w29.cell? ⟨gb239, 1, none⟩ = some (.int .i64 t235) := (blk_cell BK239.out 1).trans rfl; have hcz30_2 : w29.cell? ⟨gb239, 2, none⟩ = some (.int .i64 t236) := (blk_cell BK239.out 2).trans rfl; have hcz30_3 : w29.cell? ⟨gb239, 3, none⟩ = some (.int .i64 t237) := (blk_cell BK239.out 3).trans rfl; have hfz30_0 := blk_frozen BK239.out 0; have hfz30_1 := blk_frozen BK239.out 1; have hfz30_2 := blk_frozen BK239.out 2; have hfz30_3 := blk_frozen BK239.out 3) | ((with_reducible refine gate_callee (f := 12) rfl ?_); refine goesL_ (some 71) rfl rfl Try.func12 (by kernel_rfl) rfl #[.agg #[.int .i64 t234, .int .i64 t235, .int .i64 t236, .int .i64 t237], .int .i64 t235] rfl (by (try simp only [List.map_toArray, List.map_cons, List.map_nil]); first | done | rfl | (simp only [List.length_drop, List.length_take]; rfl)) ?_; (with_reducible refine (layout_Layout_Inode.calls t234 t235 t236 t237 t235 t246 t247 t248 _ A24.out).mono ?_); rintro e w31 ⟨rfl, hb⟩; refine ⟨_, rfl, ?_⟩; have n0_ := Aside0.mk (blk_below (g := gb239) (o := .cells #[.int .i64 t234, .int .i64 t235, .int .i64 t236, .int .i64 t237] 24 (0, 0)) (by (with_reducible repeat (first | refine blk_drewN ?_ _ | refine blk_drew ?_ | refine blk_alloc ?_ _)); exact BK239.out) hb); have n1_ := Aside0.mk (below_step (by repeat (first | (with_reducible first | exact HB.out | apply below_alloc | apply pw_below_drewN | apply below_drew1 | refine below_set ?_ GE239.out) | exact HB.out)) hb); clear BK239; clear HB; have BK239 := n0_; have HB := n1_; clear n0_ n1_; (try clear hb); (try clear hb2); (try clear hk); (try clear hi); have hcz32_0 : w31.cell? ⟨gb239, 0, none⟩ = some (.int .i64 t234) := (blk_cell BK239.out 0).trans rfl; have hcz32_1 : w31.cell? ⟨gb239, 1, none⟩ = some (.int .i64 t235) := (blk_cell BK239.out 1).trans rfl; have hcz32_2 : w31.cell? ⟨gb239, 2, none⟩ = some (.int .i64 t236) := (blk_cell BK239.out 2).trans rfl; have hcz32_3 : w31.cell? ⟨gb239, 3, none⟩ = some (.int .i64 t237) := (blk_cell BK239.out 3).trans rfl; have hfz32_0 := blk_frozen BK239.out 0; have hfz32_1 := blk_frozen BK239.out 1; have hfz32_2 := blk_frozen BK239.out 2; have hfz32_3 := blk_frozen BK239.out 3))
                  go_ret
                  exact ⟨by first | rfl | (simp [errW_none, errW_some] <;> rfl) | (simp [*, errW_none, errW_some] <;> rfl), by repeat (first | (with_reducible first | exact HB.out | apply below_alloc | apply pw_below_drewN | apply below_drew1 | refine below_set ?_ GE239.out) | exact HB.out)⟩
                · rw [if_neg c27] at H
                  have c27b0 : (t234 == (wrap64 (a0))) = false := beq_eq_false_iff_ne.mpr c27
                  have c27b1 : (t234 != (wrap64 (a0))) = true := bne_iff_ne.mpr c27
                  obtain rfl := Option.some.inj H
                  have hcz33_0 : wr.cell? ⟨gb239, 0, none⟩ = some (.int .i64 t234) := (blk_cell BK239.out 0).trans rfl
                  have hcz33_1 : wr.cell? ⟨gb239, 1, none⟩ = some (.int .i64 t235) := (blk_cell BK239.out 1).trans rfl
                  have hcz33_2 : wr.cell? ⟨gb239, 2, none⟩ = some (.int .i64 t236) := (blk_cell BK239.out 2).trans rfl
                  have hcz33_3 : wr.cell? ⟨gb239, 3, none⟩ = some (.int .i64 t237) := (blk_cell BK239.out 3).trans rfl
                  have hfz33_0 := blk_frozen BK239.out 0
                  have hfz33_1 := blk_frozen BK239.out 1
                  have hfz33_2 := blk_frozen BK239.out 2
                  have hfz33_3 := blk_frozen BK239.out 3
                  go_wp2_with (first | ((with_reducible refine gate_callee (f := 12) rfl ?_); refine goesL_ (some 63) rfl rfl Try.func12 (by kernel_rfl) rfl #[.agg #[.int .i64 t234, .int .i64 t235, .int .i64 t236, .int .i64 t237], .int .i64 (wrap64 (t235 - 1))] rfl (by (try simp only [List.map_toArray, List.map_cons, List.map_nil]); first | done | rfl | (simp only [List.length_drop, List.length_take]; rfl)) ?_; (with_reducible refine (layout_Layout_Inode.calls t234 t235 t236 t237 (wrap64 (t235 - 1)) t243 t244 t245 _ A23.out).mono ?_); rintro e w34 ⟨rfl, hb⟩; refine ⟨_, rfl, ?_⟩; have n0_ := Aside0.mk (blk_below (g := gb239) (o := .cells #[.int .i64 t234, .int .i64 t235, .int .i64 t236, .int .i64 t237] 24 (0, 0)) (by (with_reducible repeat (first | refine blk_drewN ?_ _ | refine blk_drew ?_ | refine blk_alloc ?_ _)); exact BK239.out) hb); have n1_ := Aside0.mk (below_step (by repeat (first | (with_reducible first | exact HB.out | apply below_alloc | apply pw_below_drewN | apply below_drew1 | refine below_set ?_ GE239.out) | exact HB.out)) hb); clear BK239; clear HB; have BK239 := n0_; have HB := n1_; clear n0_ n1_; (try clear hb); (try clear hb2); (try clear hk); (try clear hi); have hcz35_0 : w34.cell? ⟨gb239, 0, none⟩ = some (.int .i64 t234) := (blk_cell BK239.out 0).trans rfl; have hcz35_1 : w34.cell? ⟨gb239, 1, none⟩ = some (.int .i64 t235) := (blk_cell BK239.out 1).trans rfl; have hcz35_2 : w34.cell? ⟨gb239, 2, none⟩ = some (.int .i64 t236) := (blk_cell BK239.out 2).trans rfl; have hcz35_3 : w34.cell? ⟨gb239, 3, none⟩ = some (.int .i64 t237) := (blk_cell BK239.out 3).trans rfl; have hfz35_0 := blk_frozen BK239.out 0; have hfz35_1 := blk_frozen BK239.out 1; have hfz35_2 := blk_frozen BK239.out 2; have hfz35_3 := blk_frozen BK239.out 3) | ((with_reducible refine gate_callee (f := 12) rfl ?_); refine goesL_ (some 71) rfl rfl Try.func12 (by kernel_rfl) rfl #[.agg #[.int .i64 t234, .int .i64 t235, .int .i64 t236, .int .i64 t237], .int .i64 t235] rfl (by (try simp only [List.map_toArray, List.map_cons, List.map_nil]); first | done | rfl | (simp only [List.length_drop, List.length_take]; rfl)) ?_; (with_reducible refine (layout_Layout_Inode.calls t234 t235 t236 t237 t235 t246 t247 t248 _ A24.out).mono ?_); rintro e w36 ⟨rfl, hb⟩; refine ⟨_, rfl, ?_⟩; have n0_ := Aside0.mk (blk_below (g := gb239) (o := .cells #[.int .i64 t234, .int .i64 t235, .int .i64 t236, .int .i64 t237] 24 (0, 0)) (by (with_reducible repeat (first | refine blk_drewN ?_ _ | refine blk_drew ?_ | refine blk_alloc ?_ _)); exact BK239.out) hb); have n1_ := Aside0.mk (below_step (by repeat (first | (with_reducible first | exact HB.out | apply below_alloc | apply pw_below_drewN | apply below_drew1 | refine below_set ?_ GE239.out) | exact HB.out)) hb); clear BK239; clear HB; have BK239 := n0_; have HB := n1_; clear n0_ n1_; (try clear hb); (try clear hb2); (try clear hk); (try clear hi); have hcz37_0 : w36.cell? ⟨gb239, 0, none⟩ = some (.int .i64 t234) := (blk_cell BK239.out 0).trans rfl; have hcz37_1 : w36.cell? ⟨gb239, 1, none⟩ = some (.int .i64 t235) := (blk_cell BK239.out 1).trans rfl; have hcz37_2 : w36.cell? ⟨gb239, 2, none⟩ = some (.int .i64 t236) := (blk_cell BK239.out 2).trans rfl; have hcz37_3 : w36.cell? ⟨gb239, 3, none⟩ = some (.int .i64 t237) := (blk_cell BK239.out 3).trans rfl; have hfz37_0 := blk_frozen BK239.out 0; have hfz37_1 := blk_frozen BK239.out 1; have hfz37_2 := blk_frozen BK239.out 2; have hfz37_3 := blk_frozen BK239.out 3))
                  go_ret
                  exact ⟨by first | rfl | (simp [errW_none, errW_some] <;> rfl) | (simp [*, errW_none, errW_some] <;> rfl), by repeat (first | (with_reducible first | exact HB.out | apply below_alloc | apply pw_below_drewN | apply below_drew1 | refine below_set ?_ GE239.out) | exact HB.out)⟩
              · rw [if_neg c26] at H
                have c26b0 : (t248 == 12) = false := beq_eq_false_iff_ne.mpr c26
                have c26b1 : (t248 != 12) = true := bne_iff_ne.mpr c26
                obtain rfl := Option.some.inj H
                have hcz38_0 : wr.cell? ⟨gb239, 0, none⟩ = some (.int .i64 t234) := (blk_cell BK239.out 0).trans rfl
                have hcz38_1 : wr.cell? ⟨gb239, 1, none⟩ = some (.int .i64 t235) := (blk_cell BK239.out 1).trans rfl
                have hcz38_2 : wr.cell? ⟨gb239, 2, none⟩ = some (.int .i64 t236) := (blk_cell BK239.out 2).trans rfl
                have hcz38_3 : wr.cell? ⟨gb239, 3, none⟩ = some (.int .i64 t237) := (blk_cell BK239.out 3).trans rfl
                have hfz38_0 := blk_frozen BK239.out 0
                have hfz38_1 := blk_frozen BK239.out 1
                have hfz38_2 := blk_frozen BK239.out 2
                have hfz38_3 := blk_frozen BK239.out 3
                go_wp2_with (first | ((with_reducible refine gate_callee (f := 12) rfl ?_); refine goesL_ (some 63) rfl rfl Try.func12 (by kernel_rfl) rfl #[.agg #[.int .i64 t234, .int .i64 t235, .int .i64 t236, .int .i64 t237], .int .i64 (wrap64 (t235 - 1))] rfl (by (try simp only [List.map_toArray, List.map_cons, List.map_nil]); first | done | rfl | (simp only [List.length_drop, List.length_take]; rfl)) ?_; (with_reducible refine (layout_Layout_Inode.calls t234 t235 t236 t237 (wrap64 (t235 - 1)) t243 t244 t245 _ A23.out).mono ?_); rintro e w39 ⟨rfl, hb⟩; refine ⟨_, rfl, ?_⟩; have n0_ := Aside0.mk (blk_below (g := gb239) (o := .cells #[.int .i64 t234, .int .i64 t235, .int .i64 t236, .int .i64 t237] 24 (0, 0)) (by (with_reducible repeat (first | refine blk_drewN ?_ _ | refine blk_drew ?_ | refine blk_alloc ?_ _)); exact BK239.out) hb); have n1_ := Aside0.mk (below_step (by repeat (first | (with_reducible first | exact HB.out | apply below_alloc | apply pw_below_drewN | apply below_drew1 | refine below_set ?_ GE239.out) | exact HB.out)) hb); clear BK239; clear HB; have BK239 := n0_; have HB := n1_; clear n0_ n1_; (try clear hb); (try clear hb2); (try clear hk); (try clear hi); have hcz40_0 : w39.cell? ⟨gb239, 0, none⟩ = some (.int .i64 t234) := (blk_cell BK239.out 0).trans rfl; have hcz40_1 : w39.cell? ⟨gb239, 1, none⟩ = some (.int .i64 t235) := (blk_cell BK239.out 1).trans rfl; have hcz40_2 : w39.cell? ⟨gb239, 2, none⟩ = some (.int .i64 t236) := (blk_cell BK239.out 2).trans rfl; have hcz40_3 : w39.cell? ⟨gb239, 3, none⟩ = some (.int .i64 t237) := (blk_cell BK239.out 3).trans rfl; have hfz40_0 := blk_frozen BK239.out 0; have hfz40_1 := blk_frozen BK239.out 1; have hfz40_2 := blk_frozen BK239.out 2; have hfz40_3 := blk_frozen BK239.out 3) | ((with_reducible refine gate_callee (f := 12) rfl ?_); refine goesL_ (some 71) rfl rfl Try.func12 (by kernel_rfl) rfl #[.agg #[.int .i64 t234, .int .i64 t235, .int .i64 t236, .int .i64 t237], .int .i64 t235] rfl (by (try simp only [List.map_toArray, List.map_cons, List.map_nil]); first | done | rfl | (simp only [List.length_drop, List.length_take]; rfl)) ?_; (with_reducible refine (layout_Layout_Inode.calls t234 t235 t236 t237 t235 t246 t247 t248 _ A24.out).mono ?_); rintro e w41 ⟨rfl, hb⟩; refine ⟨_, rfl, ?_⟩; have n0_ := Aside0.mk (blk_below (g := gb239) (o := .cells #[.int .i64 t234, .int .i64 t235, .int .i64 t236, .int .i64 t237] 24 (0, 0)) (by (with_reducible repeat (first | refine blk_drewN ?_ _ | refine blk_drew ?_ | refine blk_alloc ?_ _)); exact BK239.out) hb); have n1_ := Aside0.mk (below_step (by repeat (first | (with_reducible first | exact HB.out | apply below_alloc | apply pw_below_drewN | apply below_drew1 | refine below_set ?_ GE239.out) | exact HB.out)) hb); clear BK239; clear HB; have BK239 := n0_; have HB := n1_; clear n0_ n1_; (try clear hb); (try clear hb2); (try clear hk); (try clear hi); have hcz42_0 : w41.cell? ⟨gb239, 0, none⟩ = some (.int .i64 t234) := (blk_cell BK239.out 0).trans rfl; have hcz42_1 : w41.cell? ⟨gb239, 1, none⟩ = some (.int .i64 t235) := (blk_cell BK239.out 1).trans rfl; have hcz42_2 : w41.cell? ⟨gb239, 2, none⟩ = some (.int .i64 t236) := (blk_cell BK239.out 2).trans rfl; have hcz42_3 : w41.cell? ⟨gb239, 3, none⟩ = some (.int .i64 t237) := (blk_cell BK239.out 3).trans rfl; have hfz42_0 := blk_frozen BK239.out 0; have hfz42_1 := blk_frozen BK239.out 1; have hfz42_2 := blk_frozen BK239.out 2; have hfz42_3 := blk_frozen BK239.out 3))
                go_ret
                exact ⟨by first | rfl | (simp [errW_none, errW_some] <;> rfl) | (simp [*, errW_none, errW_some] <;> rfl), by repeat (first | (with_reducible first | exact HB.out | apply below_alloc | apply pw_below_drewN | apply below_drew1 | refine below_set ?_ GE239.out) | exact HB.out)⟩
            · rw [if_neg c25] at H
              have c25b0 : (t243 == (wrap64 (t237 - 1))) = false := beq_eq_false_iff_ne.mpr c25
              have c25b1 : (t243 != (wrap64 (t237 - 1))) = true := bne_iff_ne.mpr c25
              obtain rfl := Option.some.inj H
              have hcz43_0 : wr.cell? ⟨gb239, 0, none⟩ = some (.int .i64 t234) := (blk_cell BK239.out 0).trans rfl
              have hcz43_1 : wr.cell? ⟨gb239, 1, none⟩ = some (.int .i64 t235) := (blk_cell BK239.out 1).trans rfl
              have hcz43_2 : wr.cell? ⟨gb239, 2, none⟩ = some (.int .i64 t236) := (blk_cell BK239.out 2).trans rfl
              have hcz43_3 : wr.cell? ⟨gb239, 3, none⟩ = some (.int .i64 t237) := (blk_cell BK239.out 3).trans rfl
              have hfz43_0 := blk_frozen BK239.out 0
              have hfz43_1 := blk_frozen BK239.out 1
              have hfz43_2 := blk_frozen BK239.out 2
              have hfz43_3 := blk_frozen BK239.out 3
              go_wp2_with (first | ((with_reducible refine gate_callee (f := 12) rfl ?_); refine goesL_ (some 63) rfl rfl Try.func12 (by kernel_rfl) rfl #[.agg #[.int .i64 t234, .int .i64 t235, .int .i64 t236, .int .i64 t237], .int .i64 (wrap64 (t235 - 1))] rfl (by (try simp only [List.map_toArray, List.map_cons, List.map_nil]); first | done | rfl | (simp only [List.length_drop, List.length_take]; rfl)) ?_; (with_reducible refine (layout_Layout_Inode.calls t234 t235 t236 t237 (wrap64 (t235 - 1)) t243 t244 t245 _ A23.out).mono ?_); rintro e w44 ⟨rfl, hb⟩; refine ⟨_, rfl, ?_⟩; have n0_ := Aside0.mk (blk_below (g := gb239) (o := .cells #[.int .i64 t234, .int .i64 t235, .int .i64 t236, .int .i64 t237] 24 (0, 0)) (by (with_reducible repeat (first | refine blk_drewN ?_ _ | refine blk_drew ?_ | refine blk_alloc ?_ _)); exact BK239.out) hb); have n1_ := Aside0.mk (below_step (by repeat (first | (with_reducible first | exact HB.out | apply below_alloc | apply pw_below_drewN | apply below_drew1 | refine below_set ?_ GE239.out) | exact HB.out)) hb); clear BK239; clear HB; have BK239 := n0_; have HB := n1_; clear n0_ n1_; (try clear hb); (try clear hb2); (try clear hk); (try clear hi); have hcz45_0 : w44.cell? ⟨gb239, 0, none⟩ = some (.int .i64 t234) := (blk_cell BK239.out 0).trans rfl; have hcz45_1 : w44.cell? ⟨gb239, 1, none⟩ = some (.int .i64 t235) := (blk_cell BK239.out 1).trans rfl; have hcz45_2 : w44.cell? ⟨gb239, 2, none⟩ = some (.int .i64 t236) := (blk_cell BK239.out 2).trans rfl; have hcz45_3 : w44.cell? ⟨gb239, 3, none⟩ = some (.int .i64 t237) := (blk_cell BK239.out 3).trans rfl; have hfz45_0 := blk_frozen BK239.out 0; have hfz45_1 := blk_frozen BK239.out 1; have hfz45_2 := blk_frozen BK239.out 2; have hfz45_3 := blk_frozen BK239.out 3) | ((with_reducible refine gate_callee (f := 12) rfl ?_); refine goesL_ (some 71) rfl rfl Try.func12 (by kernel_rfl) rfl #[.agg #[.int .i64 t234, .int .i64 t235, .int .i64 t236, .int .i64 t237], .int .i64 t235] rfl (by (try simp only [List.map_toArray, List.map_cons, List.map_nil]); first | done | rfl | (simp only [List.length_drop, List.length_take]; rfl)) ?_; (with_reducible refine (layout_Layout_Inode.calls t234 t235 t236 t237 t235 t246 t247 t248 _ A24.out).mono ?_); rintro e w46 ⟨rfl, hb⟩; refine ⟨_, rfl, ?_⟩; have n0_ := Aside0.mk (blk_below (g := gb239) (o := .cells #[.int .i64 t234, .int .i64 t235, .int .i64 t236, .int .i64 t237] 24 (0, 0)) (by (with_reducible repeat (first | refine blk_drewN ?_ _ | refine blk_drew ?_ | refine blk_alloc ?_ _)); exact BK239.out) hb); have n1_ := Aside0.mk (below_step (by repeat (first | (with_reducible first | exact HB.out | apply below_alloc | apply pw_below_drewN | apply below_drew1 | refine below_set ?_ GE239.out) | exact HB.out)) hb); clear BK239; clear HB; have BK239 := n0_; have HB := n1_; clear n0_ n1_; (try clear hb); (try clear hb2); (try clear hk); (try clear hi); have hcz47_0 : w46.cell? ⟨gb239, 0, none⟩ = some (.int .i64 t234) := (blk_cell BK239.out 0).trans rfl; have hcz47_1 : w46.cell? ⟨gb239, 1, none⟩ = some (.int .i64 t235) := (blk_cell BK239.out 1).trans rfl; have hcz47_2 : w46.cell? ⟨gb239, 2, none⟩ = some (.int .i64 t236) := (blk_cell BK239.out 2).trans rfl; have hcz47_3 : w46.cell? ⟨gb239, 3, none⟩ = some (.int .i64 t237) := (blk_cell BK239.out 3).trans rfl; have hfz47_0 := blk_frozen BK239.out 0; have hfz47_1 := blk_frozen BK239.out 1; have hfz47_2 := blk_frozen BK239.out 2; have hfz47_3 := blk_frozen BK239.out 3))
              go_ret
              exact ⟨by first | rfl | (simp [errW_none, errW_some] <;> rfl) | (simp [*, errW_none, errW_some] <;> rfl), by repeat (first | (with_reducible first | exact HB.out | apply below_alloc | apply pw_below_drewN | apply below_drew1 | refine below_set ?_ GE239.out) | exact HB.out)⟩
    · rw [if_neg c6] at H
      have c6b0 : (t238 == 0) = false := beq_eq_false_iff_ne.mpr c6
      have c6b1 : (t238 != 0) = true := bne_iff_ne.mpr c6
      obtain rfl := Option.some.inj H
      go_enter Try.func6, Try.ntmps6
      go_wp2_with (first | ((with_reducible refine gate_callee (f := 8) rfl ?_); refine goesL_ (some 18) rfl rfl Try.func8 (by kernel_rfl) rfl #[] rfl (by (try simp only [List.map_toArray, List.map_cons, List.map_nil]); first | done | rfl | (simp only [List.length_drop, List.length_take]; rfl)) ?_; (with_reducible refine (reliquarylaw17_awake.calls k  true _ A3.out).mono ?_); rintro e w48 ⟨rfl, hb⟩; refine ⟨_, rfl, ?_⟩; have n0_ := Aside0.mk (below_step (by repeat (first | (with_reducible first | exact HB.out | apply below_alloc | apply pw_below_drewN | apply below_drew1) | exact HB.out)) hb); clear HB; have HB := n0_; clear n0_; (try clear hb); (try clear hb2); (try clear hk); (try clear hi)) | ((with_reducible refine gate_callee (f := 9) rfl ?_); refine goesL_ (some 26) rfl rfl Try.func9 (by kernel_rfl) rfl #[.int .i64 (wrap64 (a0)), .int .i64 (wrap64 (a1))] rfl (by (try simp only [List.map_toArray, List.map_cons, List.map_nil]); first | done | rfl | (simp only [List.length_drop, List.length_take]; rfl)) ?_; (with_reducible refine (layout_New.calls k (wrap64 (a0)) (wrap64 (a1)) t234 t235 t236 t237 t238 _ A5.out).mono ?_); rintro e w49 ⟨rfl, hb⟩; refine ⟨_, rfl, ?_⟩; have n0_ := Aside0.mk (below_step (by repeat (first | (with_reducible first | exact HB.out | apply below_alloc | apply pw_below_drewN | apply below_drew1) | exact HB.out)) hb); clear HB; have HB := n0_; clear n0_; (try clear hb); (try clear hb2); (try clear hk); (try clear hi)) | ((with_reducible refine gate_dst (N := 6) rfl ?_); refine box_event ?hg (N := 6) ?hd (cs := #[.int .i64 0, .int .i64 0, .int .i64 0, .int .i64 0]) (t := 24) ?hr ?_; (case hd => rfl); (case hg => rfl); (case hr => first | (go_simp; done) | (go_simp; rfl)); intro gb239 hg w50 hbox hb; have n0_ := Aside0.mk (below_step (by repeat (first | (with_reducible first | exact HB.out | apply below_alloc | apply pw_below_drewN | apply below_drew1) | exact HB.out)) hb); have n1_ := Aside0.mk (hbox); have n2_ := Aside0.mk ((by rw [hg]; exact (below_size (by repeat (first | (with_reducible first | exact HB.out | apply below_alloc | apply pw_below_drewN | apply below_drew1) | exact HB.out))) : w.heap.size ≤ gb239)); have n3_ := Aside0.mk ((by rw [hg]; exact (below_size (by repeat (first | (with_reducible first | exact HB.out | apply below_alloc | apply pw_below_drewN | apply below_drew1) | exact HB.out))) : w.heap.size ≤ gb239)); clear HB; have HB := n0_; have BK239 := n1_; have GW239 := n2_; have GE239 := n3_; clear n0_ n1_ n2_ n3_; clear hb hbox hg; have hcz51_0 : w50.cell? ⟨gb239, 0, none⟩ = some (.int .i64 0) := (blk_cell BK239.out 0).trans rfl; have hcz51_1 : w50.cell? ⟨gb239, 1, none⟩ = some (.int .i64 0) := (blk_cell BK239.out 1).trans rfl; have hcz51_2 : w50.cell? ⟨gb239, 2, none⟩ = some (.int .i64 0) := (blk_cell BK239.out 2).trans rfl; have hcz51_3 : w50.cell? ⟨gb239, 3, none⟩ = some (.int .i64 0) := (blk_cell BK239.out 3).trans rfl; have hfz51_0 := blk_frozen BK239.out 0; have hfz51_1 := blk_frozen BK239.out 1; have hfz51_2 := blk_frozen BK239.out 2; have hfz51_3 := blk_frozen BK239.out 3))
      go_ret
      exact ⟨by first | rfl | (simp [errW_none, errW_some] <;> rfl) | (simp [*, errW_none, errW_some] <;> rfl), by repeat (first | (with_reducible first | exact HB.out | apply below_alloc | apply pw_below_drewN | apply below_drew1 | refine below_set ?_ GE239.out) | exact HB.out)⟩
  · replace c4 := Bool.eq_false_iff.mpr c4
    subst c4
    have H1 : (some false) = some r := by rw [if_neg (show ¬ (false = true) by decide)] at H; exact H
    clear H
    have H := H1
    clear H1
    obtain rfl := Option.some.inj H
    go_enter Try.func6, Try.ntmps6
    go_wp2_with (first | ((with_reducible refine gate_callee (f := 8) rfl ?_); refine goesL_ (some 18) rfl rfl Try.func8 (by kernel_rfl) rfl #[] rfl (by (try simp only [List.map_toArray, List.map_cons, List.map_nil]); first | done | rfl | (simp only [List.length_drop, List.length_take]; rfl)) ?_; (with_reducible refine (reliquarylaw17_awake.calls k  false _ A3.out).mono ?_); rintro e w52 ⟨rfl, hb⟩; refine ⟨_, rfl, ?_⟩; have n0_ := Aside0.mk (below_step (by repeat (first | (with_reducible first | exact HB.out | apply below_alloc | apply pw_below_drewN | apply below_drew1) | exact HB.out)) hb); clear HB; have HB := n0_; clear n0_; (try clear hb); (try clear hb2); (try clear hk); (try clear hi)))
    go_ret
    exact ⟨by first | rfl | (simp [errW_none, errW_some] <;> rfl) | (simp [*, errW_none, errW_some] <;> rfl), by repeat (first | (with_reducible first | exact HB.out | apply below_alloc | apply pw_below_drewN | apply below_drew1) | exact HB.out)⟩

/-- THE ONE PURE STATEMENT of reliquarylaw17_LayoutRooms: yours. -/
def reliquarylaw17_LayoutRooms.Pure : Prop := ∀ (a0 : Int) (a1 : Int), (Lit.int .u16 a0).wf = true → (Lit.int .u16 a1).wf = true → ∃ k, reliquarylaw17_LayoutRooms.f k a0 a1 = some true
theorem reliquarylaw17_LayoutRooms.walk (P : reliquarylaw17_LayoutRooms.Pure) (a0 : Int) (a1 : Int) (w : World) (w0 : (Lit.int .u16 a0).wf = true) (w1 : (Lit.int .u16 a1).wf = true) :
    Calls Try.prog 6 #[.int .u16 a0, .int .u16 a1] w fun e w' => e = .returned (.bool true) ∧ Below w.heap.size w w' := by
  obtain ⟨k, h⟩ := P a0 a1 w0 w1
  refine (reliquarylaw17_LayoutRooms.calls k a0 a1 true w h).mono ?_
  rintro e w' ⟨rfl, hd⟩
  exact ⟨rfl, hd⟩

end Go.Proofs.Ytllbgccdcibopaa.Q
