/- EntriesKeep: for every input the statement's function returns true; there is no further condition. Text 6 of 7: this session's texts, and of the words that print.sh has printed those that are needed, laid together by its own program (merge.py). Not trusted: Lean checks them. -/
import Derived.Test.YtkkflgdobgbmmaaMEntriesKeep1
import Derived.Test.YtkkflgdobgbmmaaMEntriesKeep2
import Derived.Test.YtkkflgdobgbmmaaMEntriesKeep3
import Derived.Test.YtkkflgdobgbmmaaMEntriesKeep4
section
namespace Go.Proofs.Ytkkflgdobgbmmaa.Q
open Go.RowKit Go.Proofs.YtkkflgdobgbmmaaW.PrintWords Go.Proofs.YtkkflgdobgbmmaaW.PrintLast Go.Proofs.YtkkflgdobgbmmaaW.PrintMore
attribute [local go_sem] max2_int min2_int max_two min_two max_three min_three max_four min_four   -- for this text's walks alone
set_option linter.unusedVariables false
set_option linter.unusedSimpArgs false
set_option maxHeartbeats 8000000 in
set_option maxRecDepth 100000 in
theorem reliquarylaw22_EntriesKeep.calls (k : Nat) (A0 : Option Addr) (c0 : Nat) (l0 : List (S55)) (r : Bool) (w : World) (hr0 : Kd.C k55 w A0 l0.length l0) (hc0 : l0.length ≤ c0) (h : reliquarylaw22_EntriesKeep.f k l0 = some r) :
    Calls Try.prog 6 #[.slice A0 l0.length c0] w fun e w' => e = .returned (.bool r) ∧ Below w.heap.size w w' := by
  have hu55 := Try.underlying55
  have hu28 := Try.underlying28
  have HR0 := Aside0.mk hr0
  have HC0 := Aside0.mk hc0
  clear hr0 hc0
  have HB := Aside0.mk (Below.refl w.heap.size w)
  have H : ((reliquarylaw22_awake.f k).bind fun t345 => (if t345 = true then ((entries_New.f 1).bind fun t346 => (reliquarylaw22_EntriesKeep.l0 k l0 t346 ([] : List ByteArray) ([] : List Int) 0)) else (some false))) = some r := h
  clear h
  replace H := Option.bind_eq_some_iff.mp H
  obtain ⟨t345, A20, H⟩ := H
  replace H : (if t345 = true then ((entries_New.f 1).bind fun t346 => (reliquarylaw22_EntriesKeep.l0 k l0 t346 ([] : List ByteArray) ([] : List Int) 0)) else (some false)) = some r := H
  have A2 := Aside0.mk A20
  clear A20
  by_cases c3 : t345 = true
  · subst c3
    have H1 : ((entries_New.f 1).bind fun t346 => (reliquarylaw22_EntriesKeep.l0 k l0 t346 ([] : List ByteArray) ([] : List Int) 0)) = some r := by rw [if_pos rfl] at H; exact H
    clear H
    have H := H1
    clear H1
    replace H := Option.bind_eq_some_iff.mp H
    obtain ⟨t346, A40, H⟩ := H
    replace H : (reliquarylaw22_EntriesKeep.l0 k l0 t346 ([] : List ByteArray) ([] : List Int) 0) = some r := H
    have A4 := Aside0.mk A40
    clear A40
    have H' := Aside0.mk H
    clear H
    go_enter Try.func6, Try.ntmps6
    go_wp2_with (first | (go_at_call 9; (with_reducible refine (reliquarylaw22_awake.calls k  true _ A2.out).mono ?_); rintro e w5 ⟨rfl, hb⟩; have n0_ := Aside0.mk (below_step (by repeat (first | (with_reducible first | exact HB.out | apply below_alloc | apply pw_below_drewN | apply below_drew1) | exact HB.out)) hb); clear HB; have HB := n0_; clear n0_; (try clear hb); (try clear hb2); (try clear hk); (try clear hi)) | (go_at_call 22; (with_reducible refine (entries_New.calls 1 t346 _ A4.out).mono ?_); rintro e w6 ⟨v347, rfl, ho0, hb⟩; have n0_ := Aside0.mk (Kd.R_lower ho0 (below_size (by repeat (first | (with_reducible first | exact HB.out | apply below_alloc | apply pw_below_drewN | apply below_drew1) | exact HB.out)))); have n1_ := Aside0.mk (below_step (by repeat (first | (with_reducible first | exact HB.out | apply below_alloc | apply pw_below_drewN | apply below_drew1) | exact HB.out)) hb); clear HB; have HO348 := n0_; have HB := n1_; clear n0_ n1_; (try clear hb); (try clear hb2); (try clear hk); (try clear hi); (try clear ho0)))
    go_loopg [4, 5, 6, 7] k (fun kq v4 v5 v6 v7 w' => ∃ (x4_1 : List Int) (x5_1 : List ByteArray) (x6_1 : List Int) (x7_1 : Int), v7 = .int .i64 x7_1 ∧ Aside0 (reliquarylaw22_EntriesKeep.l0 kq l0 x4_1 x5_1 x6_1 x7_1 = some r) ∧ Aside0 (kq ≤ k) ∧ Aside0 (Kd.R (Kd.int .u8) 5 w' w.heap.size (fun _ => True) v4 x4_1) ∧ Aside0 (Kd.R Kd.string 9 w' w.heap.size (fun _ => True) v5 x5_1) ∧ Aside0 (Kd.R (Kd.int .i64) 3 w' w.heap.size (fun _ => True) v6 x6_1) ∧ Aside0 (Below w.heap.size w w'))
    case atStart => exact ⟨(t346), (([] : List ByteArray)), (([] : List Int)), (0), (by first | rfl | (simp; done) | (simp [*]; done)), H', ⟨Nat.le_refl _⟩, ⟨by (with_reducible repeat (first | apply Kd.R_alloc | apply Kd.R_drewN | apply Kd.R_drew)); exact HO348.out⟩, ⟨by first | exact Kd.R_nil _ _ _ _ _ | exact Kd.N_nil _ _ _ _ _ | exact Kd.V_nil _ _ _ _ _ | exact Kd.Q_nil _ _ _ _ _ | exact Kd.S_nil _ _ _ _ _⟩, ⟨by first | exact Kd.R_nil _ _ _ _ _ | exact Kd.N_nil _ _ _ _ _ | exact Kd.V_nil _ _ _ _ _ | exact Kd.Q_nil _ _ _ _ _ | exact Kd.S_nil _ _ _ _ _⟩, ⟨by repeat (first | (with_reducible first | exact HB.out | apply below_alloc | apply pw_below_drewN | apply below_drew1) | exact HB.out)⟩⟩
    case round => as_aux_lemma =>
      clear H'
      try clear p2
      try clear c3
      try clear c6
      obtain ⟨x4_1, x5_1, x6_1, x7_1, rfl, HA, HK1, HO_4, HO_5, HO_6, HB⟩ := hrel
      cases gk with
      | zero => exact absurd HA.out (by simp [reliquarylaw22_EntriesKeep.l0])
      | succ k1 =>
        have H := HA.out
        clear HA
        simp only [reliquarylaw22_EntriesKeep.l0] at H
        have HC7 := Aside0.mk H
        clear H
        go_upto_region 8 with (fail)
        go_cut [32] (fun v32 wc => ∃ (kq : Nat) (x32_6 : Bool), v32 = .bool x32_6 ∧ Aside0 (reliquarylaw22_EntriesKeep.j1 kq l0 x4_1 x5_1 x6_1 x7_1 x32_6 = some r) ∧ Aside0 (kq ≤ k1) ∧ Aside0 (Kd.R (Kd.int .u8) 5 wc w.heap.size (fun _ => True) u4 x4_1) ∧ Aside0 (Kd.R Kd.string 9 wc w.heap.size (fun _ => True) u5 x5_1) ∧ Aside0 (Kd.R (Kd.int .i64) 3 wc w.heap.size (fun _ => True) u6 x6_1) ∧ Aside0 (Below w.heap.size w wc))
        case first => as_aux_lemma =>
          have H := HC7.out
          clear HC7
          by_cases c8 : x7_1 < (l0.length : Int)
          · rw [if_pos c8] at H
            have c8b0 : decide (x7_1 < (l0.length : Int)) = true := decide_eq_true c8
            clear c8
            (first | rw [c8b0] | (simp only [i64_w, i32_w]; rw [c8b0]) | skip)
            have H' := Aside0.mk H
            clear H
            go_wp2
            go_meet
            case rel => exact ⟨_, (decide (x7_1 < 30)), (by first | rfl | (simp; done) | (simp [*]; done)), H', ⟨by have := HK1.out; first | omega | exact Nat.le_refl _⟩, ⟨by (with_reducible repeat (first | apply Kd.R_alloc | apply Kd.R_drewN | apply Kd.R_drew)); exact HO_4.out⟩, ⟨by (with_reducible repeat (first | apply Kd.R_alloc | apply Kd.R_drewN | apply Kd.R_drew)); exact HO_5.out⟩, ⟨by (with_reducible repeat (first | apply Kd.R_alloc | apply Kd.R_drewN | apply Kd.R_drew)); exact HO_6.out⟩, ⟨by repeat (first | (with_reducible first | exact HB.out | apply below_alloc | apply pw_below_drewN | apply below_drew1) | exact HB.out)⟩⟩
          · rw [if_neg c8] at H
            have c8b0 : decide (x7_1 < (l0.length : Int)) = false := decide_eq_false c8
            clear c8
            (first | rw [c8b0] | (simp only [i64_w, i32_w]; rw [c8b0]) | skip)
            have H' := Aside0.mk H
            clear H
            go_wp2
            go_meet
            case rel => exact ⟨_, (false), (by first | rfl | (simp; done) | (simp [*]; done)), H', ⟨by have := HK1.out; first | omega | exact Nat.le_refl _⟩, ⟨by (with_reducible repeat (first | apply Kd.R_alloc | apply Kd.R_drewN | apply Kd.R_drew)); exact HO_4.out⟩, ⟨by (with_reducible repeat (first | apply Kd.R_alloc | apply Kd.R_drewN | apply Kd.R_drew)); exact HO_5.out⟩, ⟨by (with_reducible repeat (first | apply Kd.R_alloc | apply Kd.R_drewN | apply Kd.R_drew)); exact HO_6.out⟩, ⟨by repeat (first | (with_reducible first | exact HB.out | apply below_alloc | apply pw_below_drewN | apply below_drew1) | exact HB.out)⟩⟩
        case rest => as_aux_lemma =>
          clear HC7
          try clear p2
          try clear c3
          try clear c6
          try clear c8
          try clear c8b0
          try clear p2
          obtain ⟨kq, x32_6, rfl, HA, HJ6, HO_4, HO_5, HO_6, HB⟩ := hcut
          cases kq with
          | zero => exact absurd HA.out (by simp [reliquarylaw22_EntriesKeep.j1])
          | succ kj6 =>
            have H := HA.out
            clear HA
            simp only [reliquarylaw22_EntriesKeep.j1] at H
            by_cases c9 : x32_6 = true
            · subst c9
              have H1 : (if 0 ≤ x7_1 then (if x7_1 < (l0.length : Int) then (if (((rd_T55 l0 x7_1).f0).size : Int) > 100 then (some true) else (reliquarylaw22_EntriesKeep.l1 kj6 l0 x4_1 x5_1 x6_1 x7_1 (-1) 0 ((rd_T55 l0 x7_1).f0) ((rd_T55 l0 x7_1).f1) ((rd_T55 l0 x7_1).f2))) else (none)) else (none)) = some r := by rw [if_pos rfl] at H; exact H
              clear H
              have H := H1
              clear H1
              by_cases c10 : 0 ≤ x7_1
              · rw [if_pos c10] at H
                have c10b0 : decide (0 ≤ x7_1) = true := decide_eq_true c10
                clear c10
                by_cases c11 : x7_1 < (l0.length : Int)
                · rw [if_pos c11] at H
                  have c11b0 : decide (x7_1 < (l0.length : Int)) = true := decide_eq_true c11
                  clear c11
                  by_cases c12 : (((rd_T55 l0 x7_1).f0).size : Int) > 100
                  · rw [if_pos c12] at H
                    have c12b0 : decide (100 < (((rd_T55 l0 x7_1).f0).size : Int)) = true := decide_eq_true c12
                    have c12b1 : decide (100 < ((rd_T55 l0 x7_1).f0).size) = true := decide_eq_true (by omega)
                    clear c12
                    obtain rfl := Option.some.inj H
                    have p349 : 0 ≤ (x7_1 : Int) := of_decide_eq_true (by first | (with_reducible assumption) | assumption)
                    have q349 : x7_1 < (l0.length : Int) := of_decide_eq_true (by first | (with_reducible assumption) | assumption)
                    obtain ⟨ad349, e349, hx349_0, hx349_1, hx349_2⟩ := at_T55 HR0.out x7_1 p349 q349
                    cases e349
                    replace hx349_0 := (HB.out.cell (World.block_lt_of_cell? w _ hx349_0)).trans hx349_0
                    replace hx349_1 := (HB.out.cell (World.block_lt_of_cell? w _ hx349_1)).trans hx349_1
                    replace hx349_2 := (HB.out.cell (World.block_lt_of_cell? w _ hx349_2)).trans hx349_2
                    replace p349 := eq_true p349
                    replace q349 := eq_true q349
                    go_wp2_with (first | ((with_reducible refine gate_dst (N := 8) rfl ?_); (try (refine gate_guard (by rfl) ?_; dsimp only)); refine box_event ?hg (N := 8) ?hd (cs := #[.string (⟨#[]⟩ : ByteArray), .int .u16 0, .bool false]) (t := 55) ?hr ?_; (case hd => rfl); (case hg => rfl); (case hr => first | (go_simp; done) | (go_simp; rfl)); intro gb350 hg w13 hbox hb; have n0_ := Aside0.mk (Kd.R_below (by (with_reducible repeat (first | apply Kd.R_alloc | apply Kd.R_drewN | apply Kd.R_drew)); exact HO_4.out) hb); have n1_ := Aside0.mk (Kd.R_below (by (with_reducible repeat (first | apply Kd.R_alloc | apply Kd.R_drewN | apply Kd.R_drew)); exact HO_5.out) hb); have n2_ := Aside0.mk (Kd.R_below (by (with_reducible repeat (first | apply Kd.R_alloc | apply Kd.R_drewN | apply Kd.R_drew)); exact HO_6.out) hb); have n3_ := Aside0.mk (below_step (by repeat (first | (with_reducible first | exact HB.out | apply below_alloc | apply pw_below_drewN | apply below_drew1) | exact HB.out)) hb); have n4_ := Aside0.mk (hbox); have n5_ := Aside0.mk ((by rw [hg]; exact (below_size (by repeat (first | (with_reducible first | exact HB.out | apply below_alloc | apply pw_below_drewN | apply below_drew1) | exact HB.out))) : w.heap.size ≤ gb350)); have n6_ := Aside0.mk ((by rw [hg]; exact (below_size (by repeat (first | (with_reducible first | exact HB.out | apply below_alloc | apply pw_below_drewN | apply below_drew1) | exact HB.out))) : w.heap.size ≤ gb350)); clear HO_4; clear HO_5; clear HO_6; clear HB; have HO_4 := n0_; have HO_5 := n1_; have HO_6 := n2_; have HB := n3_; have BK350 := n4_; have GW350 := n5_; have GE350 := n6_; clear n0_ n1_ n2_ n3_ n4_ n5_ n6_; clear hb hbox hg; have hcz14_0 : w13.cell? ⟨gb350, 0, none⟩ = some (.string (⟨#[]⟩ : ByteArray)) := (blk_cell BK350.out 0).trans rfl; have hcz14_1 : w13.cell? ⟨gb350, 1, none⟩ = some (.int .u16 0) := (blk_cell BK350.out 1).trans rfl; have hcz14_2 : w13.cell? ⟨gb350, 2, none⟩ = some (.bool false) := (blk_cell BK350.out 2).trans rfl; have hfz14_0 := blk_frozen BK350.out 0; have hfz14_1 := blk_frozen BK350.out 1; have hfz14_2 := blk_frozen BK350.out 2))
                    go_ret
                    exact ⟨by first | rfl | (simp [errW_none, errW_some] <;> rfl) | (simp [*, errW_none, errW_some] <;> rfl), by repeat (first | (with_reducible first | exact HB.out | apply below_alloc | apply pw_below_drewN | apply below_drew1 | refine below_set ?_ GE350.out) | exact HB.out)⟩
                  · rw [if_neg c12] at H
                    have c12b0 : decide (100 < (((rd_T55 l0 x7_1).f0).size : Int)) = false := decide_eq_false c12
                    have c12b1 : decide (100 < ((rd_T55 l0 x7_1).f0).size) = false := decide_eq_false (by omega)
                    clear c12
                    have H' := Aside0.mk H
                    clear H
                    have p349 : 0 ≤ (x7_1 : Int) := of_decide_eq_true (by first | (with_reducible assumption) | assumption)
                    have q349 : x7_1 < (l0.length : Int) := of_decide_eq_true (by first | (with_reducible assumption) | assumption)
                    obtain ⟨ad349, e349, hx349_0, hx349_1, hx349_2⟩ := at_T55 HR0.out x7_1 p349 q349
                    cases e349
                    replace hx349_0 := (HB.out.cell (World.block_lt_of_cell? w _ hx349_0)).trans hx349_0
                    replace hx349_1 := (HB.out.cell (World.block_lt_of_cell? w _ hx349_1)).trans hx349_1
                    replace hx349_2 := (HB.out.cell (World.block_lt_of_cell? w _ hx349_2)).trans hx349_2
                    replace p349 := eq_true p349
                    replace q349 := eq_true q349
                    go_wp2_with (first | ((with_reducible refine gate_dst (N := 8) rfl ?_); (try (refine gate_guard (by rfl) ?_; dsimp only)); refine box_event ?hg (N := 8) ?hd (cs := #[.string (⟨#[]⟩ : ByteArray), .int .u16 0, .bool false]) (t := 55) ?hr ?_; (case hd => rfl); (case hg => rfl); (case hr => first | (go_simp; done) | (go_simp; rfl)); intro gb350 hg w15 hbox hb; have n0_ := Aside0.mk (Kd.R_below (by (with_reducible repeat (first | apply Kd.R_alloc | apply Kd.R_drewN | apply Kd.R_drew)); exact HO_4.out) hb); have n1_ := Aside0.mk (Kd.R_below (by (with_reducible repeat (first | apply Kd.R_alloc | apply Kd.R_drewN | apply Kd.R_drew)); exact HO_5.out) hb); have n2_ := Aside0.mk (Kd.R_below (by (with_reducible repeat (first | apply Kd.R_alloc | apply Kd.R_drewN | apply Kd.R_drew)); exact HO_6.out) hb); have n3_ := Aside0.mk (below_step (by repeat (first | (with_reducible first | exact HB.out | apply below_alloc | apply pw_below_drewN | apply below_drew1) | exact HB.out)) hb); have n4_ := Aside0.mk (hbox); have n5_ := Aside0.mk ((by rw [hg]; exact (below_size (by repeat (first | (with_reducible first | exact HB.out | apply below_alloc | apply pw_below_drewN | apply below_drew1) | exact HB.out))) : w.heap.size ≤ gb350)); have n6_ := Aside0.mk ((by rw [hg]; exact (below_size (by repeat (first | (with_reducible first | exact HB.out | apply below_alloc | apply pw_below_drewN | apply below_drew1) | exact HB.out))) : w.heap.size ≤ gb350)); clear HO_4; clear HO_5; clear HO_6; clear HB; have HO_4 := n0_; have HO_5 := n1_; have HO_6 := n2_; have HB := n3_; have BK350 := n4_; have GW350 := n5_; have GE350 := n6_; clear n0_ n1_ n2_ n3_ n4_ n5_ n6_; clear hb hbox hg; have hcz16_0 : w15.cell? ⟨gb350, 0, none⟩ = some (.string (⟨#[]⟩ : ByteArray)) := (blk_cell BK350.out 0).trans rfl; have hcz16_1 : w15.cell? ⟨gb350, 1, none⟩ = some (.int .u16 0) := (blk_cell BK350.out 1).trans rfl; have hcz16_2 : w15.cell? ⟨gb350, 2, none⟩ = some (.bool false) := (blk_cell BK350.out 2).trans rfl; have hfz16_0 := blk_frozen BK350.out 0; have hfz16_1 := blk_frozen BK350.out 1; have hfz16_2 := blk_frozen BK350.out 2))
                    go_loopg [9, 10] kj6 (fun kq v9 v10 w' => ∃ (x9_3 : Int) (x10_3 : Int), v9 = .int .i64 x9_3 ∧ v10 = .int .i64 x10_3 ∧ Aside0 (reliquarylaw22_EntriesKeep.l1 kq l0 x4_1 x5_1 x6_1 x7_1 x9_3 x10_3 ((rd_T55 l0 x7_1).f0) ((rd_T55 l0 x7_1).f1) ((rd_T55 l0 x7_1).f2) = some r) ∧ Aside0 (kq ≤ kj6) ∧ Aside0 (Kd.R (Kd.int .u8) 5 w' w.heap.size (fun _ => True) u4 x4_1) ∧ Aside0 (Kd.R Kd.string 9 w' w.heap.size (fun _ => True) u5 x5_1) ∧ Aside0 (Kd.R (Kd.int .i64) 3 w' w.heap.size (fun _ => True) u6 x6_1) ∧ Aside0 (w'.heap[gb350]? = some (.cells #[.string ((rd_T55 l0 x7_1).f0), .int .u16 ((rd_T55 l0 x7_1).f1), .bool ((rd_T55 l0 x7_1).f2)] 55 (0, 0))) ∧ Aside0 (Below w.heap.size w w'))
                    case atStart => exact ⟨((-1)), (0), (by first | rfl | (simp; done) | (simp [*]; done)), (by first | rfl | (simp; done) | (simp [*]; done)), H', ⟨Nat.le_refl _⟩, ⟨by (with_reducible repeat (first | apply Kd.R_alloc | apply Kd.R_drewN | apply Kd.R_drew)); exact Kd.R_mono (Kd.R_far (p := ⟨gb350, 2, none⟩) (Kd.R_far (p := ⟨gb350, 1, none⟩) (Kd.R_far (p := ⟨gb350, 0, none⟩) (Kd.R_types HO_4.out BK350.out (by decide)) (fun _ hk => hk.2) (.string ((rd_T55 l0 x7_1).f0))) (fun _ hk => hk.2) (.int .u16 ((rd_T55 l0 x7_1).f1))) (fun _ hk => hk.2) (.bool ((rd_T55 l0 x7_1).f2))) (fun _ hk => trivial)⟩, ⟨by (with_reducible repeat (first | apply Kd.R_alloc | apply Kd.R_drewN | apply Kd.R_drew)); exact Kd.R_mono (Kd.R_far (p := ⟨gb350, 2, none⟩) (Kd.R_far (p := ⟨gb350, 1, none⟩) (Kd.R_far (p := ⟨gb350, 0, none⟩) (Kd.R_types HO_5.out BK350.out (by decide)) (fun _ hk => hk.2) (.string ((rd_T55 l0 x7_1).f0))) (fun _ hk => hk.2) (.int .u16 ((rd_T55 l0 x7_1).f1))) (fun _ hk => hk.2) (.bool ((rd_T55 l0 x7_1).f2))) (fun _ hk => trivial)⟩, ⟨by (with_reducible repeat (first | apply Kd.R_alloc | apply Kd.R_drewN | apply Kd.R_drew)); exact Kd.R_mono (Kd.R_far (p := ⟨gb350, 2, none⟩) (Kd.R_far (p := ⟨gb350, 1, none⟩) (Kd.R_far (p := ⟨gb350, 0, none⟩) (Kd.R_types HO_6.out BK350.out (by decide)) (fun _ hk => hk.2) (.string ((rd_T55 l0 x7_1).f0))) (fun _ hk => hk.2) (.int .u16 ((rd_T55 l0 x7_1).f1))) (fun _ hk => hk.2) (.bool ((rd_T55 l0 x7_1).f2))) (fun _ hk => trivial)⟩, ⟨by (with_reducible repeat (first | refine blk_drewN ?_ _ | refine blk_drew ?_ | refine blk_alloc ?_ _)); refine blk_put (cs := #[.string ((rd_T55 l0 x7_1).f0), .int .u16 ((rd_T55 l0 x7_1).f1), .bool false]) ?_ 2 _ rfl; (with_reducible repeat (first | refine blk_drewN ?_ _ | refine blk_drew ?_ | refine blk_alloc ?_ _)); refine blk_put (cs := #[.string ((rd_T55 l0 x7_1).f0), .int .u16 0, .bool false]) ?_ 1 _ rfl; (with_reducible repeat (first | refine blk_drewN ?_ _ | refine blk_drew ?_ | refine blk_alloc ?_ _)); refine blk_put (cs := #[.string (⟨#[]⟩ : ByteArray), .int .u16 0, .bool false]) ?_ 0 _ rfl; (with_reducible repeat (first | refine blk_drewN ?_ _ | refine blk_drew ?_ | refine blk_alloc ?_ _)); exact BK350.out⟩, ⟨by repeat (first | (with_reducible first | exact HB.out | apply below_alloc | apply pw_below_drewN | apply below_drew1 | refine below_set ?_ GE350.out) | exact HB.out)⟩⟩
                    case round => as_aux_lemma =>
                      clear H'
                      try clear c1
                      try clear p2
                      try clear c3
                      try clear p3
                      try clear q3
                      try clear hx3
                      try clear c6
                      try clear c8
                      try clear c8b0
                      try clear c9
                      try clear c10
                      try clear c10b0
                      try clear c11
                      try clear c11b0
                      try clear c12
                      try clear c12b0
                      try clear c12b1
                      try clear hcz14_0
                      try clear hcz14_1
                      try clear hcz14_2
                      try clear hcz16_0
                      try clear hcz16_1
                      try clear hcz16_2
                      try clear hfz14_0
                      try clear hfz14_1
                      try clear hfz14_2
                      try clear hfz16_0
                      try clear hfz16_1
                      try clear hfz16_2
                      try clear hx349_0
                      try clear hx349_1
                      try clear hx349_2
                      try clear p2
                      try clear p349
                      try clear q349
                      obtain ⟨x9_3, x10_3, rfl, rfl, HA, HK3, HO_4, HO_5, HO_6, BK350, HB⟩ := hrel
                      cases gk with
                      | zero => exact absurd HA.out (by simp [reliquarylaw22_EntriesKeep.l1])
                      | succ k3 =>
                        have H := HA.out
                        clear HA
                        simp only [reliquarylaw22_EntriesKeep.l1] at H
                        by_cases c17 : x10_3 < (x5_1.length : Int)
                        · rw [if_pos c17] at H
                          have c17b0 : decide (x10_3 < (x5_1.length : Int)) = true := decide_eq_true c17
                          clear c17
                          by_cases c18 : 0 ≤ x10_3
                          · rw [if_pos c18] at H
                            have c18b0 : decide (0 ≤ x10_3) = true := decide_eq_true c18
                            clear c18
                            by_cases c19 : (rdOf ByteArray.empty x5_1 x10_3).toList = ((rd_T55 l0 x7_1).f0).toList
                            · rw [if_pos c19] at H
                              have c19b0 : ((rdOf ByteArray.empty x5_1 x10_3).toList == ((rd_T55 l0 x7_1).f0).toList) = true := beq_iff_eq.mpr c19
                              have c19b1 : ((rdOf ByteArray.empty x5_1 x10_3).toList != ((rd_T55 l0 x7_1).f0).toList) = false := bne_eq_false_iff_eq.mpr c19
                              clear c19
                              have H' := Aside0.mk H
                              clear H
                              obtain ⟨Ao20, co20, eo20⟩ := Kd.R_slice HO_5.out
                              subst eo20
                              have p351 : 0 ≤ (x10_3 : Int) := of_decide_eq_true (by first | (with_reducible assumption) | assumption)
                              have q351 : x10_3 < (x5_1.length : Int) := of_decide_eq_true (by first | (with_reducible assumption) | assumption)
                              obtain ⟨ad351, e351, hx351_0⟩ := Kd.at_string (Kd.R_reads' HO_5.out).2.2 x10_3 p351 q351
                              cases e351
                              replace p351 := eq_true p351
                              replace q351 := eq_true q351
                              have hcz21_0 : wr.cell? ⟨gb350, 0, none⟩ = some (.string ((rd_T55 l0 x7_1).f0)) := (blk_cell BK350.out 0).trans rfl
                              have hcz21_1 : wr.cell? ⟨gb350, 1, none⟩ = some (.int .u16 ((rd_T55 l0 x7_1).f1)) := (blk_cell BK350.out 1).trans rfl
                              have hcz21_2 : wr.cell? ⟨gb350, 2, none⟩ = some (.bool ((rd_T55 l0 x7_1).f2)) := (blk_cell BK350.out 2).trans rfl
                              have hfz21_0 := blk_frozen BK350.out 0
                              have hfz21_1 := blk_frozen BK350.out 1
                              have hfz21_2 := blk_frozen BK350.out 2
                              go_wp2
                              repeat (go_quiet (fail); try go_wp2)
                              go_roundg k3
                              case measure => have := HK1.out; have := HJ6.out; have := HK3.out; omega
                              case rel => exact ⟨(x10_3), (wrap64 (x10_3 + 1)), (by first | rfl | (simp; done) | (simp [*]; done)), (by first | rfl | (simp; done) | (simp [*]; done)), H', ⟨by have := HK1.out; have := HJ6.out; have := HK3.out; omega⟩, ⟨by (with_reducible repeat (first | apply Kd.R_alloc | apply Kd.R_drewN | apply Kd.R_drew)); exact HO_4.out⟩, ⟨by (with_reducible repeat (first | apply Kd.R_alloc | apply Kd.R_drewN | apply Kd.R_drew)); exact HO_5.out⟩, ⟨by (with_reducible repeat (first | apply Kd.R_alloc | apply Kd.R_drewN | apply Kd.R_drew)); exact HO_6.out⟩, ⟨by (with_reducible repeat (first | refine blk_drewN ?_ _ | refine blk_drew ?_ | refine blk_alloc ?_ _)); exact BK350.out⟩, ⟨by repeat (first | (with_reducible first | exact HB.out | apply below_alloc | apply pw_below_drewN | apply below_drew1 | refine below_set ?_ GE350.out) | exact HB.out)⟩⟩
                            · rw [if_neg c19] at H
                              have c19b0 : ((rdOf ByteArray.empty x5_1 x10_3).toList == ((rd_T55 l0 x7_1).f0).toList) = false := beq_eq_false_iff_ne.mpr c19
                              have c19b1 : ((rdOf ByteArray.empty x5_1 x10_3).toList != ((rd_T55 l0 x7_1).f0).toList) = true := bne_iff_ne.mpr c19
                              have H' := Aside0.mk H
                              clear H
                              obtain ⟨Ao22, co22, eo22⟩ := Kd.R_slice HO_5.out
                              subst eo22
                              have p351 : 0 ≤ (x10_3 : Int) := of_decide_eq_true (by first | (with_reducible assumption) | assumption)
                              have q351 : x10_3 < (x5_1.length : Int) := of_decide_eq_true (by first | (with_reducible assumption) | assumption)
                              obtain ⟨ad351, e351, hx351_0⟩ := Kd.at_string (Kd.R_reads' HO_5.out).2.2 x10_3 p351 q351
                              cases e351
                              replace p351 := eq_true p351
                              replace q351 := eq_true q351
                              have hcz23_0 : wr.cell? ⟨gb350, 0, none⟩ = some (.string ((rd_T55 l0 x7_1).f0)) := (blk_cell BK350.out 0).trans rfl
                              have hcz23_1 : wr.cell? ⟨gb350, 1, none⟩ = some (.int .u16 ((rd_T55 l0 x7_1).f1)) := (blk_cell BK350.out 1).trans rfl
                              have hcz23_2 : wr.cell? ⟨gb350, 2, none⟩ = some (.bool ((rd_T55 l0 x7_1).f2)) := (blk_cell BK350.out 2).trans rfl
                              have hfz23_0 := blk_frozen BK350.out 0
                              have hfz23_1 := blk_frozen BK350.out 1
                              have hfz23_2 := blk_frozen BK350.out 2
                              go_wp2
                              repeat (go_quiet (fail); try go_wp2)
                              go_roundg k3
                              case measure => have := HK1.out; have := HJ6.out; have := HK3.out; omega
                              case rel => exact ⟨(x9_3), (wrap64 (x10_3 + 1)), (by first | rfl | (simp; done) | (simp [*]; done)), (by first | rfl | (simp; done) | (simp [*]; done)), H', ⟨by have := HK1.out; have := HJ6.out; have := HK3.out; omega⟩, ⟨by (with_reducible repeat (first | apply Kd.R_alloc | apply Kd.R_drewN | apply Kd.R_drew)); exact HO_4.out⟩, ⟨by (with_reducible repeat (first | apply Kd.R_alloc | apply Kd.R_drewN | apply Kd.R_drew)); exact HO_5.out⟩, ⟨by (with_reducible repeat (first | apply Kd.R_alloc | apply Kd.R_drewN | apply Kd.R_drew)); exact HO_6.out⟩, ⟨by (with_reducible repeat (first | refine blk_drewN ?_ _ | refine blk_drew ?_ | refine blk_alloc ?_ _)); exact BK350.out⟩, ⟨by repeat (first | (with_reducible first | exact HB.out | apply below_alloc | apply pw_below_drewN | apply below_drew1 | refine below_set ?_ GE350.out) | exact HB.out)⟩⟩
                          · rw [if_neg c18] at H
                            exact absurd H (by simp)
                        · rw [if_neg c17] at H
                          have c17b0 : decide (x10_3 < (x5_1.length : Int)) = false := decide_eq_false c17
                          clear c17
                          replace H := Option.bind_eq_some_iff.mp H
                          obtain ⟨t352, A240, H⟩ := H
                          replace H : (if ((rd_T55 l0 x7_1).f2) = true then ((entries_Remove.f k3 x4_1 ((rd_T55 l0 x7_1).f0)).bind fun bt353 => (if ((bt353.2 == 0) != (decide (x9_3 ≥ 0))) = true then (some false) else (reliquarylaw22_EntriesKeep.j3 k3 l0 x4_1 x5_1 x6_1 x7_1 x9_3 bt353.1 bt353.2 ((rd_T55 l0 x7_1).f0) ((rd_T55 l0 x7_1).f1) ((rd_T55 l0 x7_1).f2)))) else ((entries_Insert.f k3 x4_1 ((rd_T55 l0 x7_1).f0) (wrap64 (((rd_T55 l0 x7_1).f1)))).bind fun bt357 => (if t352 = 0 then (if ((rd_T55 l0 x7_1).f1) > 0 then (if ((bt357.2 == 0) != (decide (x9_3 < 0))) = true then (some false) else (reliquarylaw22_EntriesKeep.j3 k3 l0 x4_1 x5_1 x6_1 x7_1 x9_3 bt357.1 bt357.2 ((rd_T55 l0 x7_1).f0) ((rd_T55 l0 x7_1).f1) ((rd_T55 l0 x7_1).f2))) else (if ((bt357.2 == 0) != false) = true then (some false) else (reliquarylaw22_EntriesKeep.j3 k3 l0 x4_1 x5_1 x6_1 x7_1 x9_3 bt357.1 bt357.2 ((rd_T55 l0 x7_1).f0) ((rd_T55 l0 x7_1).f1) ((rd_T55 l0 x7_1).f2)))) else (if ((bt357.2 == 0) != false) = true then (some false) else (reliquarylaw22_EntriesKeep.j3 k3 l0 x4_1 x5_1 x6_1 x7_1 x9_3 bt357.1 bt357.2 ((rd_T55 l0 x7_1).f0) ((rd_T55 l0 x7_1).f1) ((rd_T55 l0 x7_1).f2)))))) = some r := H
                          have A24 := Aside0.mk A240
                          clear A240
                          have HC25 := Aside0.mk H
                          clear H
                          obtain ⟨Ao26, co26, eo26⟩ := Kd.R_slice HO_5.out
                          subst eo26
                          have hcz27_0 : wr.cell? ⟨gb350, 0, none⟩ = some (.string ((rd_T55 l0 x7_1).f0)) := (blk_cell BK350.out 0).trans rfl
                          have hcz27_1 : wr.cell? ⟨gb350, 1, none⟩ = some (.int .u16 ((rd_T55 l0 x7_1).f1)) := (blk_cell BK350.out 1).trans rfl
                          have hcz27_2 : wr.cell? ⟨gb350, 2, none⟩ = some (.bool ((rd_T55 l0 x7_1).f2)) := (blk_cell BK350.out 2).trans rfl
                          have hfz27_0 := blk_frozen BK350.out 0
                          have hfz27_1 := blk_frozen BK350.out 1
                          have hfz27_2 := blk_frozen BK350.out 2
                          go_upto_if 62 with (first | (go_at_call 10; (with_reducible refine (entries_Check.calls ((rd_T55 l0 x7_1).f0) t352 _ A24.out).mono ?_); rintro e w28 ⟨rfl, hb⟩; have n0_ := Aside0.mk (Kd.R_below (by (with_reducible repeat (first | apply Kd.R_alloc | apply Kd.R_drewN | apply Kd.R_drew)); exact HO_4.out) hb); have n1_ := Aside0.mk (Kd.R_below (by (with_reducible repeat (first | apply Kd.R_alloc | apply Kd.R_drewN | apply Kd.R_drew)); exact HO_5.out) hb); have n2_ := Aside0.mk (Kd.R_below (by (with_reducible repeat (first | apply Kd.R_alloc | apply Kd.R_drewN | apply Kd.R_drew)); exact HO_6.out) hb); have n3_ := Aside0.mk (blk_below (g := gb350) (o := .cells #[.string ((rd_T55 l0 x7_1).f0), .int .u16 ((rd_T55 l0 x7_1).f1), .bool ((rd_T55 l0 x7_1).f2)] 55 (0, 0)) (by (with_reducible repeat (first | refine blk_drewN ?_ _ | refine blk_drew ?_ | refine blk_alloc ?_ _)); exact BK350.out) hb); have n4_ := Aside0.mk (below_step (by repeat (first | (with_reducible first | exact HB.out | apply below_alloc | apply pw_below_drewN | apply below_drew1 | refine below_set ?_ GE350.out) | exact HB.out)) hb); clear HO_4; clear HO_5; clear HO_6; clear BK350; clear HB; have HO_4 := n0_; have HO_5 := n1_; have HO_6 := n2_; have BK350 := n3_; have HB := n4_; clear n0_ n1_ n2_ n3_ n4_; (try clear hb); (try clear hb2); (try clear hk); (try clear hi); have hcz29_0 : w28.cell? ⟨gb350, 0, none⟩ = some (.string ((rd_T55 l0 x7_1).f0)) := (blk_cell BK350.out 0).trans rfl; have hcz29_1 : w28.cell? ⟨gb350, 1, none⟩ = some (.int .u16 ((rd_T55 l0 x7_1).f1)) := (blk_cell BK350.out 1).trans rfl; have hcz29_2 : w28.cell? ⟨gb350, 2, none⟩ = some (.bool ((rd_T55 l0 x7_1).f2)) := (blk_cell BK350.out 2).trans rfl; have hfz29_0 := blk_frozen BK350.out 0; have hfz29_1 := blk_frozen BK350.out 1; have hfz29_2 := blk_frozen BK350.out 2))
                          (try simp only [Act.put, List.setIfInBounds_toArray, List.set_cons_zero, List.set_cons_succ])
                          go_cut [11, 12, 13] (fun v11 v12 v13 wc => ∃ (kq : Nat) (x12_24 : List Int) (x13_24 : Int), v13 = .int .i64 x13_24 ∧ Aside0 (reliquarylaw22_EntriesKeep.j3 kq l0 x4_1 x5_1 x6_1 x7_1 x9_3 x12_24 x13_24 ((rd_T55 l0 x7_1).f0) ((rd_T55 l0 x7_1).f1) ((rd_T55 l0 x7_1).f2) = some r) ∧ Aside0 (kq ≤ k3) ∧ Aside0 (Kd.R (Kd.int .u8) 5 wc w.heap.size (fun k_ => some k_ ≠ (v12 : Value).ownBlock) u4 x4_1) ∧ Aside0 (Kd.R Kd.string 9 wc w.heap.size (fun _ => True) (.slice Ao26 x5_1.length co26) x5_1) ∧ Aside0 (Kd.R (Kd.int .i64) 3 wc w.heap.size (fun _ => True) u6 x6_1) ∧ Aside0 (Kd.R (Kd.int .u8) 5 wc w.heap.size (fun k_ => some k_ ≠ (u4 : Value).ownBlock) v12 x12_24) ∧ Aside0 (wc.heap[gb350]? = some (.cells #[.string ((rd_T55 l0 x7_1).f0), .int .u16 ((rd_T55 l0 x7_1).f1), .bool ((rd_T55 l0 x7_1).f2)] 55 (0, 0))) ∧ Aside0 (Below w.heap.size w wc))
                          case first => as_aux_lemma =>
                            have H := HC25.out
                            clear HC25
                            by_cases c30 : ((rd_T55 l0 x7_1).f2) = true
                            · rw [if_pos c30] at H
                              have c30b0 : ((rd_T55 l0 x7_1).f2) = true := c30
                              clear c30
                              (first | rw [c30b0] | (simp only [i64_w, i32_w]; rw [c30b0]) | skip)
                              replace H := Option.bind_eq_some_iff.mp H
                              obtain ⟨⟨t353, t354⟩, A310, H⟩ := H
                              replace H : (if ((t354 == 0) != (decide (x9_3 ≥ 0))) = true then (some false) else (reliquarylaw22_EntriesKeep.j3 k3 l0 x4_1 x5_1 x6_1 x7_1 x9_3 t353 t354 ((rd_T55 l0 x7_1).f0) ((rd_T55 l0 x7_1).f1) ((rd_T55 l0 x7_1).f2))) = some r := H
                              have A31 := Aside0.mk A310
                              clear A310
                              by_cases c32 : ((t354 == 0) != (decide (x9_3 ≥ 0))) = true
                              · rw [if_pos c32] at H
                                have c32b0 : ((t354 == 0) != (decide (x9_3 ≥ 0))) = true := c32
                                (try (have c32b1 : decide ((t354 == 0) = (decide (x9_3 ≥ 0))) = false := by simpa using c32))
                                (try (have c32b2 : ((t354 == 0) == (decide (x9_3 ≥ 0))) = false := by simpa using c32))
                                (try (have c32b3 : ¬ ((t354 == 0) = (decide (x9_3 ≥ 0))) := by simpa using c32))
                                clear c32
                                obtain rfl := Option.some.inj H
                                have hcz33_0 : w28.cell? ⟨gb350, 0, none⟩ = some (.string ((rd_T55 l0 x7_1).f0)) := (blk_cell BK350.out 0).trans rfl
                                have hcz33_1 : w28.cell? ⟨gb350, 1, none⟩ = some (.int .u16 ((rd_T55 l0 x7_1).f1)) := (blk_cell BK350.out 1).trans rfl
                                have hcz33_2 : w28.cell? ⟨gb350, 2, none⟩ = some (.bool ((rd_T55 l0 x7_1).f2)) := (blk_cell BK350.out 2).trans rfl
                                have hfz33_0 := blk_frozen BK350.out 0
                                have hfz33_1 := blk_frozen BK350.out 1
                                have hfz33_2 := blk_frozen BK350.out 2
                                obtain ⟨Ao34, co34, eo34⟩ := Kd.R_slice HO_4.out
                                subst eo34
                                go_wp2_with (first | (go_at_call 16; (with_reducible refine (entries_Remove.calls k3 _ _ x4_1 ((rd_T55 l0 x7_1).f0) t353 t354 _ ?side1 ?side2 A31.out).mono ?_); (case side1 => repeat (first | exact (Kd.R_reads' HO_4.out).2.2 | (with_reducible refine Kd.C_alloc ?_ _) | (with_reducible refine Kd.C_drewN ?_ _) | (with_reducible refine Kd.C_drew ?_))); (case side2 => exact (Kd.R_reads' HO_4.out).2.1); rintro e w35 ⟨v355, rfl, ho0, hb⟩; have n0_ := Aside0.mk (Kd.R_elder' (by (with_reducible repeat (first | apply Kd.R_alloc | apply Kd.R_drewN | apply Kd.R_drew)); exact HO_4.out) (Kd.R_base ho0) hb); have n1_ := Aside0.mk (Kd.R_below (by (with_reducible repeat (first | apply Kd.R_alloc | apply Kd.R_drewN | apply Kd.R_drew)); exact HO_5.out) hb); have n2_ := Aside0.mk (Kd.R_below (by (with_reducible repeat (first | apply Kd.R_alloc | apply Kd.R_drewN | apply Kd.R_drew)); exact HO_6.out) hb); have n3_ := Aside0.mk (Kd.R_lower (Kd.R_new' ho0 (Kd.R_lt (by (with_reducible repeat (first | apply Kd.R_alloc | apply Kd.R_drewN | apply Kd.R_drew)); exact HO_4.out))) (below_size (by repeat (first | (with_reducible first | exact HB.out | apply below_alloc | apply pw_below_drewN | apply below_drew1 | refine below_set ?_ GE350.out) | exact HB.out)))); have n4_ := Aside0.mk (blk_below (g := gb350) (o := .cells #[.string ((rd_T55 l0 x7_1).f0), .int .u16 ((rd_T55 l0 x7_1).f1), .bool ((rd_T55 l0 x7_1).f2)] 55 (0, 0)) (by (with_reducible repeat (first | refine blk_drewN ?_ _ | refine blk_drew ?_ | refine blk_alloc ?_ _)); exact BK350.out) hb); have n5_ := Aside0.mk (below_step (by repeat (first | (with_reducible first | exact HB.out | apply below_alloc | apply pw_below_drewN | apply below_drew1 | refine below_set ?_ GE350.out) | exact HB.out)) hb); clear HO_4; clear HO_5; clear HO_6; clear BK350; clear HB; have HO_4 := n0_; have HO_5 := n1_; have HO_6 := n2_; have HO356 := n3_; have BK350 := n4_; have HB := n5_; clear n0_ n1_ n2_ n3_ n4_ n5_; (try clear hb); (try clear hb2); (try clear hk); (try clear hi); (try clear ho0)))
                                go_ret
                                exact ⟨by first | rfl | (simp [errW_none, errW_some] <;> rfl) | (simp [*, errW_none, errW_some] <;> rfl), by repeat (first | (with_reducible first | exact HB.out | apply below_alloc | apply pw_below_drewN | apply below_drew1 | refine below_set ?_ GE350.out) | exact HB.out)⟩
                              · rw [if_neg c32] at H
                                have c32b0 : ((t354 == 0) != (decide (x9_3 ≥ 0))) = false := by simpa using c32
                                (try (have c32b1 : decide ((t354 == 0) = (decide (x9_3 ≥ 0))) = true := by simpa using c32))
                                (try (have c32b2 : ((t354 == 0) == (decide (x9_3 ≥ 0))) = true := by simpa using c32))
                                clear c32
                                have H' := Aside0.mk H
                                clear H
                                have hcz36_0 : w28.cell? ⟨gb350, 0, none⟩ = some (.string ((rd_T55 l0 x7_1).f0)) := (blk_cell BK350.out 0).trans rfl
                                have hcz36_1 : w28.cell? ⟨gb350, 1, none⟩ = some (.int .u16 ((rd_T55 l0 x7_1).f1)) := (blk_cell BK350.out 1).trans rfl
                                have hcz36_2 : w28.cell? ⟨gb350, 2, none⟩ = some (.bool ((rd_T55 l0 x7_1).f2)) := (blk_cell BK350.out 2).trans rfl
                                have hfz36_0 := blk_frozen BK350.out 0
                                have hfz36_1 := blk_frozen BK350.out 1
                                have hfz36_2 := blk_frozen BK350.out 2
                                obtain ⟨Ao37, co37, eo37⟩ := Kd.R_slice HO_4.out
                                subst eo37
                                go_wp2_with (first | (go_at_call 16; (with_reducible refine (entries_Remove.calls k3 _ _ x4_1 ((rd_T55 l0 x7_1).f0) t353 t354 _ ?side1 ?side2 A31.out).mono ?_); (case side1 => repeat (first | exact (Kd.R_reads' HO_4.out).2.2 | (with_reducible refine Kd.C_alloc ?_ _) | (with_reducible refine Kd.C_drewN ?_ _) | (with_reducible refine Kd.C_drew ?_))); (case side2 => exact (Kd.R_reads' HO_4.out).2.1); rintro e w38 ⟨v355, rfl, ho0, hb⟩; have n0_ := Aside0.mk (Kd.R_elder' (by (with_reducible repeat (first | apply Kd.R_alloc | apply Kd.R_drewN | apply Kd.R_drew)); exact HO_4.out) (Kd.R_base ho0) hb); have n1_ := Aside0.mk (Kd.R_below (by (with_reducible repeat (first | apply Kd.R_alloc | apply Kd.R_drewN | apply Kd.R_drew)); exact HO_5.out) hb); have n2_ := Aside0.mk (Kd.R_below (by (with_reducible repeat (first | apply Kd.R_alloc | apply Kd.R_drewN | apply Kd.R_drew)); exact HO_6.out) hb); have n3_ := Aside0.mk (Kd.R_lower (Kd.R_new' ho0 (Kd.R_lt (by (with_reducible repeat (first | apply Kd.R_alloc | apply Kd.R_drewN | apply Kd.R_drew)); exact HO_4.out))) (below_size (by repeat (first | (with_reducible first | exact HB.out | apply below_alloc | apply pw_below_drewN | apply below_drew1 | refine below_set ?_ GE350.out) | exact HB.out)))); have n4_ := Aside0.mk (blk_below (g := gb350) (o := .cells #[.string ((rd_T55 l0 x7_1).f0), .int .u16 ((rd_T55 l0 x7_1).f1), .bool ((rd_T55 l0 x7_1).f2)] 55 (0, 0)) (by (with_reducible repeat (first | refine blk_drewN ?_ _ | refine blk_drew ?_ | refine blk_alloc ?_ _)); exact BK350.out) hb); have n5_ := Aside0.mk (below_step (by repeat (first | (with_reducible first | exact HB.out | apply below_alloc | apply pw_below_drewN | apply below_drew1 | refine below_set ?_ GE350.out) | exact HB.out)) hb); clear HO_4; clear HO_5; clear HO_6; clear BK350; clear HB; have HO_4 := n0_; have HO_5 := n1_; have HO_6 := n2_; have HO356 := n3_; have BK350 := n4_; have HB := n5_; clear n0_ n1_ n2_ n3_ n4_ n5_; (try clear hb); (try clear hb2); (try clear hk); (try clear hi); (try clear ho0)))
                                go_meet
                                case rel => exact ⟨_, (t353), (t354), (by first | rfl | (simp; done) | (simp [*]; done)), H', ⟨by have := HK1.out; have := HJ6.out; have := HK3.out; first | omega | exact Nat.le_refl _⟩, ⟨by (with_reducible repeat (first | apply Kd.R_alloc | apply Kd.R_drewN | apply Kd.R_drew)); exact Kd.R_mono HO_4.out (fun _ hk => hk.2)⟩, ⟨by (with_reducible repeat (first | apply Kd.R_alloc | apply Kd.R_drewN | apply Kd.R_drew)); exact HO_5.out⟩, ⟨by (with_reducible repeat (first | apply Kd.R_alloc | apply Kd.R_drewN | apply Kd.R_drew)); exact HO_6.out⟩, ⟨by (with_reducible repeat (first | apply Kd.R_alloc | apply Kd.R_drewN | apply Kd.R_drew)); exact Kd.R_mono HO356.out (fun _ hk => hk.2)⟩, ⟨by (with_reducible repeat (first | refine blk_drewN ?_ _ | refine blk_drew ?_ | refine blk_alloc ?_ _)); exact BK350.out⟩, ⟨by repeat (first | (with_reducible first | exact HB.out | apply below_alloc | apply pw_below_drewN | apply below_drew1 | refine below_set ?_ GE350.out) | exact HB.out)⟩⟩
                            · rw [if_neg c30] at H
                              have c30b0 : ((rd_T55 l0 x7_1).f2) = false := by simpa using c30
                              clear c30
                              (first | rw [c30b0] | (simp only [i64_w, i32_w]; rw [c30b0]) | skip)
                              replace H := Option.bind_eq_some_iff.mp H
                              obtain ⟨⟨t357, t360⟩, A390, H⟩ := H
                              replace H : (if t352 = 0 then (if ((rd_T55 l0 x7_1).f1) > 0 then (if ((t360 == 0) != (decide (x9_3 < 0))) = true then (some false) else (reliquarylaw22_EntriesKeep.j3 k3 l0 x4_1 x5_1 x6_1 x7_1 x9_3 t357 t360 ((rd_T55 l0 x7_1).f0) ((rd_T55 l0 x7_1).f1) ((rd_T55 l0 x7_1).f2))) else (if ((t360 == 0) != false) = true then (some false) else (reliquarylaw22_EntriesKeep.j3 k3 l0 x4_1 x5_1 x6_1 x7_1 x9_3 t357 t360 ((rd_T55 l0 x7_1).f0) ((rd_T55 l0 x7_1).f1) ((rd_T55 l0 x7_1).f2)))) else (if ((t360 == 0) != false) = true then (some false) else (reliquarylaw22_EntriesKeep.j3 k3 l0 x4_1 x5_1 x6_1 x7_1 x9_3 t357 t360 ((rd_T55 l0 x7_1).f0) ((rd_T55 l0 x7_1).f1) ((rd_T55 l0 x7_1).f2)))) = some r := H
                              have A39 := Aside0.mk A390
                              clear A390
                              by_cases c40 : t352 = 0
                              · rw [if_pos c40] at H
                                have c40b0 : (t352 == 0) = true := beq_iff_eq.mpr c40
                                have c40b1 : (t352 != 0) = false := bne_eq_false_iff_eq.mpr c40
                                clear c40
                                by_cases c41 : ((rd_T55 l0 x7_1).f1) > 0
                                · rw [if_pos c41] at H
                                  have c41b0 : decide (0 < ((rd_T55 l0 x7_1).f1)) = true := decide_eq_true c41
                                  clear c41
                                  by_cases c42 : ((t360 == 0) != (decide (x9_3 < 0))) = true
                                  · rw [if_pos c42] at H
                                    have c42b0 : ((t360 == 0) != (decide (x9_3 < 0))) = true := c42
                                    (try (have c42b1 : decide ((t360 == 0) = (decide (x9_3 < 0))) = false := by simpa using c42))
                                    (try (have c42b2 : ((t360 == 0) == (decide (x9_3 < 0))) = false := by simpa using c42))
                                    (try (have c42b3 : ¬ ((t360 == 0) = (decide (x9_3 < 0))) := by simpa using c42))
                                    clear c42
                                    obtain rfl := Option.some.inj H
                                    have hcz43_0 : w28.cell? ⟨gb350, 0, none⟩ = some (.string ((rd_T55 l0 x7_1).f0)) := (blk_cell BK350.out 0).trans rfl
                                    have hcz43_1 : w28.cell? ⟨gb350, 1, none⟩ = some (.int .u16 ((rd_T55 l0 x7_1).f1)) := (blk_cell BK350.out 1).trans rfl
                                    have hcz43_2 : w28.cell? ⟨gb350, 2, none⟩ = some (.bool ((rd_T55 l0 x7_1).f2)) := (blk_cell BK350.out 2).trans rfl
                                    have hfz43_0 := blk_frozen BK350.out 0
                                    have hfz43_1 := blk_frozen BK350.out 1
                                    have hfz43_2 := blk_frozen BK350.out 2
                                    obtain ⟨Ao44, co44, eo44⟩ := Kd.R_slice HO_4.out
                                    subst eo44
                                    go_wp2_with (first | (go_at_call 14; (with_reducible refine (entries_Insert.calls k3 _ _ x4_1 ((rd_T55 l0 x7_1).f0) (wrap64 (((rd_T55 l0 x7_1).f1))) t357 t360 _ ?side1 ?side2 A39.out).mono ?_); (case side1 => repeat (first | exact (Kd.R_reads' HO_4.out).2.2 | (with_reducible refine Kd.C_alloc ?_ _) | (with_reducible refine Kd.C_drewN ?_ _) | (with_reducible refine Kd.C_drew ?_))); (case side2 => exact (Kd.R_reads' HO_4.out).2.1); rintro e w45 ⟨v358, rfl, ho0, hb⟩; have n0_ := Aside0.mk (Kd.R_elder' (by (with_reducible repeat (first | apply Kd.R_alloc | apply Kd.R_drewN | apply Kd.R_drew)); exact HO_4.out) (Kd.R_base ho0) hb); have n1_ := Aside0.mk (Kd.R_below (by (with_reducible repeat (first | apply Kd.R_alloc | apply Kd.R_drewN | apply Kd.R_drew)); exact HO_5.out) hb); have n2_ := Aside0.mk (Kd.R_below (by (with_reducible repeat (first | apply Kd.R_alloc | apply Kd.R_drewN | apply Kd.R_drew)); exact HO_6.out) hb); have n3_ := Aside0.mk (Kd.R_lower (Kd.R_new' ho0 (Kd.R_lt (by (with_reducible repeat (first | apply Kd.R_alloc | apply Kd.R_drewN | apply Kd.R_drew)); exact HO_4.out))) (below_size (by repeat (first | (with_reducible first | exact HB.out | apply below_alloc | apply pw_below_drewN | apply below_drew1 | refine below_set ?_ GE350.out) | exact HB.out)))); have n4_ := Aside0.mk (blk_below (g := gb350) (o := .cells #[.string ((rd_T55 l0 x7_1).f0), .int .u16 ((rd_T55 l0 x7_1).f1), .bool ((rd_T55 l0 x7_1).f2)] 55 (0, 0)) (by (with_reducible repeat (first | refine blk_drewN ?_ _ | refine blk_drew ?_ | refine blk_alloc ?_ _)); exact BK350.out) hb); have n5_ := Aside0.mk (below_step (by repeat (first | (with_reducible first | exact HB.out | apply below_alloc | apply pw_below_drewN | apply below_drew1 | refine below_set ?_ GE350.out) | exact HB.out)) hb); clear HO_4; clear HO_5; clear HO_6; clear BK350; clear HB; have HO_4 := n0_; have HO_5 := n1_; have HO_6 := n2_; have HO359 := n3_; have BK350 := n4_; have HB := n5_; clear n0_ n1_ n2_ n3_ n4_ n5_; (try clear hb); (try clear hb2); (try clear hk); (try clear hi); (try clear ho0); have hcz46_0 : w45.cell? ⟨gb350, 0, none⟩ = some (.string ((rd_T55 l0 x7_1).f0)) := (blk_cell BK350.out 0).trans rfl; have hcz46_1 : w45.cell? ⟨gb350, 1, none⟩ = some (.int .u16 ((rd_T55 l0 x7_1).f1)) := (blk_cell BK350.out 1).trans rfl; have hcz46_2 : w45.cell? ⟨gb350, 2, none⟩ = some (.bool ((rd_T55 l0 x7_1).f2)) := (blk_cell BK350.out 2).trans rfl; have hfz46_0 := blk_frozen BK350.out 0; have hfz46_1 := blk_frozen BK350.out 1; have hfz46_2 := blk_frozen BK350.out 2))
                                    go_ret
                                    exact ⟨by first | rfl | (simp [errW_none, errW_some] <;> rfl) | (simp [*, errW_none, errW_some] <;> rfl), by repeat (first | (with_reducible first | exact HB.out | apply below_alloc | apply pw_below_drewN | apply below_drew1 | refine below_set ?_ GE350.out) | exact HB.out)⟩
                                  · rw [if_neg c42] at H
                                    have c42b0 : ((t360 == 0) != (decide (x9_3 < 0))) = false := by simpa using c42
                                    (try (have c42b1 : decide ((t360 == 0) = (decide (x9_3 < 0))) = true := by simpa using c42))
                                    (try (have c42b2 : ((t360 == 0) == (decide (x9_3 < 0))) = true := by simpa using c42))
                                    clear c42
                                    have H' := Aside0.mk H
                                    clear H
                                    have hcz47_0 : w28.cell? ⟨gb350, 0, none⟩ = some (.string ((rd_T55 l0 x7_1).f0)) := (blk_cell BK350.out 0).trans rfl
                                    have hcz47_1 : w28.cell? ⟨gb350, 1, none⟩ = some (.int .u16 ((rd_T55 l0 x7_1).f1)) := (blk_cell BK350.out 1).trans rfl
                                    have hcz47_2 : w28.cell? ⟨gb350, 2, none⟩ = some (.bool ((rd_T55 l0 x7_1).f2)) := (blk_cell BK350.out 2).trans rfl
                                    have hfz47_0 := blk_frozen BK350.out 0
                                    have hfz47_1 := blk_frozen BK350.out 1
                                    have hfz47_2 := blk_frozen BK350.out 2
                                    obtain ⟨Ao48, co48, eo48⟩ := Kd.R_slice HO_4.out
                                    subst eo48
                                    go_wp2_with (first | (go_at_call 14; (with_reducible refine (entries_Insert.calls k3 _ _ x4_1 ((rd_T55 l0 x7_1).f0) (wrap64 (((rd_T55 l0 x7_1).f1))) t357 t360 _ ?side1 ?side2 A39.out).mono ?_); (case side1 => repeat (first | exact (Kd.R_reads' HO_4.out).2.2 | (with_reducible refine Kd.C_alloc ?_ _) | (with_reducible refine Kd.C_drewN ?_ _) | (with_reducible refine Kd.C_drew ?_))); (case side2 => exact (Kd.R_reads' HO_4.out).2.1); rintro e w49 ⟨v358, rfl, ho0, hb⟩; have n0_ := Aside0.mk (Kd.R_elder' (by (with_reducible repeat (first | apply Kd.R_alloc | apply Kd.R_drewN | apply Kd.R_drew)); exact HO_4.out) (Kd.R_base ho0) hb); have n1_ := Aside0.mk (Kd.R_below (by (with_reducible repeat (first | apply Kd.R_alloc | apply Kd.R_drewN | apply Kd.R_drew)); exact HO_5.out) hb); have n2_ := Aside0.mk (Kd.R_below (by (with_reducible repeat (first | apply Kd.R_alloc | apply Kd.R_drewN | apply Kd.R_drew)); exact HO_6.out) hb); have n3_ := Aside0.mk (Kd.R_lower (Kd.R_new' ho0 (Kd.R_lt (by (with_reducible repeat (first | apply Kd.R_alloc | apply Kd.R_drewN | apply Kd.R_drew)); exact HO_4.out))) (below_size (by repeat (first | (with_reducible first | exact HB.out | apply below_alloc | apply pw_below_drewN | apply below_drew1 | refine below_set ?_ GE350.out) | exact HB.out)))); have n4_ := Aside0.mk (blk_below (g := gb350) (o := .cells #[.string ((rd_T55 l0 x7_1).f0), .int .u16 ((rd_T55 l0 x7_1).f1), .bool ((rd_T55 l0 x7_1).f2)] 55 (0, 0)) (by (with_reducible repeat (first | refine blk_drewN ?_ _ | refine blk_drew ?_ | refine blk_alloc ?_ _)); exact BK350.out) hb); have n5_ := Aside0.mk (below_step (by repeat (first | (with_reducible first | exact HB.out | apply below_alloc | apply pw_below_drewN | apply below_drew1 | refine below_set ?_ GE350.out) | exact HB.out)) hb); clear HO_4; clear HO_5; clear HO_6; clear BK350; clear HB; have HO_4 := n0_; have HO_5 := n1_; have HO_6 := n2_; have HO359 := n3_; have BK350 := n4_; have HB := n5_; clear n0_ n1_ n2_ n3_ n4_ n5_; (try clear hb); (try clear hb2); (try clear hk); (try clear hi); (try clear ho0); have hcz50_0 : w49.cell? ⟨gb350, 0, none⟩ = some (.string ((rd_T55 l0 x7_1).f0)) := (blk_cell BK350.out 0).trans rfl; have hcz50_1 : w49.cell? ⟨gb350, 1, none⟩ = some (.int .u16 ((rd_T55 l0 x7_1).f1)) := (blk_cell BK350.out 1).trans rfl; have hcz50_2 : w49.cell? ⟨gb350, 2, none⟩ = some (.bool ((rd_T55 l0 x7_1).f2)) := (blk_cell BK350.out 2).trans rfl; have hfz50_0 := blk_frozen BK350.out 0; have hfz50_1 := blk_frozen BK350.out 1; have hfz50_2 := blk_frozen BK350.out 2))
                                    go_meet
                                    case rel => exact ⟨_, (t357), (t360), (by first | rfl | (simp; done) | (simp [*]; done)), H', ⟨by have := HK1.out; have := HJ6.out; have := HK3.out; first | omega | exact Nat.le_refl _⟩, ⟨by (with_reducible repeat (first | apply Kd.R_alloc | apply Kd.R_drewN | apply Kd.R_drew)); exact Kd.R_mono HO_4.out (fun _ hk => hk.2)⟩, ⟨by (with_reducible repeat (first | apply Kd.R_alloc | apply Kd.R_drewN | apply Kd.R_drew)); exact HO_5.out⟩, ⟨by (with_reducible repeat (first | apply Kd.R_alloc | apply Kd.R_drewN | apply Kd.R_drew)); exact HO_6.out⟩, ⟨by (with_reducible repeat (first | apply Kd.R_alloc | apply Kd.R_drewN | apply Kd.R_drew)); exact Kd.R_mono HO359.out (fun _ hk => hk.2)⟩, ⟨by (with_reducible repeat (first | refine blk_drewN ?_ _ | refine blk_drew ?_ | refine blk_alloc ?_ _)); exact BK350.out⟩, ⟨by repeat (first | (with_reducible first | exact HB.out | apply below_alloc | apply pw_below_drewN | apply below_drew1 | refine below_set ?_ GE350.out) | exact HB.out)⟩⟩
                                · rw [if_neg c41] at H
                                  have c41b0 : decide (0 < ((rd_T55 l0 x7_1).f1)) = false := decide_eq_false c41
                                  clear c41
                                  by_cases c51 : ((t360 == 0) != false) = true
                                  · rw [if_pos c51] at H
                                    have c51b0 : ((t360 == 0) != false) = true := c51
                                    (try (have c51b1 : decide ((t360 == 0) = false) = false := by simpa using c51))
                                    (try (have c51b2 : ((t360 == 0) == false) = false := by simpa using c51))
                                    (try (have c51b3 : ¬ ((t360 == 0) = false) := by simpa using c51))
                                    clear c51
                                    obtain rfl := Option.some.inj H
                                    have hcz52_0 : w28.cell? ⟨gb350, 0, none⟩ = some (.string ((rd_T55 l0 x7_1).f0)) := (blk_cell BK350.out 0).trans rfl
                                    have hcz52_1 : w28.cell? ⟨gb350, 1, none⟩ = some (.int .u16 ((rd_T55 l0 x7_1).f1)) := (blk_cell BK350.out 1).trans rfl
                                    have hcz52_2 : w28.cell? ⟨gb350, 2, none⟩ = some (.bool ((rd_T55 l0 x7_1).f2)) := (blk_cell BK350.out 2).trans rfl
                                    have hfz52_0 := blk_frozen BK350.out 0
                                    have hfz52_1 := blk_frozen BK350.out 1
                                    have hfz52_2 := blk_frozen BK350.out 2
                                    obtain ⟨Ao53, co53, eo53⟩ := Kd.R_slice HO_4.out
                                    subst eo53
                                    go_wp2_with (first | (go_at_call 14; (with_reducible refine (entries_Insert.calls k3 _ _ x4_1 ((rd_T55 l0 x7_1).f0) (wrap64 (((rd_T55 l0 x7_1).f1))) t357 t360 _ ?side1 ?side2 A39.out).mono ?_); (case side1 => repeat (first | exact (Kd.R_reads' HO_4.out).2.2 | (with_reducible refine Kd.C_alloc ?_ _) | (with_reducible refine Kd.C_drewN ?_ _) | (with_reducible refine Kd.C_drew ?_))); (case side2 => exact (Kd.R_reads' HO_4.out).2.1); rintro e w54 ⟨v358, rfl, ho0, hb⟩; have n0_ := Aside0.mk (Kd.R_elder' (by (with_reducible repeat (first | apply Kd.R_alloc | apply Kd.R_drewN | apply Kd.R_drew)); exact HO_4.out) (Kd.R_base ho0) hb); have n1_ := Aside0.mk (Kd.R_below (by (with_reducible repeat (first | apply Kd.R_alloc | apply Kd.R_drewN | apply Kd.R_drew)); exact HO_5.out) hb); have n2_ := Aside0.mk (Kd.R_below (by (with_reducible repeat (first | apply Kd.R_alloc | apply Kd.R_drewN | apply Kd.R_drew)); exact HO_6.out) hb); have n3_ := Aside0.mk (Kd.R_lower (Kd.R_new' ho0 (Kd.R_lt (by (with_reducible repeat (first | apply Kd.R_alloc | apply Kd.R_drewN | apply Kd.R_drew)); exact HO_4.out))) (below_size (by repeat (first | (with_reducible first | exact HB.out | apply below_alloc | apply pw_below_drewN | apply below_drew1 | refine below_set ?_ GE350.out) | exact HB.out)))); have n4_ := Aside0.mk (blk_below (g := gb350) (o := .cells #[.string ((rd_T55 l0 x7_1).f0), .int .u16 ((rd_T55 l0 x7_1).f1), .bool ((rd_T55 l0 x7_1).f2)] 55 (0, 0)) (by (with_reducible repeat (first | refine blk_drewN ?_ _ | refine blk_drew ?_ | refine blk_alloc ?_ _)); exact BK350.out) hb); have n5_ := Aside0.mk (below_step (by repeat (first | (with_reducible first | exact HB.out | apply below_alloc | apply pw_below_drewN | apply below_drew1 | refine below_set ?_ GE350.out) | exact HB.out)) hb); clear HO_4; clear HO_5; clear HO_6; clear BK350; clear HB; have HO_4 := n0_; have HO_5 := n1_; have HO_6 := n2_; have HO359 := n3_; have BK350 := n4_; have HB := n5_; clear n0_ n1_ n2_ n3_ n4_ n5_; (try clear hb); (try clear hb2); (try clear hk); (try clear hi); (try clear ho0); have hcz55_0 : w54.cell? ⟨gb350, 0, none⟩ = some (.string ((rd_T55 l0 x7_1).f0)) := (blk_cell BK350.out 0).trans rfl; have hcz55_1 : w54.cell? ⟨gb350, 1, none⟩ = some (.int .u16 ((rd_T55 l0 x7_1).f1)) := (blk_cell BK350.out 1).trans rfl; have hcz55_2 : w54.cell? ⟨gb350, 2, none⟩ = some (.bool ((rd_T55 l0 x7_1).f2)) := (blk_cell BK350.out 2).trans rfl; have hfz55_0 := blk_frozen BK350.out 0; have hfz55_1 := blk_frozen BK350.out 1; have hfz55_2 := blk_frozen BK350.out 2))
                                    go_ret
                                    exact ⟨by first | rfl | (simp [errW_none, errW_some] <;> rfl) | (simp [*, errW_none, errW_some] <;> rfl), by repeat (first | (with_reducible first | exact HB.out | apply below_alloc | apply pw_below_drewN | apply below_drew1 | refine below_set ?_ GE350.out) | exact HB.out)⟩
                                  · rw [if_neg c51] at H
                                    have c51b0 : ((t360 == 0) != false) = false := by simpa using c51
                                    (try (have c51b1 : decide ((t360 == 0) = false) = true := by simpa using c51))
                                    (try (have c51b2 : ((t360 == 0) == false) = true := by simpa using c51))
                                    clear c51
                                    have H' := Aside0.mk H
                                    clear H
                                    have hcz56_0 : w28.cell? ⟨gb350, 0, none⟩ = some (.string ((rd_T55 l0 x7_1).f0)) := (blk_cell BK350.out 0).trans rfl
                                    have hcz56_1 : w28.cell? ⟨gb350, 1, none⟩ = some (.int .u16 ((rd_T55 l0 x7_1).f1)) := (blk_cell BK350.out 1).trans rfl
                                    have hcz56_2 : w28.cell? ⟨gb350, 2, none⟩ = some (.bool ((rd_T55 l0 x7_1).f2)) := (blk_cell BK350.out 2).trans rfl
                                    have hfz56_0 := blk_frozen BK350.out 0
                                    have hfz56_1 := blk_frozen BK350.out 1
                                    have hfz56_2 := blk_frozen BK350.out 2
                                    obtain ⟨Ao57, co57, eo57⟩ := Kd.R_slice HO_4.out
                                    subst eo57
                                    go_wp2_with (first | (go_at_call 14; (with_reducible refine (entries_Insert.calls k3 _ _ x4_1 ((rd_T55 l0 x7_1).f0) (wrap64 (((rd_T55 l0 x7_1).f1))) t357 t360 _ ?side1 ?side2 A39.out).mono ?_); (case side1 => repeat (first | exact (Kd.R_reads' HO_4.out).2.2 | (with_reducible refine Kd.C_alloc ?_ _) | (with_reducible refine Kd.C_drewN ?_ _) | (with_reducible refine Kd.C_drew ?_))); (case side2 => exact (Kd.R_reads' HO_4.out).2.1); rintro e w58 ⟨v358, rfl, ho0, hb⟩; have n0_ := Aside0.mk (Kd.R_elder' (by (with_reducible repeat (first | apply Kd.R_alloc | apply Kd.R_drewN | apply Kd.R_drew)); exact HO_4.out) (Kd.R_base ho0) hb); have n1_ := Aside0.mk (Kd.R_below (by (with_reducible repeat (first | apply Kd.R_alloc | apply Kd.R_drewN | apply Kd.R_drew)); exact HO_5.out) hb); have n2_ := Aside0.mk (Kd.R_below (by (with_reducible repeat (first | apply Kd.R_alloc | apply Kd.R_drewN | apply Kd.R_drew)); exact HO_6.out) hb); have n3_ := Aside0.mk (Kd.R_lower (Kd.R_new' ho0 (Kd.R_lt (by (with_reducible repeat (first | apply Kd.R_alloc | apply Kd.R_drewN | apply Kd.R_drew)); exact HO_4.out))) (below_size (by repeat (first | (with_reducible first | exact HB.out | apply below_alloc | apply pw_below_drewN | apply below_drew1 | refine below_set ?_ GE350.out) | exact HB.out)))); have n4_ := Aside0.mk (blk_below (g := gb350) (o := .cells #[.string ((rd_T55 l0 x7_1).f0), .int .u16 ((rd_T55 l0 x7_1).f1), .bool ((rd_T55 l0 x7_1).f2)] 55 (0, 0)) (by (with_reducible repeat (first | refine blk_drewN ?_ _ | refine blk_drew ?_ | refine blk_alloc ?_ _)); exact BK350.out) hb); have n5_ := Aside0.mk (below_step (by repeat (first | (with_reducible first | exact HB.out | apply below_alloc | apply pw_below_drewN | apply below_drew1 | refine below_set ?_ GE350.out) | exact HB.out)) hb); clear HO_4; clear HO_5; clear HO_6; clear BK350; clear HB; have HO_4 := n0_; have HO_5 := n1_; have HO_6 := n2_; have HO359 := n3_; have BK350 := n4_; have HB := n5_; clear n0_ n1_ n2_ n3_ n4_ n5_; (try clear hb); (try clear hb2); (try clear hk); (try clear hi); (try clear ho0); have hcz59_0 : w58.cell? ⟨gb350, 0, none⟩ = some (.string ((rd_T55 l0 x7_1).f0)) := (blk_cell BK350.out 0).trans rfl; have hcz59_1 : w58.cell? ⟨gb350, 1, none⟩ = some (.int .u16 ((rd_T55 l0 x7_1).f1)) := (blk_cell BK350.out 1).trans rfl; have hcz59_2 : w58.cell? ⟨gb350, 2, none⟩ = some (.bool ((rd_T55 l0 x7_1).f2)) := (blk_cell BK350.out 2).trans rfl; have hfz59_0 := blk_frozen BK350.out 0; have hfz59_1 := blk_frozen BK350.out 1; have hfz59_2 := blk_frozen BK350.out 2))
                                    go_meet
                                    case rel => exact ⟨_, (t357), (t360), (by first | rfl | (simp; done) | (simp [*]; done)), H', ⟨by have := HK1.out; have := HJ6.out; have := HK3.out; first | omega | exact Nat.le_refl _⟩, ⟨by (with_reducible repeat (first | apply Kd.R_alloc | apply Kd.R_drewN | apply Kd.R_drew)); exact Kd.R_mono HO_4.out (fun _ hk => hk.2)⟩, ⟨by (with_reducible repeat (first | apply Kd.R_alloc | apply Kd.R_drewN | apply Kd.R_drew)); exact HO_5.out⟩, ⟨by (with_reducible repeat (first | apply Kd.R_alloc | apply Kd.R_drewN | apply Kd.R_drew)); exact HO_6.out⟩, ⟨by (with_reducible repeat (first | apply Kd.R_alloc | apply Kd.R_drewN | apply Kd.R_drew)); exact Kd.R_mono HO359.out (fun _ hk => hk.2)⟩, ⟨by (with_reducible repeat (first | refine blk_drewN ?_ _ | refine blk_drew ?_ | refine blk_alloc ?_ _)); exact BK350.out⟩, ⟨by repeat (first | (with_reducible first | exact HB.out | apply below_alloc | apply pw_below_drewN | apply below_drew1 | refine below_set ?_ GE350.out) | exact HB.out)⟩⟩
                              · rw [if_neg c40] at H
                                have c40b0 : (t352 == 0) = false := beq_eq_false_iff_ne.mpr c40
                                have c40b1 : (t352 != 0) = true := bne_iff_ne.mpr c40
                                by_cases c60 : ((t360 == 0) != false) = true
                                · rw [if_pos c60] at H
                                  have c60b0 : ((t360 == 0) != false) = true := c60
                                  (try (have c60b1 : decide ((t360 == 0) = false) = false := by simpa using c60))
                                  (try (have c60b2 : ((t360 == 0) == false) = false := by simpa using c60))
                                  (try (have c60b3 : ¬ ((t360 == 0) = false) := by simpa using c60))
                                  clear c60
                                  obtain rfl := Option.some.inj H
                                  have hcz61_0 : w28.cell? ⟨gb350, 0, none⟩ = some (.string ((rd_T55 l0 x7_1).f0)) := (blk_cell BK350.out 0).trans rfl
                                  have hcz61_1 : w28.cell? ⟨gb350, 1, none⟩ = some (.int .u16 ((rd_T55 l0 x7_1).f1)) := (blk_cell BK350.out 1).trans rfl
                                  have hcz61_2 : w28.cell? ⟨gb350, 2, none⟩ = some (.bool ((rd_T55 l0 x7_1).f2)) := (blk_cell BK350.out 2).trans rfl
                                  have hfz61_0 := blk_frozen BK350.out 0
                                  have hfz61_1 := blk_frozen BK350.out 1
                                  have hfz61_2 := blk_frozen BK350.out 2
                                  obtain ⟨Ao62, co62, eo62⟩ := Kd.R_slice HO_4.out
                                  subst eo62
                                  go_wp2_with (first | (go_at_call 14; (with_reducible refine (entries_Insert.calls k3 _ _ x4_1 ((rd_T55 l0 x7_1).f0) (wrap64 (((rd_T55 l0 x7_1).f1))) t357 t360 _ ?side1 ?side2 A39.out).mono ?_); (case side1 => repeat (first | exact (Kd.R_reads' HO_4.out).2.2 | (with_reducible refine Kd.C_alloc ?_ _) | (with_reducible refine Kd.C_drewN ?_ _) | (with_reducible refine Kd.C_drew ?_))); (case side2 => exact (Kd.R_reads' HO_4.out).2.1); rintro e w63 ⟨v358, rfl, ho0, hb⟩; have n0_ := Aside0.mk (Kd.R_elder' (by (with_reducible repeat (first | apply Kd.R_alloc | apply Kd.R_drewN | apply Kd.R_drew)); exact HO_4.out) (Kd.R_base ho0) hb); have n1_ := Aside0.mk (Kd.R_below (by (with_reducible repeat (first | apply Kd.R_alloc | apply Kd.R_drewN | apply Kd.R_drew)); exact HO_5.out) hb); have n2_ := Aside0.mk (Kd.R_below (by (with_reducible repeat (first | apply Kd.R_alloc | apply Kd.R_drewN | apply Kd.R_drew)); exact HO_6.out) hb); have n3_ := Aside0.mk (Kd.R_lower (Kd.R_new' ho0 (Kd.R_lt (by (with_reducible repeat (first | apply Kd.R_alloc | apply Kd.R_drewN | apply Kd.R_drew)); exact HO_4.out))) (below_size (by repeat (first | (with_reducible first | exact HB.out | apply below_alloc | apply pw_below_drewN | apply below_drew1 | refine below_set ?_ GE350.out) | exact HB.out)))); have n4_ := Aside0.mk (blk_below (g := gb350) (o := .cells #[.string ((rd_T55 l0 x7_1).f0), .int .u16 ((rd_T55 l0 x7_1).f1), .bool ((rd_T55 l0 x7_1).f2)] 55 (0, 0)) (by (with_reducible repeat (first | refine blk_drewN ?_ _ | refine blk_drew ?_ | refine blk_alloc ?_ _)); exact BK350.out) hb); have n5_ := Aside0.mk (below_step (by repeat (first | (with_reducible first | exact HB.out | apply below_alloc | apply pw_below_drewN | apply below_drew1 | refine below_set ?_ GE350.out) | exact HB.out)) hb); clear HO_4; clear HO_5; clear HO_6; clear BK350; clear HB; have HO_4 := n0_; have HO_5 := n1_; have HO_6 := n2_; have HO359 := n3_; have BK350 := n4_; have HB := n5_; clear n0_ n1_ n2_ n3_ n4_ n5_; (try clear hb); (try clear hb2); (try clear hk); (try clear hi); (try clear ho0)))
                                  go_ret
                                  exact ⟨by first | rfl | (simp [errW_none, errW_some] <;> rfl) | (simp [*, errW_none, errW_some] <;> rfl), by repeat (first | (with_reducible first | exact HB.out | apply below_alloc | apply pw_below_drewN | apply below_drew1 | refine below_set ?_ GE350.out) | exact HB.out)⟩
                                · rw [if_neg c60] at H
                                  have c60b0 : ((t360 == 0) != false) = false := by simpa using c60
                                  (try (have c60b1 : decide ((t360 == 0) = false) = true := by simpa using c60))
                                  (try (have c60b2 : ((t360 == 0) == false) = true := by simpa using c60))
                                  clear c60
                                  have H' := Aside0.mk H
                                  clear H
                                  have hcz64_0 : w28.cell? ⟨gb350, 0, none⟩ = some (.string ((rd_T55 l0 x7_1).f0)) := (blk_cell BK350.out 0).trans rfl
                                  have hcz64_1 : w28.cell? ⟨gb350, 1, none⟩ = some (.int .u16 ((rd_T55 l0 x7_1).f1)) := (blk_cell BK350.out 1).trans rfl
                                  have hcz64_2 : w28.cell? ⟨gb350, 2, none⟩ = some (.bool ((rd_T55 l0 x7_1).f2)) := (blk_cell BK350.out 2).trans rfl
                                  have hfz64_0 := blk_frozen BK350.out 0
                                  have hfz64_1 := blk_frozen BK350.out 1
                                  have hfz64_2 := blk_frozen BK350.out 2
                                  obtain ⟨Ao65, co65, eo65⟩ := Kd.R_slice HO_4.out
                                  subst eo65
                                  go_wp2_with (first | (go_at_call 14; (with_reducible refine (entries_Insert.calls k3 _ _ x4_1 ((rd_T55 l0 x7_1).f0) (wrap64 (((rd_T55 l0 x7_1).f1))) t357 t360 _ ?side1 ?side2 A39.out).mono ?_); (case side1 => repeat (first | exact (Kd.R_reads' HO_4.out).2.2 | (with_reducible refine Kd.C_alloc ?_ _) | (with_reducible refine Kd.C_drewN ?_ _) | (with_reducible refine Kd.C_drew ?_))); (case side2 => exact (Kd.R_reads' HO_4.out).2.1); rintro e w66 ⟨v358, rfl, ho0, hb⟩; have n0_ := Aside0.mk (Kd.R_elder' (by (with_reducible repeat (first | apply Kd.R_alloc | apply Kd.R_drewN | apply Kd.R_drew)); exact HO_4.out) (Kd.R_base ho0) hb); have n1_ := Aside0.mk (Kd.R_below (by (with_reducible repeat (first | apply Kd.R_alloc | apply Kd.R_drewN | apply Kd.R_drew)); exact HO_5.out) hb); have n2_ := Aside0.mk (Kd.R_below (by (with_reducible repeat (first | apply Kd.R_alloc | apply Kd.R_drewN | apply Kd.R_drew)); exact HO_6.out) hb); have n3_ := Aside0.mk (Kd.R_lower (Kd.R_new' ho0 (Kd.R_lt (by (with_reducible repeat (first | apply Kd.R_alloc | apply Kd.R_drewN | apply Kd.R_drew)); exact HO_4.out))) (below_size (by repeat (first | (with_reducible first | exact HB.out | apply below_alloc | apply pw_below_drewN | apply below_drew1 | refine below_set ?_ GE350.out) | exact HB.out)))); have n4_ := Aside0.mk (blk_below (g := gb350) (o := .cells #[.string ((rd_T55 l0 x7_1).f0), .int .u16 ((rd_T55 l0 x7_1).f1), .bool ((rd_T55 l0 x7_1).f2)] 55 (0, 0)) (by (with_reducible repeat (first | refine blk_drewN ?_ _ | refine blk_drew ?_ | refine blk_alloc ?_ _)); exact BK350.out) hb); have n5_ := Aside0.mk (below_step (by repeat (first | (with_reducible first | exact HB.out | apply below_alloc | apply pw_below_drewN | apply below_drew1 | refine below_set ?_ GE350.out) | exact HB.out)) hb); clear HO_4; clear HO_5; clear HO_6; clear BK350; clear HB; have HO_4 := n0_; have HO_5 := n1_; have HO_6 := n2_; have HO359 := n3_; have BK350 := n4_; have HB := n5_; clear n0_ n1_ n2_ n3_ n4_ n5_; (try clear hb); (try clear hb2); (try clear hk); (try clear hi); (try clear ho0)))
                                  go_meet
                                  case rel => exact ⟨_, (t357), (t360), (by first | rfl | (simp; done) | (simp [*]; done)), H', ⟨by have := HK1.out; have := HJ6.out; have := HK3.out; first | omega | exact Nat.le_refl _⟩, ⟨by (with_reducible repeat (first | apply Kd.R_alloc | apply Kd.R_drewN | apply Kd.R_drew)); exact Kd.R_mono HO_4.out (fun _ hk => hk.2)⟩, ⟨by (with_reducible repeat (first | apply Kd.R_alloc | apply Kd.R_drewN | apply Kd.R_drew)); exact HO_5.out⟩, ⟨by (with_reducible repeat (first | apply Kd.R_alloc | apply Kd.R_drewN | apply Kd.R_drew)); exact HO_6.out⟩, ⟨by (with_reducible repeat (first | apply Kd.R_alloc | apply Kd.R_drewN | apply Kd.R_drew)); exact Kd.R_mono HO359.out (fun _ hk => hk.2)⟩, ⟨by (with_reducible repeat (first | refine blk_drewN ?_ _ | refine blk_drew ?_ | refine blk_alloc ?_ _)); exact BK350.out⟩, ⟨by repeat (first | (with_reducible first | exact HB.out | apply below_alloc | apply pw_below_drewN | apply below_drew1 | refine below_set ?_ GE350.out) | exact HB.out)⟩⟩
                          case rest => as_aux_lemma =>
                            clear HC25
                            try clear c1
                            try clear p2
                            try clear c3
                            try clear p3
                            try clear q3
                            try clear hx3
                            try clear c4
                            try clear c5
                            try clear c6
                            try clear p6
                            try clear c8
                            try clear c8b0
                            try clear c9
                            try clear c10
                            try clear c10b0
                            try clear c11
                            try clear c11b0
                            try clear c12
                            try clear c12b0
                            try clear c12b1
                            try clear c17
                            try clear c17b0
                            try clear c18
                            try clear c18b0
                            try clear c19
                            try clear c19b0
                            try clear c19b1
                            try clear c30
                            try clear c30b0
                            try clear c32
                            try clear c32b0
                            try clear c32b1
                            try clear c32b2
                            try clear p34
                            try clear q34
                            try clear hx34
                            try clear p35
                            try clear q35
                            try clear hx35
                            try clear c40
                            try clear c40b0
                            try clear c40b1
                            try clear c41
                            try clear c41b0
                            try clear c42
                            try clear c42b0
                            try clear c42b1
                            try clear c42b2
                            try clear c51
                            try clear c51b0
                            try clear c51b1
                            try clear c51b2
                            try clear c60
                            try clear c60b0
                            try clear c60b1
                            try clear c60b2
                            try clear p64
                            try clear hcz14_0
                            try clear hcz14_1
                            try clear hcz14_2
                            try clear hcz16_0
                            try clear hcz16_1
                            try clear hcz16_2
                            try clear hcz21_0
                            try clear hcz21_1
                            try clear hcz21_2
                            try clear hcz23_0
                            try clear hcz23_1
                            try clear hcz23_2
                            try clear hcz27_0
                            try clear hcz27_1
                            try clear hcz27_2
                            try clear hcz29_0
                            try clear hcz29_1
                            try clear hcz29_2
                            try clear hcz33_0
                            try clear hcz33_1
                            try clear hcz33_2
                            try clear hcz36_0
                            try clear hcz36_1
                            try clear hcz36_2
                            try clear hcz43_0
                            try clear hcz43_1
                            try clear hcz43_2
                            try clear hcz46_0
                            try clear hcz46_1
                            try clear hcz46_2
                            try clear hcz47_0
                            try clear hcz47_1
                            try clear hcz47_2
                            try clear hcz50_0
                            try clear hcz50_1
                            try clear hcz50_2
                            try clear hcz52_0
                            try clear hcz52_1
                            try clear hcz52_2
                            try clear hcz55_0
                            try clear hcz55_1
                            try clear hcz55_2
                            try clear hcz56_0
                            try clear hcz56_1
                            try clear hcz56_2
                            try clear hcz59_0
                            try clear hcz59_1
                            try clear hcz59_2
                            try clear hcz61_0
                            try clear hcz61_1
                            try clear hcz61_2
                            try clear hcz64_0
                            try clear hcz64_1
                            try clear hcz64_2
                            try clear hfz14_0
                            try clear hfz14_1
                            try clear hfz14_2
                            try clear hfz16_0
                            try clear hfz16_1
                            try clear hfz16_2
                            try clear hfz21_0
                            try clear hfz21_1
                            try clear hfz21_2
                            try clear hfz23_0
                            try clear hfz23_1
                            try clear hfz23_2
                            try clear hfz27_0
                            try clear hfz27_1
                            try clear hfz27_2
                            try clear hfz29_0
                            try clear hfz29_1
                            try clear hfz29_2
                            try clear hfz33_0
                            try clear hfz33_1
                            try clear hfz33_2
                            try clear hfz36_0
                            try clear hfz36_1
                            try clear hfz36_2
                            try clear hfz43_0
                            try clear hfz43_1
                            try clear hfz43_2
                            try clear hfz46_0
                            try clear hfz46_1
                            try clear hfz46_2
                            try clear hfz47_0
                            try clear hfz47_1
                            try clear hfz47_2
                            try clear hfz50_0
                            try clear hfz50_1
                            try clear hfz50_2
                            try clear hfz52_0
                            try clear hfz52_1
                            try clear hfz52_2
                            try clear hfz55_0
                            try clear hfz55_1
                            try clear hfz55_2
                            try clear hfz56_0
                            try clear hfz56_1
                            try clear hfz56_2
                            try clear hfz59_0
                            try clear hfz59_1
                            try clear hfz59_2
                            try clear hfz61_0
                            try clear hfz61_1
                            try clear hfz61_2
                            try clear hfz64_0
                            try clear hfz64_1
                            try clear hfz64_2
                            try clear hx349_0
                            try clear hx349_1
                            try clear hx349_2
                            try clear hx351_0
                            try clear p2
                            try clear p3
                            try clear p349
                            try clear p351
                            try clear q3
                            try clear q349
                            try clear q351
                            obtain ⟨kq, x12_24, x13_24, rfl, HA, HJ24, HO_4, HO_5, HO_6, HO_12, BK350, HB⟩ := hcut
                            cases kq with
                            | zero => exact absurd HA.out (by simp [reliquarylaw22_EntriesKeep.j3])
                            | succ kj24 =>
                              have H := HA.out
                              clear HA
                              simp only [reliquarylaw22_EntriesKeep.j3] at H
                              by_cases c67 : x13_24 = 0
                              · rw [if_pos c67] at H
                                have c67b0 : (x13_24 == 0) = true := beq_iff_eq.mpr c67
                                have c67b1 : (x13_24 != 0) = false := bne_eq_false_iff_eq.mpr c67
                                clear c67
                                have HC68 := Aside0.mk H
                                clear H
                                have hcz69_0 : wc.cell? ⟨gb350, 0, none⟩ = some (.string ((rd_T55 l0 x7_1).f0)) := (blk_cell BK350.out 0).trans rfl
                                have hcz69_1 : wc.cell? ⟨gb350, 1, none⟩ = some (.int .u16 ((rd_T55 l0 x7_1).f1)) := (blk_cell BK350.out 1).trans rfl
                                have hcz69_2 : wc.cell? ⟨gb350, 2, none⟩ = some (.bool ((rd_T55 l0 x7_1).f2)) := (blk_cell BK350.out 2).trans rfl
                                have hfz69_0 := blk_frozen BK350.out 0
                                have hfz69_1 := blk_frozen BK350.out 1
                                have hfz69_2 := blk_frozen BK350.out 2
                                go_upto_if 103 with (fail)
                                go_cut [5, 6] (fun v5 v6 wc => ∃ (kq : Nat) (x5_67 : List ByteArray) (x6_67 : List Int), Aside0 (reliquarylaw22_EntriesKeep.j4 kq l0 x12_24 x5_67 x6_67 x7_1 = some r) ∧ Aside0 (kq ≤ kj24) ∧ Aside0 (Kd.R (Kd.int .u8) 5 wc w.heap.size (fun _ => True) u12 x12_24) ∧ Aside0 (Kd.R Kd.string 9 wc w.heap.size (fun _ => True) v5 x5_67) ∧ Aside0 (Kd.R (Kd.int .i64) 3 wc w.heap.size (fun _ => True) v6 x6_67) ∧ Aside0 (wc.heap[gb350]? = some (.cells #[.string ((rd_T55 l0 x7_1).f0), .int .u16 ((rd_T55 l0 x7_1).f1), .bool ((rd_T55 l0 x7_1).f2)] 55 (0, 0))) ∧ Aside0 (Below w.heap.size w wc))
                                case first => as_aux_lemma =>
                                  have H := HC68.out
                                  clear HC68
                                  by_cases c70 : ((rd_T55 l0 x7_1).f2) = true
                                  · rw [if_pos c70] at H
                                    have c70b0 : ((rd_T55 l0 x7_1).f2) = true := c70
                                    clear c70
                                    (first | rw [c70b0] | (simp only [i64_w, i32_w]; rw [c70b0]) | skip)
                                    by_cases c71 : 0 ≤ x9_3
                                    · rw [if_pos c71] at H
                                      have c71b0 := eq_true c71
                                      have c71b1 : decide (0 ≤ x9_3) = true := decide_eq_true c71
                                      clear c71
                                      by_cases c72 : x9_3 ≤ (x5_1.length : Int)
                                      · rw [if_pos c72] at H
                                        have c72b0 := eq_true c72
                                        have c72b1 : decide (x9_3 ≤ (x5_1.length : Int)) = true := decide_eq_true c72
                                        clear c72
                                        obtain ⟨y361, hy361⟩ : ∃ y_ : List ByteArray, y_ = (x5_1.take (x9_3 : Int).toNat) := ⟨_, rfl⟩
                                        replace H : (if ([] : List ByteArray).length + y361.length < 8796093022208 then ((some (([] : List ByteArray) ++ y361 : List ByteArray)).bind fun y365 => (if x9_3 ≤ (x6_1.length : Int) then ((some (x6_1.take (x9_3 : Int).toNat : List Int)).bind fun y368 => (if ([] : List Int).length + y368.length < 17592186044416 then ((some (([] : List Int) ++ y368 : List Int)).bind fun y372 => (if 0 ≤ (wrap64 (x9_3 + 1)) then (if (wrap64 (x9_3 + 1)) ≤ (x5_1.length : Int) then ((some (x5_1.drop ((wrap64 (x9_3 + 1)) : Int).toNat : List ByteArray)).bind fun y375 => (if y365.length + y375.length < 8796093022208 then (if (wrap64 (x9_3 + 1)) ≤ (x6_1.length : Int) then ((some (x6_1.drop ((wrap64 (x9_3 + 1)) : Int).toNat : List Int)).bind fun y382 => (if y372.length + y382.length < 17592186044416 then (reliquarylaw22_EntriesKeep.j4 kj24 l0 x12_24 (y365 ++ y375) (y372 ++ y382) x7_1) else (none))) else (none)) else (none))) else (none)) else (none))) else (none))) else (none))) else (none)) = some r := by first | (rw [hy361]; with_reducible exact H) | (have H2_ := (Option.bind_some _ _).symm.trans H; rw [hy361]; with_reducible exact H2_) | (have H2_ := (Option.bind_some _ _).symm.trans H; with_reducible exact H2_) | with_reducible exact H | (rw [hy361]; exact H) | exact H
                                        have Ny361 := Aside0.mk hy361
                                        clear hy361
                                        by_cases c73 : ([] : List ByteArray).length + y361.length < 8796093022208
                                        · rw [if_pos c73] at H
                                          have LMc73 := Aside0.mk c73
                                          clear c73
                                          obtain ⟨y365, hy365⟩ : ∃ y_ : List ByteArray, y_ = (([] : List ByteArray) ++ y361) := ⟨_, rfl⟩
                                          replace H : (if x9_3 ≤ (x6_1.length : Int) then ((some (x6_1.take (x9_3 : Int).toNat : List Int)).bind fun y368 => (if ([] : List Int).length + y368.length < 17592186044416 then ((some (([] : List Int) ++ y368 : List Int)).bind fun y372 => (if 0 ≤ (wrap64 (x9_3 + 1)) then (if (wrap64 (x9_3 + 1)) ≤ (x5_1.length : Int) then ((some (x5_1.drop ((wrap64 (x9_3 + 1)) : Int).toNat : List ByteArray)).bind fun y375 => (if y365.length + y375.length < 8796093022208 then (if (wrap64 (x9_3 + 1)) ≤ (x6_1.length : Int) then ((some (x6_1.drop ((wrap64 (x9_3 + 1)) : Int).toNat : List Int)).bind fun y382 => (if y372.length + y382.length < 17592186044416 then (reliquarylaw22_EntriesKeep.j4 kj24 l0 x12_24 (y365 ++ y375) (y372 ++ y382) x7_1) else (none))) else (none)) else (none))) else (none)) else (none))) else (none))) else (none)) = some r := by first | (rw [hy365]; with_reducible exact H) | (have H2_ := (Option.bind_some _ _).symm.trans H; rw [hy365]; with_reducible exact H2_) | (have H2_ := (Option.bind_some _ _).symm.trans H; with_reducible exact H2_) | with_reducible exact H | (rw [hy365]; exact H) | exact H
                                          have Ny365 := Aside0.mk hy365
                                          clear hy365
                                          have c74b0 := eq_true (of_decide_eq_true (by first | (with_reducible assumption) | assumption) : 0 ≤ x9_3)
                                          by_cases c75 : x9_3 ≤ (x6_1.length : Int)
                                          · rw [if_pos c75] at H
                                            have c75b0 := eq_true c75
                                            have c75b1 : decide (x9_3 ≤ (x6_1.length : Int)) = true := decide_eq_true c75
                                            clear c75
                                            obtain ⟨y368, hy368⟩ : ∃ y_ : List Int, y_ = (x6_1.take (x9_3 : Int).toNat) := ⟨_, rfl⟩
                                            replace H : (if ([] : List Int).length + y368.length < 17592186044416 then ((some (([] : List Int) ++ y368 : List Int)).bind fun y372 => (if 0 ≤ (wrap64 (x9_3 + 1)) then (if (wrap64 (x9_3 + 1)) ≤ (x5_1.length : Int) then ((some (x5_1.drop ((wrap64 (x9_3 + 1)) : Int).toNat : List ByteArray)).bind fun y375 => (if y365.length + y375.length < 8796093022208 then (if (wrap64 (x9_3 + 1)) ≤ (x6_1.length : Int) then ((some (x6_1.drop ((wrap64 (x9_3 + 1)) : Int).toNat : List Int)).bind fun y382 => (if y372.length + y382.length < 17592186044416 then (reliquarylaw22_EntriesKeep.j4 kj24 l0 x12_24 (y365 ++ y375) (y372 ++ y382) x7_1) else (none))) else (none)) else (none))) else (none)) else (none))) else (none)) = some r := by first | (rw [hy368]; with_reducible exact H) | (have H2_ := (Option.bind_some _ _).symm.trans H; rw [hy368]; with_reducible exact H2_) | (have H2_ := (Option.bind_some _ _).symm.trans H; with_reducible exact H2_) | with_reducible exact H | (rw [hy368]; exact H) | exact H
                                            have Ny368 := Aside0.mk hy368
                                            clear hy368
                                            by_cases c76 : ([] : List Int).length + y368.length < 17592186044416
                                            · rw [if_pos c76] at H
                                              have LMc76 := Aside0.mk c76
                                              clear c76
                                              obtain ⟨y372, hy372⟩ : ∃ y_ : List Int, y_ = (([] : List Int) ++ y368) := ⟨_, rfl⟩
                                              replace H : (if 0 ≤ (wrap64 (x9_3 + 1)) then (if (wrap64 (x9_3 + 1)) ≤ (x5_1.length : Int) then ((some (x5_1.drop ((wrap64 (x9_3 + 1)) : Int).toNat : List ByteArray)).bind fun y375 => (if y365.length + y375.length < 8796093022208 then (if (wrap64 (x9_3 + 1)) ≤ (x6_1.length : Int) then ((some (x6_1.drop ((wrap64 (x9_3 + 1)) : Int).toNat : List Int)).bind fun y382 => (if y372.length + y382.length < 17592186044416 then (reliquarylaw22_EntriesKeep.j4 kj24 l0 x12_24 (y365 ++ y375) (y372 ++ y382) x7_1) else (none))) else (none)) else (none))) else (none)) else (none)) = some r := by first | (rw [hy372]; with_reducible exact H) | (have H2_ := (Option.bind_some _ _).symm.trans H; rw [hy372]; with_reducible exact H2_) | (have H2_ := (Option.bind_some _ _).symm.trans H; with_reducible exact H2_) | with_reducible exact H | (rw [hy372]; exact H) | exact H
                                              have Ny372 := Aside0.mk hy372
                                              clear hy372
                                              obtain ⟨ji77, hji77⟩ : ∃ j_ : Int, (wrap64 (x9_3 + 1)) = j_ := ⟨_, rfl⟩
                                              replace H : (if 0 ≤ (ji77) then (if (ji77) ≤ (x5_1.length : Int) then ((some (x5_1.drop ((ji77) : Int).toNat : List ByteArray)).bind fun y375 => (if y365.length + y375.length < 8796093022208 then (if (ji77) ≤ (x6_1.length : Int) then ((some (x6_1.drop ((ji77) : Int).toNat : List Int)).bind fun y382 => (if y372.length + y382.length < 17592186044416 then (reliquarylaw22_EntriesKeep.j4 kj24 l0 x12_24 (y365 ++ y375) (y372 ++ y382) x7_1) else (none))) else (none)) else (none))) else (none)) else (none)) = some r := by first | (rw [hji77] at H; exact H) | (simp only [hji77] at H ⊢; exact H)
                                              have hji77w : (IntKind.i64.wrap (x9_3 + 1)) = ji77 := (i64_w _).trans hji77
                                              by_cases c78 : 0 ≤ (ji77)
                                              · rw [if_pos c78] at H
                                                have c78b0 := eq_true c78
                                                have c78b1 : decide (0 ≤ (ji77)) = true := decide_eq_true c78
                                                clear c78
                                                by_cases c79 : (ji77) ≤ (x5_1.length : Int)
                                                · rw [if_pos c79] at H
                                                  have c79b0 := eq_true c79
                                                  have c79b1 : decide ((ji77) ≤ (x5_1.length : Int)) = true := decide_eq_true c79
                                                  clear c79
                                                  obtain ⟨y375, hy375⟩ : ∃ y_ : List ByteArray, y_ = (x5_1.drop ((ji77) : Int).toNat) := ⟨_, rfl⟩
                                                  replace H : (if y365.length + y375.length < 8796093022208 then (if (ji77) ≤ (x6_1.length : Int) then ((some (x6_1.drop ((ji77) : Int).toNat : List Int)).bind fun y382 => (if y372.length + y382.length < 17592186044416 then (reliquarylaw22_EntriesKeep.j4 kj24 l0 x12_24 (y365 ++ y375) (y372 ++ y382) x7_1) else (none))) else (none)) else (none)) = some r := by first | (rw [hy375]; with_reducible exact H) | (have H2_ := (Option.bind_some _ _).symm.trans H; rw [hy375]; with_reducible exact H2_) | (have H2_ := (Option.bind_some _ _).symm.trans H; with_reducible exact H2_) | with_reducible exact H | (rw [hy375]; exact H) | exact H
                                                  have Ny375 := Aside0.mk hy375
                                                  clear hy375
                                                  by_cases c80 : y365.length + y375.length < 8796093022208
                                                  · rw [if_pos c80] at H
                                                    have LMc80 := Aside0.mk c80
                                                    clear c80
                                                    obtain ⟨y379, hy379⟩ : ∃ y_ : List ByteArray, y_ = (y365 ++ y375) := ⟨_, rfl⟩
                                                    replace H : (if (ji77) ≤ (x6_1.length : Int) then ((some (x6_1.drop ((ji77) : Int).toNat : List Int)).bind fun y382 => (if y372.length + y382.length < 17592186044416 then (reliquarylaw22_EntriesKeep.j4 kj24 l0 x12_24 y379 (y372 ++ y382) x7_1) else (none))) else (none)) = some r := by first | (rw [hy379]; with_reducible exact H) | (have H2_ := (Option.bind_some _ _).symm.trans H; rw [hy379]; with_reducible exact H2_) | (have H2_ := (Option.bind_some _ _).symm.trans H; with_reducible exact H2_) | with_reducible exact H | (rw [hy379]; exact H) | exact H
                                                    have Ny379 := Aside0.mk hy379
                                                    clear hy379
                                                    have c81b0 := eq_true (of_decide_eq_true (by first | (with_reducible assumption) | assumption) : 0 ≤ (ji77))
                                                    by_cases c82 : (ji77) ≤ (x6_1.length : Int)
                                                    · rw [if_pos c82] at H
                                                      have c82b0 := eq_true c82
                                                      have c82b1 : decide ((ji77) ≤ (x6_1.length : Int)) = true := decide_eq_true c82
                                                      clear c82
                                                      obtain ⟨y382, hy382⟩ : ∃ y_ : List Int, y_ = (x6_1.drop ((ji77) : Int).toNat) := ⟨_, rfl⟩
                                                      replace H : (if y372.length + y382.length < 17592186044416 then (reliquarylaw22_EntriesKeep.j4 kj24 l0 x12_24 y379 (y372 ++ y382) x7_1) else (none)) = some r := by first | (rw [hy382]; with_reducible exact H) | (have H2_ := (Option.bind_some _ _).symm.trans H; rw [hy382]; with_reducible exact H2_) | (have H2_ := (Option.bind_some _ _).symm.trans H; with_reducible exact H2_) | with_reducible exact H | (rw [hy382]; exact H) | exact H
                                                      have Ny382 := Aside0.mk hy382
                                                      clear hy382
                                                      by_cases c83 : y372.length + y382.length < 17592186044416
                                                      · rw [if_pos c83] at H
                                                        have LMc83 := Aside0.mk c83
                                                        clear c83
                                                        obtain ⟨y386, hy386⟩ : ∃ y_ : List Int, y_ = (y372 ++ y382) := ⟨_, rfl⟩
                                                        replace H : (reliquarylaw22_EntriesKeep.j4 kj24 l0 x12_24 y379 y386 x7_1) = some r := by first | (rw [hy386]; with_reducible exact H) | (have H2_ := (Option.bind_some _ _).symm.trans H; rw [hy386]; with_reducible exact H2_) | (have H2_ := (Option.bind_some _ _).symm.trans H; with_reducible exact H2_) | with_reducible exact H | (rw [hy386]; exact H) | exact H
                                                        have Ny386 := Aside0.mk hy386
                                                        clear hy386
                                                        have H' := Aside0.mk H
                                                        clear H
                                                        have q84 : (x9_3 : Int) ≤ ((x5_1.length : Int) : Int) := of_decide_eq_true (by first | (with_reducible assumption) | assumption)
                                                        obtain ⟨i084, hi084, _, hsz84, _⟩ := info_parts info9
                                                        have hroom84 : x5_1.length ≤ co26 := (Kd.R_reads' HO_5.out).2.1
                                                        have hC84 : Kd.C Kd.string _ Ao26 x5_1.length x5_1 := (Kd.R_reads' HO_5.out).2.2
                                                        have hcut84 := cut_to (P := Try.prog) 52 9 .i64 Try.underlying52 hi084 Ao26 x5_1.length co26 x9_3 (of_decide_eq_true (by first | (with_reducible assumption) | assumption)) q84 hroom84
                                                        have hr84 := Kd.C_take (m := (x9_3 : Int).toNat) hC84 (by omega)
                                                        have hy84 : y361.length = (x9_3 : Int).toNat := (by rw [Ny361.out, List.length_take]; omega)
                                                        rw [← Ny361.out] at hr84
                                                        rw [← hy84] at hcut84
                                                        have HR364 := Aside0.mk hr84
                                                        have HC364 := Aside0.mk (show y361.length ≤ co26 from by omega)
                                                        clear hr84 hC84 hroom84 hi084 hsz84
                                                        have KY84 := Aside0.mk hy84
                                                        clear hy84
                                                        have KL84 := Aside0.mk (show (x9_3 : Int).toNat ≤ x5_1.length from by omega)
                                                        replace q84 := eq_true q84
                                                        go_wp2_with (first | ((with_reducible refine gate_builtin (b := .append) (xs := #[.tmp 104, .tmp 107]) rfl ?_); (try (refine gate_guard (by rfl) ?_; dsimp only)); at_builtin; refine Kd.R_append_rows Kd.string (w0 := w) w.heap.size rfl (.tmp 104) (.tmp 107) 52 9 (.string ⟨#[]⟩) 16 rfl Try.underlying52 info9 rfl (by decide) (by omega) (.slice none 0 0) ([] : List ByteArray) y361 _ _ _ (fun k_ => some k_ ≠ (.slice Ao26 x5_1.length co26 : Value).ownBlock) (fun _ => False) rfl rfl ?aO ?aR (fun _ _ h => h) (fun _ h => h.elim) ?aF ?aB ?aS ?aL ?_; (case aR => repeat (first | exact (by repeat (first | (with_reducible exact HR364.out) | (with_reducible refine Kd.C_alloc ?_ _) | (with_reducible refine Kd.C_drewN ?_ _) | (with_reducible refine Kd.C_drew ?_) | exact HR364.out)) | (with_reducible refine Kd.C_alloc ?_ _) | (with_reducible refine Kd.C_drewN ?_ _) | (with_reducible refine Kd.C_drew ?_))); (case aB => exact (by repeat (first | (with_reducible first | exact HB.out | apply below_alloc | apply pw_below_drewN | apply below_drew1 | refine below_set ?_ GE350.out) | exact HB.out))); (case aF => exact (fun k_ hk => Kd.fresh' (Kd.R_lt (by (with_reducible repeat (first | apply Kd.R_alloc | apply Kd.R_drewN | apply Kd.R_drew)); exact HO_5.out)) k_ hk)); (case aO => exact ((Kd.R_nil _ _ _ _ (fun k_ => some k_ ≠ (.slice Ao26 x5_1.length co26 : Value).ownBlock)))); (case aS => exact (below_size (by repeat (first | (with_reducible first | exact HB.out | apply below_alloc | apply pw_below_drewN | apply below_drew1 | refine below_set ?_ GE350.out) | exact HB.out)))); (case aL => have := LMc73.out; omega); intro v366 w85 ho hb hg hat; rw [← Ny365.out] at ho; have n0_ := Aside0.mk (Kd.R_grown (by (with_reducible repeat (first | apply Kd.R_alloc | apply Kd.R_drewN | apply Kd.R_drew)); exact HO_4.out) hg (fun _ _ => by simp [Value.ownBlock])); have n1_ := Aside0.mk (Kd.R_after (Kd.R_apart_nil (by (with_reducible repeat (first | apply Kd.R_alloc | apply Kd.R_drewN | apply Kd.R_drew)); exact HO_5.out)) hg hat); have n2_ := Aside0.mk (Kd.R_grown (by (with_reducible repeat (first | apply Kd.R_alloc | apply Kd.R_drewN | apply Kd.R_drew)); exact HO_6.out) hg (fun _ _ => by simp [Value.ownBlock])); have n3_ := Aside0.mk (Kd.R_grown (by (with_reducible repeat (first | apply Kd.R_alloc | apply Kd.R_drewN | apply Kd.R_drew)); exact HO_12.out) hg (fun _ _ => by simp [Value.ownBlock])); have n4_ := Aside0.mk (blk_grown (g := gb350) (o := .cells #[.string ((rd_T55 l0 x7_1).f0), .int .u16 ((rd_T55 l0 x7_1).f1), .bool ((rd_T55 l0 x7_1).f2)] 55 (0, 0)) (by (with_reducible repeat (first | refine blk_drewN ?_ _ | refine blk_drew ?_ | refine blk_alloc ?_ _)); exact BK350.out) hg (by simp [Value.ownBlock])); have n5_ := Aside0.mk (hb); have n6_ := Aside0.mk ((show Kd.C Kd.string w85 Ao26 y361.length y361 from by rw [Ny361.out]; exact Kd.C_take (m := (x9_3 : Int).toNat) ((Kd.R_reads' (Kd.R_after (Kd.R_apart_nil (by (with_reducible repeat (first | apply Kd.R_alloc | apply Kd.R_drewN | apply Kd.R_drew)); exact HO_5.out)) hg hat)).2.2) KL84.out)); have n7_ := Aside0.mk (ho); clear HO_4; clear HO_5; clear HO_6; clear HO_12; clear BK350; clear HB; clear HR364; have HO_4 := n0_; have HO_5 := n1_; have HO_6 := n2_; have HO_12 := n3_; have BK350 := n4_; have HB := n5_; have HR364 := n6_; have HO367 := n7_; clear n0_ n1_ n2_ n3_ n4_ n5_ n6_ n7_; clear ho hb hg hat; obtain ⟨Ao87, co87, eo87⟩ := Kd.R_slice HO_6.out; subst eo87; have q86 : (x9_3 : Int) ≤ ((x6_1.length : Int) : Int) := of_decide_eq_true (by first | (with_reducible assumption) | assumption); obtain ⟨i086, hi086, _, hsz86, _⟩ := info_parts info3; have hroom86 : x6_1.length ≤ co87 := (Kd.R_reads' HO_6.out).2.1; have hC86 : Kd.C (Kd.int .i64) _ Ao87 x6_1.length x6_1 := (Kd.R_reads' HO_6.out).2.2; have hcut86 := cut_to (P := Try.prog) 53 3 .i64 Try.underlying53 hi086 Ao87 x6_1.length co87 x9_3 (of_decide_eq_true (by first | (with_reducible assumption) | assumption)) q86 hroom86; have hr86 := Kd.C_take (m := (x9_3 : Int).toNat) hC86 (by omega); have hy86 : y368.length = (x9_3 : Int).toNat := (by rw [Ny368.out, List.length_take]; omega); rw [← Ny368.out] at hr86; rw [← hy86] at hcut86; have HR371 := Aside0.mk hr86; have HC371 := Aside0.mk (show y368.length ≤ co87 from by omega); clear hr86 hC86 hroom86 hi086 hsz86; have KY86 := Aside0.mk hy86; clear hy86; have KL86 := Aside0.mk (show (x9_3 : Int).toNat ≤ x6_1.length from by omega); replace q86 := eq_true q86) | ((with_reducible refine gate_builtin (b := .append) (xs := #[.tmp 109, .tmp 112]) rfl ?_); (try (refine gate_guard (by rfl) ?_; dsimp only)); at_builtin; refine Kd.R_append_rows (Kd.int .i64) (w0 := w) w.heap.size rfl (.tmp 109) (.tmp 112) 53 3 (.int .i64 0) 8 rfl Try.underlying53 info3 rfl (by decide) (by omega) (.slice none 0 0) ([] : List Int) y368 _ _ _ (fun k_ => some k_ ≠ (.slice Ao87 x6_1.length co87 : Value).ownBlock) (fun _ => False) rfl rfl ?aO ?aR (fun _ _ h => h) (fun _ h => h.elim) ?aF ?aB ?aS ?aL ?_; (case aR => repeat (first | exact (by repeat (first | (with_reducible exact HR371.out) | (with_reducible refine Kd.C_alloc ?_ _) | (with_reducible refine Kd.C_drewN ?_ _) | (with_reducible refine Kd.C_drew ?_) | exact HR371.out)) | (with_reducible refine Kd.C_alloc ?_ _) | (with_reducible refine Kd.C_drewN ?_ _) | (with_reducible refine Kd.C_drew ?_))); (case aB => exact (by repeat (first | (with_reducible first | exact HB.out | apply below_alloc | apply pw_below_drewN | apply below_drew1 | refine below_set ?_ GE350.out) | exact HB.out))); (case aF => exact (fun k_ hk => Kd.fresh' (Kd.R_lt (by (with_reducible repeat (first | apply Kd.R_alloc | apply Kd.R_drewN | apply Kd.R_drew)); exact HO_6.out)) k_ hk)); (case aO => exact ((Kd.R_nil _ _ _ _ (fun k_ => some k_ ≠ (.slice Ao87 x6_1.length co87 : Value).ownBlock)))); (case aS => exact (below_size (by repeat (first | (with_reducible first | exact HB.out | apply below_alloc | apply pw_below_drewN | apply below_drew1 | refine below_set ?_ GE350.out) | exact HB.out)))); (case aL => have := LMc76.out; omega); intro v373 w88 ho hb hg hat; rw [← Ny372.out] at ho; have n0_ := Aside0.mk (Kd.R_grown (by (with_reducible repeat (first | apply Kd.R_alloc | apply Kd.R_drewN | apply Kd.R_drew)); exact HO_4.out) hg (fun _ _ => by simp [Value.ownBlock])); have n1_ := Aside0.mk (Kd.R_grown (by (with_reducible repeat (first | apply Kd.R_alloc | apply Kd.R_drewN | apply Kd.R_drew)); exact HO_5.out) hg (fun _ _ => by simp [Value.ownBlock])); have n2_ := Aside0.mk (Kd.R_after (Kd.R_apart_nil (by (with_reducible repeat (first | apply Kd.R_alloc | apply Kd.R_drewN | apply Kd.R_drew)); exact HO_6.out)) hg hat); have n3_ := Aside0.mk (Kd.R_grown (by (with_reducible repeat (first | apply Kd.R_alloc | apply Kd.R_drewN | apply Kd.R_drew)); exact HO_12.out) hg (fun _ _ => by simp [Value.ownBlock])); have n4_ := Aside0.mk (blk_grown (g := gb350) (o := .cells #[.string ((rd_T55 l0 x7_1).f0), .int .u16 ((rd_T55 l0 x7_1).f1), .bool ((rd_T55 l0 x7_1).f2)] 55 (0, 0)) (by (with_reducible repeat (first | refine blk_drewN ?_ _ | refine blk_drew ?_ | refine blk_alloc ?_ _)); exact BK350.out) hg (by simp [Value.ownBlock])); have n5_ := Aside0.mk (Kd.R_grown (by (with_reducible repeat (first | apply Kd.R_alloc | apply Kd.R_drewN | apply Kd.R_drew)); exact HO367.out) hg (fun _ _ => by simp [Value.ownBlock])); have n6_ := Aside0.mk (hb); have n7_ := Aside0.mk ((show Kd.C Kd.string w88 Ao26 y361.length y361 from by rw [Ny361.out]; exact Kd.C_take (m := (x9_3 : Int).toNat) ((Kd.R_reads' (Kd.R_grown (by (with_reducible repeat (first | apply Kd.R_alloc | apply Kd.R_drewN | apply Kd.R_drew)); exact HO_5.out) hg (fun _ _ => by simp [Value.ownBlock]))).2.2) KL84.out)); have n8_ := Aside0.mk ((show Kd.C (Kd.int .i64) w88 Ao87 y368.length y368 from by rw [Ny368.out]; exact Kd.C_take (m := (x9_3 : Int).toNat) ((Kd.R_reads' (Kd.R_after (Kd.R_apart_nil (by (with_reducible repeat (first | apply Kd.R_alloc | apply Kd.R_drewN | apply Kd.R_drew)); exact HO_6.out)) hg hat)).2.2) KL86.out)); have n9_ := Aside0.mk (ho); clear HO_4; clear HO_5; clear HO_6; clear HO_12; clear BK350; clear HO367; clear HB; clear HR364; clear HR371; have HO_4 := n0_; have HO_5 := n1_; have HO_6 := n2_; have HO_12 := n3_; have BK350 := n4_; have HO367 := n5_; have HB := n6_; have HR364 := n7_; have HR371 := n8_; have HO374 := n9_; clear n0_ n1_ n2_ n3_ n4_ n5_ n6_ n7_ n8_ n9_; clear ho hb hg hat; have q89 : ((ji77) : Int) ≤ ((x5_1.length : Int) : Int) := of_decide_eq_true (by first | (with_reducible assumption) | assumption); obtain ⟨i089, hi089, _, hsz89, _⟩ := info_parts info9; have hroom89 : x5_1.length ≤ co26 := (Kd.R_reads' HO_5.out).2.1; have hC89 : Kd.C Kd.string _ Ao26 x5_1.length x5_1 := (Kd.R_reads' HO_5.out).2.2; have q089 : (0 : Int) ≤ ((ji77) : Int) := of_decide_eq_true (by first | (with_reducible assumption) | assumption); have hcut89 := cut_from (P := Try.prog) 52 9 .i64 Try.underlying52 hi089 1 hsz89 Ao26 x5_1.length co26 (ji77) q089 q89; have hr89 := Kd.C_drop (m := ((ji77) : Int).toNat) (c := co26) hC89 (by omega) hroom89; obtain ⟨A89, hA89⟩ : ∃ A1, A1 = (if co26 = ((ji77) : Int).toNat then Ao26 else (Ao26 : Option Addr).map (·.add (((ji77) : Int).toNat * 1))) := ⟨_, rfl⟩; obtain ⟨c89, hc89⟩ : ∃ c1, c1 = co26 - ((ji77) : Int).toNat := ⟨_, rfl⟩; have hy89 : y375.length = x5_1.length - ((ji77) : Int).toNat := (by rw [Ny375.out, List.length_drop] <;> omega); rw [show (x5_1).drop ((ji77) : Int).toNat = y375 from Ny375.out.symm] at hr89; replace hr89 : Kd.C Kd.string _ A89 y375.length y375 := (by rw [hA89]; exact hr89); rw [← hy89, ← hA89, ← hc89] at hcut89; have HR378 := Aside0.mk hr89; have HC378 := Aside0.mk (show y375.length ≤ c89 from by rw [hy89, hc89]; exact Nat.sub_le_sub_right hroom89 _); clear hr89 hC89 hroom89 hi089 hsz89 hc89; have KY89 := Aside0.mk hy89; have KA89 := Aside0.mk hA89; clear hy89 hA89; have KL89 := Aside0.mk (show ((ji77) : Int).toNat ≤ x5_1.length from by omega); replace q89 := eq_true q89) | ((with_reducible refine gate_builtin (b := .append) (xs := #[.tmp 114, .tmp 118]) rfl ?_); (try (refine gate_guard (by rfl) ?_; dsimp only)); at_builtin; refine Kd.R_append_rows Kd.string (w0 := w) w.heap.size rfl (.tmp 114) (.tmp 118) 52 9 (.string ⟨#[]⟩) 16 rfl Try.underlying52 info9 rfl (by decide) (by omega) v366 y365 y375 _ _ _ (fun k_ => some k_ ≠ (.slice Ao26 x5_1.length co26 : Value).ownBlock) (fun _ => False) rfl rfl ?aO ?aR (fun _ _ h => h) (fun _ h => h.elim) ?aF ?aB ?aS ?aL ?_; (case aR => repeat (first | exact (by repeat (first | (with_reducible exact HR378.out) | (with_reducible refine Kd.C_alloc ?_ _) | (with_reducible refine Kd.C_drewN ?_ _) | (with_reducible refine Kd.C_drew ?_) | exact HR378.out)) | (with_reducible refine Kd.C_alloc ?_ _) | (with_reducible refine Kd.C_drewN ?_ _) | (with_reducible refine Kd.C_drew ?_))); (case aB => exact (by repeat (first | (with_reducible first | exact HB.out | apply below_alloc | apply pw_below_drewN | apply below_drew1 | refine below_set ?_ GE350.out) | exact HB.out))); (case aF => exact (fun k_ hk => Kd.fresh' (Kd.R_lt (by (with_reducible repeat (first | apply Kd.R_alloc | apply Kd.R_drewN | apply Kd.R_drew)); exact HO_5.out)) k_ hk)); (case aO => exact (by (with_reducible repeat (first | apply Kd.R_alloc | apply Kd.R_drewN | apply Kd.R_drew)); exact HO367.out)); (case aS => exact (below_size (by repeat (first | (with_reducible first | exact HB.out | apply below_alloc | apply pw_below_drewN | apply below_drew1 | refine below_set ?_ GE350.out) | exact HB.out)))); (case aL => have := LMc80.out; omega); intro v380 w90 ho hb hg hat; rw [← Ny379.out] at ho; have n0_ := Aside0.mk (Kd.R_over' (by (with_reducible repeat (first | apply Kd.R_alloc | apply Kd.R_drewN | apply Kd.R_drew)); exact HO_4.out) (Kd.R_typed (by (with_reducible repeat (first | apply Kd.R_alloc | apply Kd.R_drewN | apply Kd.R_drew)); exact HO367.out)) (by decide) hg); have n1_ := Aside0.mk (Kd.R_after (ok := (fun _ => True)) (by (with_reducible repeat (first | apply Kd.R_alloc | apply Kd.R_drewN | apply Kd.R_drew)); exact HO_5.out) hg hat); have n2_ := Aside0.mk (Kd.R_over' (by (with_reducible repeat (first | apply Kd.R_alloc | apply Kd.R_drewN | apply Kd.R_drew)); exact HO_6.out) (Kd.R_typed (by (with_reducible repeat (first | apply Kd.R_alloc | apply Kd.R_drewN | apply Kd.R_drew)); exact HO367.out)) (by decide) hg); have n3_ := Aside0.mk (Kd.R_over' (by (with_reducible repeat (first | apply Kd.R_alloc | apply Kd.R_drewN | apply Kd.R_drew)); exact HO_12.out) (Kd.R_typed (by (with_reducible repeat (first | apply Kd.R_alloc | apply Kd.R_drewN | apply Kd.R_drew)); exact HO367.out)) (by decide) hg); have n4_ := Aside0.mk (blk_grown (g := gb350) (o := .cells #[.string ((rd_T55 l0 x7_1).f0), .int .u16 ((rd_T55 l0 x7_1).f1), .bool ((rd_T55 l0 x7_1).f2)] 55 (0, 0)) (by (with_reducible repeat (first | refine blk_drewN ?_ _ | refine blk_drew ?_ | refine blk_alloc ?_ _)); exact BK350.out) hg (Kd.R_ne HO367.out BK350.out (by decide))); have n5_ := Aside0.mk (Kd.R_over' (by (with_reducible repeat (first | apply Kd.R_alloc | apply Kd.R_drewN | apply Kd.R_drew)); exact HO374.out) (Kd.R_typed (by (with_reducible repeat (first | apply Kd.R_alloc | apply Kd.R_drewN | apply Kd.R_drew)); exact HO367.out)) (by decide) hg); have n6_ := Aside0.mk (hb); have n7_ := Aside0.mk ((show Kd.C Kd.string w90 Ao26 y361.length y361 from by rw [Ny361.out]; exact Kd.C_take (m := (x9_3 : Int).toNat) ((Kd.R_reads' (Kd.R_after (ok := (fun _ => True)) (by (with_reducible repeat (first | apply Kd.R_alloc | apply Kd.R_drewN | apply Kd.R_drew)); exact HO_5.out) hg hat)).2.2) KL84.out)); have n8_ := Aside0.mk ((show Kd.C (Kd.int .i64) w90 Ao87 y368.length y368 from by rw [Ny368.out]; exact Kd.C_take (m := (x9_3 : Int).toNat) ((Kd.R_reads' (Kd.R_over' (by (with_reducible repeat (first | apply Kd.R_alloc | apply Kd.R_drewN | apply Kd.R_drew)); exact HO_6.out) (Kd.R_typed (by (with_reducible repeat (first | apply Kd.R_alloc | apply Kd.R_drewN | apply Kd.R_drew)); exact HO367.out)) (by decide) hg)).2.2) KL86.out)); have n9_ := Aside0.mk ((show Kd.C Kd.string w90 A89 y375.length y375 from by rw [Ny375.out, KA89.out]; exact Kd.C_drop (m := ((ji77) : Int).toNat) (c := co26) ((Kd.R_reads' (Kd.R_after (ok := (fun _ => True)) (by (with_reducible repeat (first | apply Kd.R_alloc | apply Kd.R_drewN | apply Kd.R_drew)); exact HO_5.out) hg hat)).2.2) KL89.out ((Kd.R_reads' (Kd.R_after (ok := (fun _ => True)) (by (with_reducible repeat (first | apply Kd.R_alloc | apply Kd.R_drewN | apply Kd.R_drew)); exact HO_5.out) hg hat)).2.1))); have n10_ := Aside0.mk (ho); clear HO_4; clear HO_5; clear HO_6; clear HO_12; clear BK350; clear HO374; clear HB; clear HR364; clear HR371; clear HR378; clear HO367; have HO_4 := n0_; have HO_5 := n1_; have HO_6 := n2_; have HO_12 := n3_; have BK350 := n4_; have HO374 := n5_; have HB := n6_; have HR364 := n7_; have HR371 := n8_; have HR378 := n9_; have HO381 := n10_; clear n0_ n1_ n2_ n3_ n4_ n5_ n6_ n7_ n8_ n9_ n10_; clear ho hb hg hat; have q91 : ((ji77) : Int) ≤ ((x6_1.length : Int) : Int) := of_decide_eq_true (by first | (with_reducible assumption) | assumption); obtain ⟨i091, hi091, _, hsz91, _⟩ := info_parts info3; have hroom91 : x6_1.length ≤ co87 := (Kd.R_reads' HO_6.out).2.1; have hC91 : Kd.C (Kd.int .i64) _ Ao87 x6_1.length x6_1 := (Kd.R_reads' HO_6.out).2.2; have q091 : (0 : Int) ≤ ((ji77) : Int) := of_decide_eq_true (by first | (with_reducible assumption) | assumption); have hcut91 := cut_from (P := Try.prog) 53 3 .i64 Try.underlying53 hi091 1 hsz91 Ao87 x6_1.length co87 (ji77) q091 q91; have hr91 := Kd.C_drop (m := ((ji77) : Int).toNat) (c := co87) hC91 (by omega) hroom91; obtain ⟨A91, hA91⟩ : ∃ A1, A1 = (if co87 = ((ji77) : Int).toNat then Ao87 else (Ao87 : Option Addr).map (·.add (((ji77) : Int).toNat * 1))) := ⟨_, rfl⟩; obtain ⟨c91, hc91⟩ : ∃ c1, c1 = co87 - ((ji77) : Int).toNat := ⟨_, rfl⟩; have hy91 : y382.length = x6_1.length - ((ji77) : Int).toNat := (by rw [Ny382.out, List.length_drop] <;> omega); rw [show (x6_1).drop ((ji77) : Int).toNat = y382 from Ny382.out.symm] at hr91; replace hr91 : Kd.C (Kd.int .i64) _ A91 y382.length y382 := (by rw [hA91]; exact hr91); rw [← hy91, ← hA91, ← hc91] at hcut91; have HR385 := Aside0.mk hr91; have HC385 := Aside0.mk (show y382.length ≤ c91 from by rw [hy91, hc91]; exact Nat.sub_le_sub_right hroom91 _); clear hr91 hC91 hroom91 hi091 hsz91 hc91; have KY91 := Aside0.mk hy91; have KA91 := Aside0.mk hA91; clear hy91 hA91; have KL91 := Aside0.mk (show ((ji77) : Int).toNat ≤ x6_1.length from by omega); replace q91 := eq_true q91) | ((with_reducible refine gate_builtin (b := .append) (xs := #[.tmp 120, .tmp 124]) rfl ?_); (try (refine gate_guard (by rfl) ?_; dsimp only)); at_builtin; refine Kd.R_append_rows (Kd.int .i64) (w0 := w) w.heap.size rfl (.tmp 120) (.tmp 124) 53 3 (.int .i64 0) 8 rfl Try.underlying53 info3 rfl (by decide) (by omega) v373 y372 y382 _ _ _ (fun k_ => some k_ ≠ (.slice Ao87 x6_1.length co87 : Value).ownBlock) (fun _ => False) rfl rfl ?aO ?aR (fun _ _ h => h) (fun _ h => h.elim) ?aF ?aB ?aS ?aL ?_; (case aR => repeat (first | exact (by repeat (first | (with_reducible exact HR385.out) | (with_reducible refine Kd.C_alloc ?_ _) | (with_reducible refine Kd.C_drewN ?_ _) | (with_reducible refine Kd.C_drew ?_) | exact HR385.out)) | (with_reducible refine Kd.C_alloc ?_ _) | (with_reducible refine Kd.C_drewN ?_ _) | (with_reducible refine Kd.C_drew ?_))); (case aB => exact (by repeat (first | (with_reducible first | exact HB.out | apply below_alloc | apply pw_below_drewN | apply below_drew1 | refine below_set ?_ GE350.out) | exact HB.out))); (case aF => exact (fun k_ hk => Kd.fresh' (Kd.R_lt (by (with_reducible repeat (first | apply Kd.R_alloc | apply Kd.R_drewN | apply Kd.R_drew)); exact HO_6.out)) k_ hk)); (case aO => exact (by (with_reducible repeat (first | apply Kd.R_alloc | apply Kd.R_drewN | apply Kd.R_drew)); exact HO374.out)); (case aS => exact (below_size (by repeat (first | (with_reducible first | exact HB.out | apply below_alloc | apply pw_below_drewN | apply below_drew1 | refine below_set ?_ GE350.out) | exact HB.out)))); (case aL => have := LMc83.out; omega); intro v387 w92 ho hb hg hat; rw [← Ny386.out] at ho; have n0_ := Aside0.mk (Kd.R_over' (by (with_reducible repeat (first | apply Kd.R_alloc | apply Kd.R_drewN | apply Kd.R_drew)); exact HO_4.out) (Kd.R_typed (by (with_reducible repeat (first | apply Kd.R_alloc | apply Kd.R_drewN | apply Kd.R_drew)); exact HO374.out)) (by decide) hg); have n1_ := Aside0.mk (Kd.R_over' (by (with_reducible repeat (first | apply Kd.R_alloc | apply Kd.R_drewN | apply Kd.R_drew)); exact HO_5.out) (Kd.R_typed (by (with_reducible repeat (first | apply Kd.R_alloc | apply Kd.R_drewN | apply Kd.R_drew)); exact HO374.out)) (by decide) hg); have n2_ := Aside0.mk (Kd.R_after (ok := (fun _ => True)) (by (with_reducible repeat (first | apply Kd.R_alloc | apply Kd.R_drewN | apply Kd.R_drew)); exact HO_6.out) hg hat); have n3_ := Aside0.mk (Kd.R_over' (by (with_reducible repeat (first | apply Kd.R_alloc | apply Kd.R_drewN | apply Kd.R_drew)); exact HO_12.out) (Kd.R_typed (by (with_reducible repeat (first | apply Kd.R_alloc | apply Kd.R_drewN | apply Kd.R_drew)); exact HO374.out)) (by decide) hg); have n4_ := Aside0.mk (blk_grown (g := gb350) (o := .cells #[.string ((rd_T55 l0 x7_1).f0), .int .u16 ((rd_T55 l0 x7_1).f1), .bool ((rd_T55 l0 x7_1).f2)] 55 (0, 0)) (by (with_reducible repeat (first | refine blk_drewN ?_ _ | refine blk_drew ?_ | refine blk_alloc ?_ _)); exact BK350.out) hg (Kd.R_ne HO374.out BK350.out (by decide))); have n5_ := Aside0.mk (Kd.R_over' (by (with_reducible repeat (first | apply Kd.R_alloc | apply Kd.R_drewN | apply Kd.R_drew)); exact HO381.out) (Kd.R_typed (by (with_reducible repeat (first | apply Kd.R_alloc | apply Kd.R_drewN | apply Kd.R_drew)); exact HO374.out)) (by decide) hg); have n6_ := Aside0.mk (hb); have n7_ := Aside0.mk ((show Kd.C Kd.string w92 Ao26 y361.length y361 from by rw [Ny361.out]; exact Kd.C_take (m := (x9_3 : Int).toNat) ((Kd.R_reads' (Kd.R_over' (by (with_reducible repeat (first | apply Kd.R_alloc | apply Kd.R_drewN | apply Kd.R_drew)); exact HO_5.out) (Kd.R_typed (by (with_reducible repeat (first | apply Kd.R_alloc | apply Kd.R_drewN | apply Kd.R_drew)); exact HO374.out)) (by decide) hg)).2.2) KL84.out)); have n8_ := Aside0.mk ((show Kd.C (Kd.int .i64) w92 Ao87 y368.length y368 from by rw [Ny368.out]; exact Kd.C_take (m := (x9_3 : Int).toNat) ((Kd.R_reads' (Kd.R_after (ok := (fun _ => True)) (by (with_reducible repeat (first | apply Kd.R_alloc | apply Kd.R_drewN | apply Kd.R_drew)); exact HO_6.out) hg hat)).2.2) KL86.out)); have n9_ := Aside0.mk ((show Kd.C Kd.string w92 A89 y375.length y375 from by rw [Ny375.out, KA89.out]; exact Kd.C_drop (m := ((ji77) : Int).toNat) (c := co26) ((Kd.R_reads' (Kd.R_over' (by (with_reducible repeat (first | apply Kd.R_alloc | apply Kd.R_drewN | apply Kd.R_drew)); exact HO_5.out) (Kd.R_typed (by (with_reducible repeat (first | apply Kd.R_alloc | apply Kd.R_drewN | apply Kd.R_drew)); exact HO374.out)) (by decide) hg)).2.2) KL89.out ((Kd.R_reads' (Kd.R_over' (by (with_reducible repeat (first | apply Kd.R_alloc | apply Kd.R_drewN | apply Kd.R_drew)); exact HO_5.out) (Kd.R_typed (by (with_reducible repeat (first | apply Kd.R_alloc | apply Kd.R_drewN | apply Kd.R_drew)); exact HO374.out)) (by decide) hg)).2.1))); have n10_ := Aside0.mk ((show Kd.C (Kd.int .i64) w92 A91 y382.length y382 from by rw [Ny382.out, KA91.out]; exact Kd.C_drop (m := ((ji77) : Int).toNat) (c := co87) ((Kd.R_reads' (Kd.R_after (ok := (fun _ => True)) (by (with_reducible repeat (first | apply Kd.R_alloc | apply Kd.R_drewN | apply Kd.R_drew)); exact HO_6.out) hg hat)).2.2) KL91.out ((Kd.R_reads' (Kd.R_after (ok := (fun _ => True)) (by (with_reducible repeat (first | apply Kd.R_alloc | apply Kd.R_drewN | apply Kd.R_drew)); exact HO_6.out) hg hat)).2.1))); have n11_ := Aside0.mk (ho); clear HO_4; clear HO_5; clear HO_6; clear HO_12; clear BK350; clear HO381; clear HB; clear HR364; clear HR371; clear HR378; clear HR385; clear HO374; have HO_4 := n0_; have HO_5 := n1_; have HO_6 := n2_; have HO_12 := n3_; have BK350 := n4_; have HO381 := n5_; have HB := n6_; have HR364 := n7_; have HR371 := n8_; have HR378 := n9_; have HR385 := n10_; have HO388 := n11_; clear n0_ n1_ n2_ n3_ n4_ n5_ n6_ n7_ n8_ n9_ n10_ n11_; clear ho hb hg hat))
                                                        go_meet
                                                        case rel => exact ⟨_, (y379), (y386), H', ⟨by have := HK1.out; have := HJ6.out; have := HK3.out; have := HJ24.out; first | omega | exact Nat.le_refl _⟩, ⟨by (with_reducible repeat (first | apply Kd.R_alloc | apply Kd.R_drewN | apply Kd.R_drew)); exact Kd.R_mono HO_12.out (fun _ hk => trivial)⟩, ⟨by (with_reducible repeat (first | apply Kd.R_alloc | apply Kd.R_drewN | apply Kd.R_drew)); exact Kd.R_mono HO381.out (fun _ hk => trivial)⟩, ⟨by (with_reducible repeat (first | apply Kd.R_alloc | apply Kd.R_drewN | apply Kd.R_drew)); exact Kd.R_mono HO388.out (fun _ hk => trivial)⟩, ⟨by (with_reducible repeat (first | refine blk_drewN ?_ _ | refine blk_drew ?_ | refine blk_alloc ?_ _)); exact BK350.out⟩, ⟨by repeat (first | (with_reducible first | exact HB.out | apply below_alloc | apply pw_below_drewN | apply below_drew1 | refine below_set ?_ GE350.out) | exact HB.out)⟩⟩
                                                      · rw [if_neg c83] at H
                                                        exact absurd H (by simp)
                                                    · rw [if_neg c82] at H
                                                      exact absurd H (by simp)
                                                  · rw [if_neg c80] at H
                                                    exact absurd H (by simp)
                                                · rw [if_neg c79] at H
                                                  exact absurd H (by simp)
                                              · rw [if_neg c78] at H
                                                exact absurd H (by simp)
                                            · rw [if_neg c76] at H
                                              exact absurd H (by simp)
                                          · rw [if_neg c75] at H
                                            exact absurd H (by simp)
                                        · rw [if_neg c73] at H
                                          exact absurd H (by simp)
                                      · rw [if_neg c72] at H
                                        exact absurd H (by simp)
                                    · rw [if_neg c71] at H
                                      exact absurd H (by simp)
                                  · rw [if_neg c70] at H
                                    have c70b0 : ((rd_T55 l0 x7_1).f2) = false := by simpa using c70
                                    clear c70
                                    (first | rw [c70b0] | (simp only [i64_w, i32_w]; rw [c70b0]) | skip)
                                    by_cases c93 : x5_1.length < 8796093022208
                                    · rw [if_pos c93] at H
                                      have LMc93 := Aside0.mk c93
                                      clear c93
                                      obtain ⟨y389, hy389⟩ : ∃ y_ : List ByteArray, y_ = (x5_1 ++ [((rd_T55 l0 x7_1).f0)]) := ⟨_, rfl⟩
                                      replace H : (if x6_1.length < 17592186044416 then (reliquarylaw22_EntriesKeep.j4 kj24 l0 x12_24 y389 (x6_1 ++ [wrap64 (((rd_T55 l0 x7_1).f1))]) x7_1) else (none)) = some r := by first | (rw [hy389]; with_reducible exact H) | (have H2_ := (Option.bind_some _ _).symm.trans H; rw [hy389]; with_reducible exact H2_) | (have H2_ := (Option.bind_some _ _).symm.trans H; with_reducible exact H2_) | with_reducible exact H | (rw [hy389]; exact H) | exact H
                                      have Ny389 := Aside0.mk hy389
                                      clear hy389
                                      by_cases c94 : x6_1.length < 17592186044416
                                      · rw [if_pos c94] at H
                                        have LMc94 := Aside0.mk c94
                                        clear c94
                                        obtain ⟨y392, hy392⟩ : ∃ y_ : List Int, y_ = (x6_1 ++ [wrap64 (((rd_T55 l0 x7_1).f1))]) := ⟨_, rfl⟩
                                        replace H : (reliquarylaw22_EntriesKeep.j4 kj24 l0 x12_24 y389 y392 x7_1) = some r := by first | (rw [hy392]; with_reducible exact H) | (have H2_ := (Option.bind_some _ _).symm.trans H; rw [hy392]; with_reducible exact H2_) | (have H2_ := (Option.bind_some _ _).symm.trans H; with_reducible exact H2_) | with_reducible exact H | (rw [hy392]; exact H) | exact H
                                        have Ny392 := Aside0.mk hy392
                                        clear hy392
                                        have H' := Aside0.mk H
                                        clear H
                                        have hcz95_0 : wc.cell? ⟨gb350, 0, none⟩ = some (.string ((rd_T55 l0 x7_1).f0)) := (blk_cell BK350.out 0).trans rfl
                                        have hcz95_1 : wc.cell? ⟨gb350, 1, none⟩ = some (.int .u16 ((rd_T55 l0 x7_1).f1)) := (blk_cell BK350.out 1).trans rfl
                                        have hcz95_2 : wc.cell? ⟨gb350, 2, none⟩ = some (.bool ((rd_T55 l0 x7_1).f2)) := (blk_cell BK350.out 2).trans rfl
                                        have hfz95_0 := blk_frozen BK350.out 0
                                        have hfz95_1 := blk_frozen BK350.out 1
                                        have hfz95_2 := blk_frozen BK350.out 2
                                        go_wp2_with (first | ((with_reducible refine gate_builtin (b := .append) (xs := #[.tmp 126, .tmp 129]) rfl ?_); (try (refine gate_guard (by rfl) ?_; dsimp only)); at_builtin; refine Kd.R_append Kd.string (w0 := w) w.heap.size rfl (.tmp 126) (.tmp 129) 52 9 (.string ⟨#[]⟩) 16 rfl Try.underlying52 info9 rfl (by decide) (by omega) (.slice Ao26 x5_1.length co26) x5_1 ((rd_T55 l0 x7_1).f0) [.string ((rd_T55 l0 x7_1).f0)] (fun _ => True) (fun _ => False) rfl rfl ?aP (fun _ hk => hk.elim) ?aF ?aO ?aB ?aS ?aL ?_; (case aP => exact rfl); (case aB => exact (by repeat (first | (with_reducible first | exact HB.out | apply below_alloc | apply pw_below_drewN | apply below_drew1 | refine below_set ?_ GE350.out) | exact HB.out))); (case aF => exact (fun _ _ => trivial)); (case aO => exact (by (with_reducible repeat (first | apply Kd.R_alloc | apply Kd.R_drewN | apply Kd.R_drew)); exact HO_5.out)); (case aS => exact (below_size (by repeat (first | (with_reducible first | exact HB.out | apply below_alloc | apply pw_below_drewN | apply below_drew1 | refine below_set ?_ GE350.out) | exact HB.out)))); (case aL => have := LMc93.out; omega); intro v390 w96 ho hb hg hat; rw [← Ny389.out] at ho; have n0_ := Aside0.mk (Kd.R_over' (by (with_reducible repeat (first | apply Kd.R_alloc | apply Kd.R_drewN | apply Kd.R_drew)); exact HO_4.out) (Kd.R_typed (by (with_reducible repeat (first | apply Kd.R_alloc | apply Kd.R_drewN | apply Kd.R_drew)); exact HO_5.out)) (by decide) hg); have n1_ := Aside0.mk (Kd.R_over' (by (with_reducible repeat (first | apply Kd.R_alloc | apply Kd.R_drewN | apply Kd.R_drew)); exact HO_6.out) (Kd.R_typed (by (with_reducible repeat (first | apply Kd.R_alloc | apply Kd.R_drewN | apply Kd.R_drew)); exact HO_5.out)) (by decide) hg); have n2_ := Aside0.mk (Kd.R_over' (by (with_reducible repeat (first | apply Kd.R_alloc | apply Kd.R_drewN | apply Kd.R_drew)); exact HO_12.out) (Kd.R_typed (by (with_reducible repeat (first | apply Kd.R_alloc | apply Kd.R_drewN | apply Kd.R_drew)); exact HO_5.out)) (by decide) hg); have n3_ := Aside0.mk (blk_grown (g := gb350) (o := .cells #[.string ((rd_T55 l0 x7_1).f0), .int .u16 ((rd_T55 l0 x7_1).f1), .bool ((rd_T55 l0 x7_1).f2)] 55 (0, 0)) (by (with_reducible repeat (first | refine blk_drewN ?_ _ | refine blk_drew ?_ | refine blk_alloc ?_ _)); exact BK350.out) hg (Kd.R_ne HO_5.out BK350.out (by decide))); have n4_ := Aside0.mk (hb); have n5_ := Aside0.mk (ho); clear HO_4; clear HO_6; clear HO_12; clear BK350; clear HB; clear HO_5; have HO_4 := n0_; have HO_6 := n1_; have HO_12 := n2_; have BK350 := n3_; have HB := n4_; have HO391 := n5_; clear n0_ n1_ n2_ n3_ n4_ n5_; clear ho hb hg hat; have hcz97_0 : w96.cell? ⟨gb350, 0, none⟩ = some (.string ((rd_T55 l0 x7_1).f0)) := (blk_cell BK350.out 0).trans rfl; have hcz97_1 : w96.cell? ⟨gb350, 1, none⟩ = some (.int .u16 ((rd_T55 l0 x7_1).f1)) := (blk_cell BK350.out 1).trans rfl; have hcz97_2 : w96.cell? ⟨gb350, 2, none⟩ = some (.bool ((rd_T55 l0 x7_1).f2)) := (blk_cell BK350.out 2).trans rfl; have hfz97_0 := blk_frozen BK350.out 0; have hfz97_1 := blk_frozen BK350.out 1; have hfz97_2 := blk_frozen BK350.out 2) | ((with_reducible refine gate_builtin (b := .append) (xs := #[.tmp 131, .tmp 135]) rfl ?_); (try (refine gate_guard (by rfl) ?_; dsimp only)); at_builtin; refine Kd.R_append (Kd.int .i64) (w0 := w) w.heap.size rfl (.tmp 131) (.tmp 135) 53 3 (.int .i64 0) 8 rfl Try.underlying53 info3 rfl (by decide) (by omega) u6 x6_1 (wrap64 (((rd_T55 l0 x7_1).f1))) [.int .i64 (wrap64 (((rd_T55 l0 x7_1).f1)))] (fun _ => True) (fun _ => False) rfl rfl ?aP (fun _ hk => hk.elim) ?aF ?aO ?aB ?aS ?aL ?_; (case aP => exact rfl); (case aB => exact (by repeat (first | (with_reducible first | exact HB.out | apply below_alloc | apply pw_below_drewN | apply below_drew1 | refine below_set ?_ GE350.out) | exact HB.out))); (case aF => exact (fun _ _ => trivial)); (case aO => exact (by (with_reducible repeat (first | apply Kd.R_alloc | apply Kd.R_drewN | apply Kd.R_drew)); exact HO_6.out)); (case aS => exact (below_size (by repeat (first | (with_reducible first | exact HB.out | apply below_alloc | apply pw_below_drewN | apply below_drew1 | refine below_set ?_ GE350.out) | exact HB.out)))); (case aL => have := LMc94.out; omega); intro v393 w98 ho hb hg hat; rw [← Ny392.out] at ho; have n0_ := Aside0.mk (Kd.R_over' (by (with_reducible repeat (first | apply Kd.R_alloc | apply Kd.R_drewN | apply Kd.R_drew)); exact HO_4.out) (Kd.R_typed (by (with_reducible repeat (first | apply Kd.R_alloc | apply Kd.R_drewN | apply Kd.R_drew)); exact HO_6.out)) (by decide) hg); have n1_ := Aside0.mk (Kd.R_over' (by (with_reducible repeat (first | apply Kd.R_alloc | apply Kd.R_drewN | apply Kd.R_drew)); exact HO_12.out) (Kd.R_typed (by (with_reducible repeat (first | apply Kd.R_alloc | apply Kd.R_drewN | apply Kd.R_drew)); exact HO_6.out)) (by decide) hg); have n2_ := Aside0.mk (blk_grown (g := gb350) (o := .cells #[.string ((rd_T55 l0 x7_1).f0), .int .u16 ((rd_T55 l0 x7_1).f1), .bool ((rd_T55 l0 x7_1).f2)] 55 (0, 0)) (by (with_reducible repeat (first | refine blk_drewN ?_ _ | refine blk_drew ?_ | refine blk_alloc ?_ _)); exact BK350.out) hg (Kd.R_ne HO_6.out BK350.out (by decide))); have n3_ := Aside0.mk (Kd.R_over' (by (with_reducible repeat (first | apply Kd.R_alloc | apply Kd.R_drewN | apply Kd.R_drew)); exact HO391.out) (Kd.R_typed (by (with_reducible repeat (first | apply Kd.R_alloc | apply Kd.R_drewN | apply Kd.R_drew)); exact HO_6.out)) (by decide) hg); have n4_ := Aside0.mk (hb); have n5_ := Aside0.mk (ho); clear HO_4; clear HO_12; clear BK350; clear HO391; clear HB; clear HO_6; have HO_4 := n0_; have HO_12 := n1_; have BK350 := n2_; have HO391 := n3_; have HB := n4_; have HO394 := n5_; clear n0_ n1_ n2_ n3_ n4_ n5_; clear ho hb hg hat))
                                        go_meet
                                        case rel => exact ⟨_, (y389), (y392), H', ⟨by have := HK1.out; have := HJ6.out; have := HK3.out; have := HJ24.out; first | omega | exact Nat.le_refl _⟩, ⟨by (with_reducible repeat (first | apply Kd.R_alloc | apply Kd.R_drewN | apply Kd.R_drew)); exact Kd.R_mono HO_12.out (fun _ hk => trivial)⟩, ⟨by (with_reducible repeat (first | apply Kd.R_alloc | apply Kd.R_drewN | apply Kd.R_drew)); exact HO391.out⟩, ⟨by (with_reducible repeat (first | apply Kd.R_alloc | apply Kd.R_drewN | apply Kd.R_drew)); exact HO394.out⟩, ⟨by (with_reducible repeat (first | refine blk_drewN ?_ _ | refine blk_drew ?_ | refine blk_alloc ?_ _)); exact BK350.out⟩, ⟨by repeat (first | (with_reducible first | exact HB.out | apply below_alloc | apply pw_below_drewN | apply below_drew1 | refine below_set ?_ GE350.out) | exact HB.out)⟩⟩
                                      · rw [if_neg c94] at H
                                        exact absurd H (by simp)
                                    · rw [if_neg c93] at H
                                      exact absurd H (by simp)
                                case rest => as_aux_lemma =>
                                  clear HC68
                                  try clear c1
                                  try clear p2
                                  try clear c3
                                  try clear p3
                                  try clear q3
                                  try clear hx3
                                  try clear c4
                                  try clear c5
                                  try clear c6
                                  try clear p6
                                  try clear c7
                                  try clear c8
                                  try clear c8b0
                                  try clear q8
                                  try clear c9
                                  try clear q9
                                  try clear c10
                                  try clear c10b0
                                  try clear c11
                                  try clear c11b0
                                  try clear c12
                                  try clear c12b0
                                  try clear c12b1
                                  try clear c17
                                  try clear c17b0
                                  try clear c18
                                  try clear c18b0
                                  try clear c19
                                  try clear c19b0
                                  try clear c19b1
                                  try clear c30
                                  try clear c30b0
                                  try clear c32
                                  try clear c32b0
                                  try clear c32b1
                                  try clear c32b2
                                  try clear p34
                                  try clear q34
                                  try clear hx34
                                  try clear p35
                                  try clear q35
                                  try clear hx35
                                  try clear c40
                                  try clear c40b0
                                  try clear c40b1
                                  try clear c41
                                  try clear c41b0
                                  try clear c42
                                  try clear c42b0
                                  try clear c42b1
                                  try clear c42b2
                                  try clear c51
                                  try clear c51b0
                                  try clear c51b1
                                  try clear c51b2
                                  try clear c60
                                  try clear c60b0
                                  try clear c60b1
                                  try clear c60b2
                                  try clear p64
                                  try clear c67
                                  try clear c67b0
                                  try clear c67b1
                                  try clear c70
                                  try clear c70b0
                                  try clear c71
                                  try clear c71b0
                                  try clear c71b1
                                  try clear c72
                                  try clear c72b0
                                  try clear c72b1
                                  try clear c73
                                  try clear c74
                                  try clear c74b0
                                  try clear c75
                                  try clear c75b0
                                  try clear c75b1
                                  try clear c76
                                  try clear c78
                                  try clear c78b0
                                  try clear c78b1
                                  try clear c79
                                  try clear c79b0
                                  try clear c79b1
                                  try clear c80
                                  try clear c81
                                  try clear c81b0
                                  try clear c82
                                  try clear c82b0
                                  try clear c82b1
                                  try clear c83
                                  try clear q84
                                  try clear q86
                                  try clear c89
                                  try clear q89
                                  try clear c91
                                  try clear q91
                                  try clear c93
                                  try clear c94
                                  try clear hcz14_0
                                  try clear hcz14_1
                                  try clear hcz14_2
                                  try clear hcz16_0
                                  try clear hcz16_1
                                  try clear hcz16_2
                                  try clear hcz21_0
                                  try clear hcz21_1
                                  try clear hcz21_2
                                  try clear hcz23_0
                                  try clear hcz23_1
                                  try clear hcz23_2
                                  try clear hcz27_0
                                  try clear hcz27_1
                                  try clear hcz27_2
                                  try clear hcz29_0
                                  try clear hcz29_1
                                  try clear hcz29_2
                                  try clear hcz33_0
                                  try clear hcz33_1
                                  try clear hcz33_2
                                  try clear hcz36_0
                                  try clear hcz36_1
                                  try clear hcz36_2
                                  try clear hcz43_0
                                  try clear hcz43_1
                                  try clear hcz43_2
                                  try clear hcz46_0
                                  try clear hcz46_1
                                  try clear hcz46_2
                                  try clear hcz47_0
                                  try clear hcz47_1
                                  try clear hcz47_2
                                  try clear hcz50_0
                                  try clear hcz50_1
                                  try clear hcz50_2
                                  try clear hcz52_0
                                  try clear hcz52_1
                                  try clear hcz52_2
                                  try clear hcz55_0
                                  try clear hcz55_1
                                  try clear hcz55_2
                                  try clear hcz56_0
                                  try clear hcz56_1
                                  try clear hcz56_2
                                  try clear hcz59_0
                                  try clear hcz59_1
                                  try clear hcz59_2
                                  try clear hcz61_0
                                  try clear hcz61_1
                                  try clear hcz61_2
                                  try clear hcz64_0
                                  try clear hcz64_1
                                  try clear hcz64_2
                                  try clear hcz69_0
                                  try clear hcz69_1
                                  try clear hcz69_2
                                  try clear hcz95_0
                                  try clear hcz95_1
                                  try clear hcz95_2
                                  try clear hcz97_0
                                  try clear hcz97_1
                                  try clear hcz97_2
                                  try clear hfz14_0
                                  try clear hfz14_1
                                  try clear hfz14_2
                                  try clear hfz16_0
                                  try clear hfz16_1
                                  try clear hfz16_2
                                  try clear hfz21_0
                                  try clear hfz21_1
                                  try clear hfz21_2
                                  try clear hfz23_0
                                  try clear hfz23_1
                                  try clear hfz23_2
                                  try clear hfz27_0
                                  try clear hfz27_1
                                  try clear hfz27_2
                                  try clear hfz29_0
                                  try clear hfz29_1
                                  try clear hfz29_2
                                  try clear hfz33_0
                                  try clear hfz33_1
                                  try clear hfz33_2
                                  try clear hfz36_0
                                  try clear hfz36_1
                                  try clear hfz36_2
                                  try clear hfz43_0
                                  try clear hfz43_1
                                  try clear hfz43_2
                                  try clear hfz46_0
                                  try clear hfz46_1
                                  try clear hfz46_2
                                  try clear hfz47_0
                                  try clear hfz47_1
                                  try clear hfz47_2
                                  try clear hfz50_0
                                  try clear hfz50_1
                                  try clear hfz50_2
                                  try clear hfz52_0
                                  try clear hfz52_1
                                  try clear hfz52_2
                                  try clear hfz55_0
                                  try clear hfz55_1
                                  try clear hfz55_2
                                  try clear hfz56_0
                                  try clear hfz56_1
                                  try clear hfz56_2
                                  try clear hfz59_0
                                  try clear hfz59_1
                                  try clear hfz59_2
                                  try clear hfz61_0
                                  try clear hfz61_1
                                  try clear hfz61_2
                                  try clear hfz64_0
                                  try clear hfz64_1
                                  try clear hfz64_2
                                  try clear hfz69_0
                                  try clear hfz69_1
                                  try clear hfz69_2
                                  try clear hfz95_0
                                  try clear hfz95_1
                                  try clear hfz95_2
                                  try clear hfz97_0
                                  try clear hfz97_1
                                  try clear hfz97_2
                                  try clear hx349_0
                                  try clear hx349_1
                                  try clear hx349_2
                                  try clear hx351_0
                                  try clear p2
                                  try clear p3
                                  try clear p34
                                  try clear p349
                                  try clear p35
                                  try clear p351
                                  try clear p6
                                  try clear p64
                                  try clear q089
                                  try clear q091
                                  try clear q3
                                  try clear q34
                                  try clear q349
                                  try clear q35
                                  try clear q351
                                  try clear q84
                                  try clear q86
                                  try clear q89
                                  try clear q91
                                  obtain ⟨kq, x5_67, x6_67, HA, HJ67, HO_4, HO_5, HO_6, BK350, HB⟩ := hcut
                                  cases kq with
                                  | zero => exact absurd HA.out (by simp [reliquarylaw22_EntriesKeep.j4])
                                  | succ kj67 =>
                                    have H := HA.out
                                    clear HA
                                    simp only [reliquarylaw22_EntriesKeep.j4] at H
                                    have H' := Aside0.mk H
                                    clear H
                                    go_wp2
                                    go_loopg [16] kj67 (fun kq v16 w' => ∃ (x16_6 : Int), v16 = .int .i64 x16_6 ∧ Aside0 (reliquarylaw22_EntriesKeep.l2 kq l0 x12_24 x5_67 x6_67 x7_1 x16_6 = some r) ∧ Aside0 (kq ≤ kj67) ∧ Aside0 (Kd.R (Kd.int .u8) 5 w' w.heap.size (fun _ => True) u12 x12_24) ∧ Aside0 (Kd.R Kd.string 9 w' w.heap.size (fun _ => True) u5 x5_67) ∧ Aside0 (Kd.R (Kd.int .i64) 3 w' w.heap.size (fun _ => True) u6 x6_67) ∧ Aside0 (w'.heap[gb350]? = some (.cells #[.string ((rd_T55 l0 x7_1).f0), .int .u16 ((rd_T55 l0 x7_1).f1), .bool ((rd_T55 l0 x7_1).f2)] 55 (0, 0))) ∧ Aside0 (Below w.heap.size w w'))
                                    case atStart => exact ⟨(0), (by first | rfl | (simp; done) | (simp [*]; done)), H', ⟨Nat.le_refl _⟩, ⟨by (with_reducible repeat (first | apply Kd.R_alloc | apply Kd.R_drewN | apply Kd.R_drew)); exact HO_4.out⟩, ⟨by (with_reducible repeat (first | apply Kd.R_alloc | apply Kd.R_drewN | apply Kd.R_drew)); exact HO_5.out⟩, ⟨by (with_reducible repeat (first | apply Kd.R_alloc | apply Kd.R_drewN | apply Kd.R_drew)); exact HO_6.out⟩, ⟨by (with_reducible repeat (first | refine blk_drewN ?_ _ | refine blk_drew ?_ | refine blk_alloc ?_ _)); exact BK350.out⟩, ⟨by repeat (first | (with_reducible first | exact HB.out | apply below_alloc | apply pw_below_drewN | apply below_drew1 | refine below_set ?_ GE350.out) | exact HB.out)⟩⟩
                                    case round => as_aux_lemma =>
                                      clear H'
                                      try clear c1
                                      try clear p2
                                      try clear c3
                                      try clear p3
                                      try clear q3
                                      try clear hx3
                                      try clear c4
                                      try clear c5
                                      try clear c6
                                      try clear p6
                                      try clear c7
                                      try clear c8
                                      try clear c8b0
                                      try clear q8
                                      try clear c9
                                      try clear q9
                                      try clear c10
                                      try clear c10b0
                                      try clear c11
                                      try clear c11b0
                                      try clear c12
                                      try clear c12b0
                                      try clear c12b1
                                      try clear c17
                                      try clear c17b0
                                      try clear c18
                                      try clear c18b0
                                      try clear c19
                                      try clear c19b0
                                      try clear c19b1
                                      try clear c30
                                      try clear c30b0
                                      try clear c32
                                      try clear c32b0
                                      try clear c32b1
                                      try clear c32b2
                                      try clear p34
                                      try clear q34
                                      try clear hx34
                                      try clear p35
                                      try clear q35
                                      try clear hx35
                                      try clear c40
                                      try clear c40b0
                                      try clear c40b1
                                      try clear c41
                                      try clear c41b0
                                      try clear c42
                                      try clear c42b0
                                      try clear c42b1
                                      try clear c42b2
                                      try clear c51
                                      try clear c51b0
                                      try clear c51b1
                                      try clear c51b2
                                      try clear c60
                                      try clear c60b0
                                      try clear c60b1
                                      try clear c60b2
                                      try clear p64
                                      try clear c67
                                      try clear c67b0
                                      try clear c67b1
                                      try clear c70
                                      try clear c70b0
                                      try clear c71
                                      try clear c71b0
                                      try clear c71b1
                                      try clear c72
                                      try clear c72b0
                                      try clear c72b1
                                      try clear c73
                                      try clear c74
                                      try clear c74b0
                                      try clear c75
                                      try clear c75b0
                                      try clear c75b1
                                      try clear c76
                                      try clear c78
                                      try clear c78b0
                                      try clear c78b1
                                      try clear c79
                                      try clear c79b0
                                      try clear c79b1
                                      try clear c80
                                      try clear c81
                                      try clear c81b0
                                      try clear c82
                                      try clear c82b0
                                      try clear c82b1
                                      try clear c83
                                      try clear q84
                                      try clear q86
                                      try clear c89
                                      try clear q89
                                      try clear c91
                                      try clear q91
                                      try clear c93
                                      try clear c94
                                      try clear hcz14_0
                                      try clear hcz14_1
                                      try clear hcz14_2
                                      try clear hcz16_0
                                      try clear hcz16_1
                                      try clear hcz16_2
                                      try clear hcz21_0
                                      try clear hcz21_1
                                      try clear hcz21_2
                                      try clear hcz23_0
                                      try clear hcz23_1
                                      try clear hcz23_2
                                      try clear hcz27_0
                                      try clear hcz27_1
                                      try clear hcz27_2
                                      try clear hcz29_0
                                      try clear hcz29_1
                                      try clear hcz29_2
                                      try clear hcz33_0
                                      try clear hcz33_1
                                      try clear hcz33_2
                                      try clear hcz36_0
                                      try clear hcz36_1
                                      try clear hcz36_2
                                      try clear hcz43_0
                                      try clear hcz43_1
                                      try clear hcz43_2
                                      try clear hcz46_0
                                      try clear hcz46_1
                                      try clear hcz46_2
                                      try clear hcz47_0
                                      try clear hcz47_1
                                      try clear hcz47_2
                                      try clear hcz50_0
                                      try clear hcz50_1
                                      try clear hcz50_2
                                      try clear hcz52_0
                                      try clear hcz52_1
                                      try clear hcz52_2
                                      try clear hcz55_0
                                      try clear hcz55_1
                                      try clear hcz55_2
                                      try clear hcz56_0
                                      try clear hcz56_1
                                      try clear hcz56_2
                                      try clear hcz59_0
                                      try clear hcz59_1
                                      try clear hcz59_2
                                      try clear hcz61_0
                                      try clear hcz61_1
                                      try clear hcz61_2
                                      try clear hcz64_0
                                      try clear hcz64_1
                                      try clear hcz64_2
                                      try clear hcz69_0
                                      try clear hcz69_1
                                      try clear hcz69_2
                                      try clear hcz95_0
                                      try clear hcz95_1
                                      try clear hcz95_2
                                      try clear hcz97_0
                                      try clear hcz97_1
                                      try clear hcz97_2
                                      try clear hfz14_0
                                      try clear hfz14_1
                                      try clear hfz14_2
                                      try clear hfz16_0
                                      try clear hfz16_1
                                      try clear hfz16_2
                                      try clear hfz21_0
                                      try clear hfz21_1
                                      try clear hfz21_2
                                      try clear hfz23_0
                                      try clear hfz23_1
                                      try clear hfz23_2
                                      try clear hfz27_0
                                      try clear hfz27_1
                                      try clear hfz27_2
                                      try clear hfz29_0
                                      try clear hfz29_1
                                      try clear hfz29_2
                                      try clear hfz33_0
                                      try clear hfz33_1
                                      try clear hfz33_2
                                      try clear hfz36_0
                                      try clear hfz36_1
                                      try clear hfz36_2
                                      try clear hfz43_0
                                      try clear hfz43_1
                                      try clear hfz43_2
                                      try clear hfz46_0
                                      try clear hfz46_1
                                      try clear hfz46_2
                                      try clear hfz47_0
                                      try clear hfz47_1
                                      try clear hfz47_2
                                      try clear hfz50_0
                                      try clear hfz50_1
                                      try clear hfz50_2
                                      try clear hfz52_0
                                      try clear hfz52_1
                                      try clear hfz52_2
                                      try clear hfz55_0
                                      try clear hfz55_1
                                      try clear hfz55_2
                                      try clear hfz56_0
                                      try clear hfz56_1
                                      try clear hfz56_2
                                      try clear hfz59_0
                                      try clear hfz59_1
                                      try clear hfz59_2
                                      try clear hfz61_0
                                      try clear hfz61_1
                                      try clear hfz61_2
                                      try clear hfz64_0
                                      try clear hfz64_1
                                      try clear hfz64_2
                                      try clear hfz69_0
                                      try clear hfz69_1
                                      try clear hfz69_2
                                      try clear hfz95_0
                                      try clear hfz95_1
                                      try clear hfz95_2
                                      try clear hfz97_0
                                      try clear hfz97_1
                                      try clear hfz97_2
                                      try clear hx349_0
                                      try clear hx349_1
                                      try clear hx349_2
                                      try clear hx351_0
                                      try clear p2
                                      try clear p3
                                      try clear p34
                                      try clear p349
                                      try clear p35
                                      try clear p351
                                      try clear p6
                                      try clear p64
                                      try clear q089
                                      try clear q091
                                      try clear q3
                                      try clear q34
                                      try clear q349
                                      try clear q35
                                      try clear q351
                                      try clear q8
                                      try clear q84
                                      try clear q86
                                      try clear q89
                                      try clear q9
                                      try clear q91
                                      obtain ⟨x16_6, rfl, HA, HK6, HO_4, HO_5, HO_6, BK350, HB⟩ := hrel
                                      cases gk with
                                      | zero => exact absurd HA.out (by simp [reliquarylaw22_EntriesKeep.l2])
                                      | succ k6 =>
                                        have H := HA.out
                                        clear HA
                                        simp only [reliquarylaw22_EntriesKeep.l2] at H
                                        by_cases c99 : x16_6 < (x5_67.length : Int)
                                        · rw [if_pos c99] at H
                                          have c99b0 : decide (x16_6 < (x5_67.length : Int)) = true := decide_eq_true c99
                                          clear c99
                                          by_cases c100 : 0 ≤ x16_6
                                          · rw [if_pos c100] at H
                                            have c100b0 : decide (0 ≤ x16_6) = true := decide_eq_true c100
                                            clear c100
                                            replace H := Option.bind_eq_some_iff.mp H
                                            obtain ⟨⟨t396, t397⟩, A1010, H⟩ := H
                                            replace H : (if t397 = 0 then (if x16_6 < (x6_67.length : Int) then (if t396 = (rd x6_67 x16_6) then (reliquarylaw22_EntriesKeep.l2 k6 l0 x12_24 x5_67 x6_67 x7_1 (wrap64 (x16_6 + 1))) else (some false)) else (none)) else (some false)) = some r := H
                                            have A101 := Aside0.mk A1010
                                            clear A1010
                                            by_cases c102 : t397 = 0
                                            · rw [if_pos c102] at H
                                              have c102b0 : (t397 == 0) = true := beq_iff_eq.mpr c102
                                              have c102b1 : (t397 != 0) = false := bne_eq_false_iff_eq.mpr c102
                                              clear c102
                                              by_cases c103 : x16_6 < (x6_67.length : Int)
                                              · rw [if_pos c103] at H
                                                have c103b0 : decide (x16_6 < (x6_67.length : Int)) = true := decide_eq_true c103
                                                clear c103
                                                by_cases c104 : t396 = (rd x6_67 x16_6)
                                                · rw [if_pos c104] at H
                                                  have c104b0 : (t396 == (rd x6_67 x16_6)) = true := beq_iff_eq.mpr c104
                                                  have c104b1 : (t396 != (rd x6_67 x16_6)) = false := bne_eq_false_iff_eq.mpr c104
                                                  clear c104
                                                  have H' := Aside0.mk H
                                                  clear H
                                                  obtain ⟨Ao105, co105, eo105⟩ := Kd.R_slice HO_5.out
                                                  subst eo105
                                                  have p395 : 0 ≤ (x16_6 : Int) := of_decide_eq_true (by first | (with_reducible assumption) | assumption)
                                                  have q395 : x16_6 < (x5_67.length : Int) := of_decide_eq_true (by first | (with_reducible assumption) | assumption)
                                                  obtain ⟨ad395, e395, hx395_0⟩ := Kd.at_string (Kd.R_reads' HO_5.out).2.2 x16_6 p395 q395
                                                  cases e395
                                                  replace p395 := eq_true p395
                                                  replace q395 := eq_true q395
                                                  obtain ⟨Ao106, co106, eo106⟩ := Kd.R_slice HO_4.out
                                                  subst eo106
                                                  go_wp2_with (first | (go_at_call 12; (with_reducible refine (entries_Find.calls _ _ x12_24 (rdOf ByteArray.empty x5_67 x16_6) t396 t397 _ ?side1 ?side2 A101.out).mono ?_); (case side1 => repeat (first | exact (Kd.R_reads' HO_4.out).2.2 | (with_reducible refine Kd.C_alloc ?_ _) | (with_reducible refine Kd.C_drewN ?_ _) | (with_reducible refine Kd.C_drew ?_))); (case side2 => exact (Kd.R_reads' HO_4.out).2.1); rintro e w107 ⟨rfl, hb⟩; have n0_ := Aside0.mk (Kd.R_below (by (with_reducible repeat (first | apply Kd.R_alloc | apply Kd.R_drewN | apply Kd.R_drew)); exact HO_4.out) hb); have n1_ := Aside0.mk (Kd.R_below (by (with_reducible repeat (first | apply Kd.R_alloc | apply Kd.R_drewN | apply Kd.R_drew)); exact HO_5.out) hb); have n2_ := Aside0.mk (Kd.R_below (by (with_reducible repeat (first | apply Kd.R_alloc | apply Kd.R_drewN | apply Kd.R_drew)); exact HO_6.out) hb); have n3_ := Aside0.mk (blk_below (g := gb350) (o := .cells #[.string ((rd_T55 l0 x7_1).f0), .int .u16 ((rd_T55 l0 x7_1).f1), .bool ((rd_T55 l0 x7_1).f2)] 55 (0, 0)) (by (with_reducible repeat (first | refine blk_drewN ?_ _ | refine blk_drew ?_ | refine blk_alloc ?_ _)); exact BK350.out) hb); have n4_ := Aside0.mk (below_step (by repeat (first | (with_reducible first | exact HB.out | apply below_alloc | apply pw_below_drewN | apply below_drew1 | refine below_set ?_ GE350.out) | exact HB.out)) hb); clear HO_4; clear HO_5; clear HO_6; clear BK350; clear HB; have HO_4 := n0_; have HO_5 := n1_; have HO_6 := n2_; have BK350 := n3_; have HB := n4_; clear n0_ n1_ n2_ n3_ n4_; (try clear hb); (try clear hb2); (try clear hk); (try clear hi); obtain ⟨Ao108, co108, eo108⟩ := Kd.R_slice HO_6.out; subst eo108; have p398 : 0 ≤ (x16_6 : Int) := of_decide_eq_true (by first | (with_reducible assumption) | assumption); have q398 : x16_6 < (x6_67.length : Int) := of_decide_eq_true (by first | (with_reducible assumption) | assumption); obtain ⟨ad398, e398, hx398_0⟩ := Kd.at_int (Kd.R_reads' HO_6.out).2.2 x16_6 p398 q398; cases e398; replace p398 := eq_true p398; replace q398 := eq_true q398))
                                                  go_roundg k6
                                                  case measure => have := HK1.out; have := HJ6.out; have := HK3.out; have := HJ24.out; have := HJ67.out; have := HK6.out; omega
                                                  case rel => exact ⟨(wrap64 (x16_6 + 1)), (by first | rfl | (simp; done) | (simp [*]; done)), H', ⟨by have := HK1.out; have := HJ6.out; have := HK3.out; have := HJ24.out; have := HJ67.out; have := HK6.out; omega⟩, ⟨by (with_reducible repeat (first | apply Kd.R_alloc | apply Kd.R_drewN | apply Kd.R_drew)); exact HO_4.out⟩, ⟨by (with_reducible repeat (first | apply Kd.R_alloc | apply Kd.R_drewN | apply Kd.R_drew)); exact HO_5.out⟩, ⟨by (with_reducible repeat (first | apply Kd.R_alloc | apply Kd.R_drewN | apply Kd.R_drew)); exact HO_6.out⟩, ⟨by (with_reducible repeat (first | refine blk_drewN ?_ _ | refine blk_drew ?_ | refine blk_alloc ?_ _)); exact BK350.out⟩, ⟨by repeat (first | (with_reducible first | exact HB.out | apply below_alloc | apply pw_below_drewN | apply below_drew1 | refine below_set ?_ GE350.out) | exact HB.out)⟩⟩
                                                · rw [if_neg c104] at H
                                                  have c104b0 : (t396 == (rd x6_67 x16_6)) = false := beq_eq_false_iff_ne.mpr c104
                                                  have c104b1 : (t396 != (rd x6_67 x16_6)) = true := bne_iff_ne.mpr c104
                                                  obtain rfl := Option.some.inj H
                                                  obtain ⟨Ao109, co109, eo109⟩ := Kd.R_slice HO_5.out
                                                  subst eo109
                                                  have p395 : 0 ≤ (x16_6 : Int) := of_decide_eq_true (by first | (with_reducible assumption) | assumption)
                                                  have q395 : x16_6 < (x5_67.length : Int) := of_decide_eq_true (by first | (with_reducible assumption) | assumption)
                                                  obtain ⟨ad395, e395, hx395_0⟩ := Kd.at_string (Kd.R_reads' HO_5.out).2.2 x16_6 p395 q395
                                                  cases e395
                                                  replace p395 := eq_true p395
                                                  replace q395 := eq_true q395
                                                  obtain ⟨Ao110, co110, eo110⟩ := Kd.R_slice HO_4.out
                                                  subst eo110
                                                  go_wp2_with (first | (go_at_call 12; (with_reducible refine (entries_Find.calls _ _ x12_24 (rdOf ByteArray.empty x5_67 x16_6) t396 t397 _ ?side1 ?side2 A101.out).mono ?_); (case side1 => repeat (first | exact (Kd.R_reads' HO_4.out).2.2 | (with_reducible refine Kd.C_alloc ?_ _) | (with_reducible refine Kd.C_drewN ?_ _) | (with_reducible refine Kd.C_drew ?_))); (case side2 => exact (Kd.R_reads' HO_4.out).2.1); rintro e w111 ⟨rfl, hb⟩; have n0_ := Aside0.mk (Kd.R_below (by (with_reducible repeat (first | apply Kd.R_alloc | apply Kd.R_drewN | apply Kd.R_drew)); exact HO_4.out) hb); have n1_ := Aside0.mk (Kd.R_below (by (with_reducible repeat (first | apply Kd.R_alloc | apply Kd.R_drewN | apply Kd.R_drew)); exact HO_5.out) hb); have n2_ := Aside0.mk (Kd.R_below (by (with_reducible repeat (first | apply Kd.R_alloc | apply Kd.R_drewN | apply Kd.R_drew)); exact HO_6.out) hb); have n3_ := Aside0.mk (blk_below (g := gb350) (o := .cells #[.string ((rd_T55 l0 x7_1).f0), .int .u16 ((rd_T55 l0 x7_1).f1), .bool ((rd_T55 l0 x7_1).f2)] 55 (0, 0)) (by (with_reducible repeat (first | refine blk_drewN ?_ _ | refine blk_drew ?_ | refine blk_alloc ?_ _)); exact BK350.out) hb); have n4_ := Aside0.mk (below_step (by repeat (first | (with_reducible first | exact HB.out | apply below_alloc | apply pw_below_drewN | apply below_drew1 | refine below_set ?_ GE350.out) | exact HB.out)) hb); clear HO_4; clear HO_5; clear HO_6; clear BK350; clear HB; have HO_4 := n0_; have HO_5 := n1_; have HO_6 := n2_; have BK350 := n3_; have HB := n4_; clear n0_ n1_ n2_ n3_ n4_; (try clear hb); (try clear hb2); (try clear hk); (try clear hi); obtain ⟨Ao112, co112, eo112⟩ := Kd.R_slice HO_6.out; subst eo112; have p398 : 0 ≤ (x16_6 : Int) := of_decide_eq_true (by first | (with_reducible assumption) | assumption); have q398 : x16_6 < (x6_67.length : Int) := of_decide_eq_true (by first | (with_reducible assumption) | assumption); obtain ⟨ad398, e398, hx398_0⟩ := Kd.at_int (Kd.R_reads' HO_6.out).2.2 x16_6 p398 q398; cases e398; replace p398 := eq_true p398; replace q398 := eq_true q398))
                                                  go_ret
                                                  exact ⟨by first | rfl | (simp [errW_none, errW_some] <;> rfl) | (simp [*, errW_none, errW_some] <;> rfl), by repeat (first | (with_reducible first | exact HB.out | apply below_alloc | apply pw_below_drewN | apply below_drew1 | refine below_set ?_ GE350.out) | exact HB.out)⟩
                                              · rw [if_neg c103] at H
                                                exact absurd H (by simp)
                                            · rw [if_neg c102] at H
                                              have c102b0 : (t397 == 0) = false := beq_eq_false_iff_ne.mpr c102
                                              have c102b1 : (t397 != 0) = true := bne_iff_ne.mpr c102
                                              obtain rfl := Option.some.inj H
                                              obtain ⟨Ao113, co113, eo113⟩ := Kd.R_slice HO_5.out
                                              subst eo113
                                              have p395 : 0 ≤ (x16_6 : Int) := of_decide_eq_true (by first | (with_reducible assumption) | assumption)
                                              have q395 : x16_6 < (x5_67.length : Int) := of_decide_eq_true (by first | (with_reducible assumption) | assumption)
                                              obtain ⟨ad395, e395, hx395_0⟩ := Kd.at_string (Kd.R_reads' HO_5.out).2.2 x16_6 p395 q395
                                              cases e395
                                              replace p395 := eq_true p395
                                              replace q395 := eq_true q395
                                              obtain ⟨Ao114, co114, eo114⟩ := Kd.R_slice HO_4.out
                                              subst eo114
                                              go_wp2_with (first | (go_at_call 12; (with_reducible refine (entries_Find.calls _ _ x12_24 (rdOf ByteArray.empty x5_67 x16_6) t396 t397 _ ?side1 ?side2 A101.out).mono ?_); (case side1 => repeat (first | exact (Kd.R_reads' HO_4.out).2.2 | (with_reducible refine Kd.C_alloc ?_ _) | (with_reducible refine Kd.C_drewN ?_ _) | (with_reducible refine Kd.C_drew ?_))); (case side2 => exact (Kd.R_reads' HO_4.out).2.1); rintro e w115 ⟨rfl, hb⟩; have n0_ := Aside0.mk (Kd.R_below (by (with_reducible repeat (first | apply Kd.R_alloc | apply Kd.R_drewN | apply Kd.R_drew)); exact HO_4.out) hb); have n1_ := Aside0.mk (Kd.R_below (by (with_reducible repeat (first | apply Kd.R_alloc | apply Kd.R_drewN | apply Kd.R_drew)); exact HO_5.out) hb); have n2_ := Aside0.mk (Kd.R_below (by (with_reducible repeat (first | apply Kd.R_alloc | apply Kd.R_drewN | apply Kd.R_drew)); exact HO_6.out) hb); have n3_ := Aside0.mk (blk_below (g := gb350) (o := .cells #[.string ((rd_T55 l0 x7_1).f0), .int .u16 ((rd_T55 l0 x7_1).f1), .bool ((rd_T55 l0 x7_1).f2)] 55 (0, 0)) (by (with_reducible repeat (first | refine blk_drewN ?_ _ | refine blk_drew ?_ | refine blk_alloc ?_ _)); exact BK350.out) hb); have n4_ := Aside0.mk (below_step (by repeat (first | (with_reducible first | exact HB.out | apply below_alloc | apply pw_below_drewN | apply below_drew1 | refine below_set ?_ GE350.out) | exact HB.out)) hb); clear HO_4; clear HO_5; clear HO_6; clear BK350; clear HB; have HO_4 := n0_; have HO_5 := n1_; have HO_6 := n2_; have BK350 := n3_; have HB := n4_; clear n0_ n1_ n2_ n3_ n4_; (try clear hb); (try clear hb2); (try clear hk); (try clear hi)))
                                              go_ret
                                              exact ⟨by first | rfl | (simp [errW_none, errW_some] <;> rfl) | (simp [*, errW_none, errW_some] <;> rfl), by repeat (first | (with_reducible first | exact HB.out | apply below_alloc | apply pw_below_drewN | apply below_drew1 | refine below_set ?_ GE350.out) | exact HB.out)⟩
                                          · rw [if_neg c100] at H
                                            exact absurd H (by simp)
                                        · rw [if_neg c99] at H
                                          have c99b0 : decide (x16_6 < (x5_67.length : Int)) = false := decide_eq_false c99
                                          clear c99
                                          replace H := Option.bind_eq_some_iff.mp H
                                          obtain ⟨⟨t399, t400⟩, A1160, H⟩ := H
                                          replace H : (if t400 = 0 then (if (t399.length : Int) = (x5_67.length : Int) then (if ((x12_24.length : Int) % 32) = 0 then (if 0 ≤ (wrap64 ((x12_24.length : Int) - 32)) then (if (wrap64 ((x12_24.length : Int) - 32)) < (x12_24.length : Int) then (if (rd x12_24 (wrap64 ((x12_24.length : Int) - 32))) = 0 then (if 0 ≤ (wrap64 ((x12_24.length : Int) - 31)) then (if (wrap64 ((x12_24.length : Int) - 31)) < (x12_24.length : Int) then (if (rd x12_24 (wrap64 ((x12_24.length : Int) - 31))) = 0 then (some false) else (reliquarylaw22_EntriesKeep.l0 k6 l0 x12_24 x5_67 x6_67 (wrap64 (x7_1 + 1)))) else (none)) else (none)) else (reliquarylaw22_EntriesKeep.l0 k6 l0 x12_24 x5_67 x6_67 (wrap64 (x7_1 + 1)))) else (none)) else (none)) else (some false)) else (some false)) else (some false)) = some r := H
                                          have A116 := Aside0.mk A1160
                                          clear A1160
                                          by_cases c117 : t400 = 0
                                          · rw [if_pos c117] at H
                                            have c117b0 : (t400 == 0) = true := beq_iff_eq.mpr c117
                                            have c117b1 : (t400 != 0) = false := bne_eq_false_iff_eq.mpr c117
                                            clear c117
                                            by_cases c118 : (t399.length : Int) = (x5_67.length : Int)
                                            · rw [if_pos c118] at H
                                              have c118b0 : ((t399.length : Int) == (x5_67.length : Int)) = true := beq_iff_eq.mpr c118
                                              have c118b1 : ((t399.length : Int) != (x5_67.length : Int)) = false := bne_eq_false_iff_eq.mpr c118
                                              have c118b2 : (t399.length == x5_67.length) = true := by first | simpa using c118 | (simp at c118 ⊢; omega)
                                              clear c118
                                              by_cases c119 : ((x12_24.length : Int) % 32) = 0
                                              · rw [if_pos c119] at H
                                                have c119b0 : (((x12_24.length : Int) % 32) == 0) = true := beq_iff_eq.mpr c119
                                                have c119b1 : (((x12_24.length : Int) % 32) != 0) = false := bne_eq_false_iff_eq.mpr c119
                                                clear c119
                                                obtain ⟨ji120, hji120⟩ : ∃ j_ : Int, (wrap64 ((x12_24.length : Int) - 32)) = j_ := ⟨_, rfl⟩
                                                replace H : (if 0 ≤ (ji120) then (if (ji120) < (x12_24.length : Int) then (if (rd x12_24 (ji120)) = 0 then (if 0 ≤ (wrap64 ((x12_24.length : Int) - 31)) then (if (wrap64 ((x12_24.length : Int) - 31)) < (x12_24.length : Int) then (if (rd x12_24 (wrap64 ((x12_24.length : Int) - 31))) = 0 then (some false) else (reliquarylaw22_EntriesKeep.l0 k6 l0 x12_24 x5_67 x6_67 (wrap64 (x7_1 + 1)))) else (none)) else (none)) else (reliquarylaw22_EntriesKeep.l0 k6 l0 x12_24 x5_67 x6_67 (wrap64 (x7_1 + 1)))) else (none)) else (none)) = some r := by first | (rw [hji120] at H; exact H) | (simp only [hji120] at H ⊢; exact H)
                                                (try rw [hji120] at A116)
                                                have hji120w : (IntKind.i64.wrap ((x12_24.length : Int) - 32)) = ji120 := (i64_w _).trans hji120
                                                by_cases c121 : 0 ≤ (ji120)
                                                · rw [if_pos c121] at H
                                                  have c121b0 : decide (0 ≤ (ji120)) = true := decide_eq_true c121
                                                  clear c121
                                                  by_cases c122 : (ji120) < (x12_24.length : Int)
                                                  · rw [if_pos c122] at H
                                                    have c122b0 : decide ((ji120) < (x12_24.length : Int)) = true := decide_eq_true c122
                                                    clear c122
                                                    by_cases c123 : (rd x12_24 (ji120)) = 0
                                                    · rw [if_pos c123] at H
                                                      have c123b0 : ((rd x12_24 (ji120)) == 0) = true := beq_iff_eq.mpr c123
                                                      have c123b1 : ((rd x12_24 (ji120)) != 0) = false := bne_eq_false_iff_eq.mpr c123
                                                      clear c123
                                                      obtain ⟨ji124, hji124⟩ : ∃ j_ : Int, (wrap64 ((x12_24.length : Int) - 31)) = j_ := ⟨_, rfl⟩
                                                      replace H : (if 0 ≤ (ji124) then (if (ji124) < (x12_24.length : Int) then (if (rd x12_24 (ji124)) = 0 then (some false) else (reliquarylaw22_EntriesKeep.l0 k6 l0 x12_24 x5_67 x6_67 (wrap64 (x7_1 + 1)))) else (none)) else (none)) = some r := by first | (rw [hji124] at H; exact H) | (simp only [hji124] at H ⊢; exact H)
                                                      (try rw [hji124] at A116)
                                                      have hji124w : (IntKind.i64.wrap ((x12_24.length : Int) - 31)) = ji124 := (i64_w _).trans hji124
                                                      by_cases c125 : 0 ≤ (ji124)
                                                      · rw [if_pos c125] at H
                                                        have c125b0 : decide (0 ≤ (ji124)) = true := decide_eq_true c125
                                                        clear c125
                                                        by_cases c126 : (ji124) < (x12_24.length : Int)
                                                        · rw [if_pos c126] at H
                                                          have c126b0 : decide ((ji124) < (x12_24.length : Int)) = true := decide_eq_true c126
                                                          clear c126
                                                          by_cases c127 : (rd x12_24 (ji124)) = 0
                                                          · rw [if_pos c127] at H
                                                            have c127b0 : ((rd x12_24 (ji124)) == 0) = true := beq_iff_eq.mpr c127
                                                            have c127b1 : ((rd x12_24 (ji124)) != 0) = false := bne_eq_false_iff_eq.mpr c127
                                                            clear c127
                                                            obtain rfl := Option.some.inj H
                                                            obtain ⟨Ao128, co128, eo128⟩ := Kd.R_slice HO_5.out
                                                            subst eo128
                                                            obtain ⟨Ao129, co129, eo129⟩ := Kd.R_slice HO_4.out
                                                            subst eo129
                                                            go_wp2_with (first | (go_at_call 20; (with_reducible refine (entries_List.calls _ _ x12_24 t399 t400 _ ?side1 ?side2 A116.out).mono ?_); (case side1 => repeat (first | exact (Kd.R_reads' HO_4.out).2.2 | (with_reducible refine Kd.C_alloc ?_ _) | (with_reducible refine Kd.C_drewN ?_ _) | (with_reducible refine Kd.C_drew ?_))); (case side2 => exact (Kd.R_reads' HO_4.out).2.1); rintro e w130 ⟨v401, rfl, ho0, hb⟩; have n0_ := Aside0.mk (Kd.R_below (by (with_reducible repeat (first | apply Kd.R_alloc | apply Kd.R_drewN | apply Kd.R_drew)); exact HO_4.out) hb); have n1_ := Aside0.mk (Kd.R_below (by (with_reducible repeat (first | apply Kd.R_alloc | apply Kd.R_drewN | apply Kd.R_drew)); exact HO_5.out) hb); have n2_ := Aside0.mk (Kd.R_below (by (with_reducible repeat (first | apply Kd.R_alloc | apply Kd.R_drewN | apply Kd.R_drew)); exact HO_6.out) hb); have n3_ := Aside0.mk (Kd.R_lower ho0 (below_size (by repeat (first | (with_reducible first | exact HB.out | apply below_alloc | apply pw_below_drewN | apply below_drew1 | refine below_set ?_ GE350.out) | exact HB.out)))); have n4_ := Aside0.mk (blk_below (g := gb350) (o := .cells #[.string ((rd_T55 l0 x7_1).f0), .int .u16 ((rd_T55 l0 x7_1).f1), .bool ((rd_T55 l0 x7_1).f2)] 55 (0, 0)) (by (with_reducible repeat (first | refine blk_drewN ?_ _ | refine blk_drew ?_ | refine blk_alloc ?_ _)); exact BK350.out) hb); have n5_ := Aside0.mk (below_step (by repeat (first | (with_reducible first | exact HB.out | apply below_alloc | apply pw_below_drewN | apply below_drew1 | refine below_set ?_ GE350.out) | exact HB.out)) hb); clear HO_4; clear HO_5; clear HO_6; clear BK350; clear HB; have HO_4 := n0_; have HO_5 := n1_; have HO_6 := n2_; have HO402 := n3_; have BK350 := n4_; have HB := n5_; clear n0_ n1_ n2_ n3_ n4_ n5_; (try clear hb); (try clear hb2); (try clear hk); (try clear hi); (try clear ho0); obtain ⟨Ao131, co131, eo131⟩ := Kd.R_slice HO402.out; subst eo131; have p403 : 0 ≤ ((ji120) : Int) := of_decide_eq_true (by first | (with_reducible assumption) | assumption); have q403 : (ji120) < (x12_24.length : Int) := of_decide_eq_true (by first | (with_reducible assumption) | assumption); obtain ⟨ad403, e403, hx403_0⟩ := Kd.at_int (Kd.R_reads' HO_4.out).2.2 (ji120) p403 q403; cases e403; replace p403 := eq_true p403; replace q403 := eq_true q403; have p404 : 0 ≤ ((ji124) : Int) := of_decide_eq_true (by first | (with_reducible assumption) | assumption); have q404 : (ji124) < (x12_24.length : Int) := of_decide_eq_true (by first | (with_reducible assumption) | assumption); obtain ⟨ad404, e404, hx404_0⟩ := Kd.at_int (Kd.R_reads' HO_4.out).2.2 (ji124) p404 q404; obtain rfl : ad403 = ad404 := (by injection e404); replace p404 := eq_true p404; replace q404 := eq_true q404))
                                                            go_ret
                                                            exact ⟨by first | rfl | (simp [errW_none, errW_some] <;> rfl) | (simp only [← hji120, ← hji124]; first | rfl | (simp [errW_none, errW_some] <;> rfl)) | (simp [*, errW_none, errW_some] <;> rfl), by repeat (first | (with_reducible first | exact HB.out | apply below_alloc | apply pw_below_drewN | apply below_drew1 | refine below_set ?_ GE350.out) | exact HB.out)⟩
                                                          · rw [if_neg c127] at H
                                                            have c127b0 : ((rd x12_24 (ji124)) == 0) = false := beq_eq_false_iff_ne.mpr c127
                                                            have c127b1 : ((rd x12_24 (ji124)) != 0) = true := bne_iff_ne.mpr c127
                                                            have H' := Aside0.mk H
                                                            clear H
                                                            obtain ⟨Ao132, co132, eo132⟩ := Kd.R_slice HO_5.out
                                                            subst eo132
                                                            obtain ⟨Ao133, co133, eo133⟩ := Kd.R_slice HO_4.out
                                                            subst eo133
                                                            go_wp2_with (first | (go_at_call 20; (with_reducible refine (entries_List.calls _ _ x12_24 t399 t400 _ ?side1 ?side2 A116.out).mono ?_); (case side1 => repeat (first | exact (Kd.R_reads' HO_4.out).2.2 | (with_reducible refine Kd.C_alloc ?_ _) | (with_reducible refine Kd.C_drewN ?_ _) | (with_reducible refine Kd.C_drew ?_))); (case side2 => exact (Kd.R_reads' HO_4.out).2.1); rintro e w134 ⟨v401, rfl, ho0, hb⟩; have n0_ := Aside0.mk (Kd.R_below (by (with_reducible repeat (first | apply Kd.R_alloc | apply Kd.R_drewN | apply Kd.R_drew)); exact HO_4.out) hb); have n1_ := Aside0.mk (Kd.R_below (by (with_reducible repeat (first | apply Kd.R_alloc | apply Kd.R_drewN | apply Kd.R_drew)); exact HO_5.out) hb); have n2_ := Aside0.mk (Kd.R_below (by (with_reducible repeat (first | apply Kd.R_alloc | apply Kd.R_drewN | apply Kd.R_drew)); exact HO_6.out) hb); have n3_ := Aside0.mk (Kd.R_lower ho0 (below_size (by repeat (first | (with_reducible first | exact HB.out | apply below_alloc | apply pw_below_drewN | apply below_drew1 | refine below_set ?_ GE350.out) | exact HB.out)))); have n4_ := Aside0.mk (blk_below (g := gb350) (o := .cells #[.string ((rd_T55 l0 x7_1).f0), .int .u16 ((rd_T55 l0 x7_1).f1), .bool ((rd_T55 l0 x7_1).f2)] 55 (0, 0)) (by (with_reducible repeat (first | refine blk_drewN ?_ _ | refine blk_drew ?_ | refine blk_alloc ?_ _)); exact BK350.out) hb); have n5_ := Aside0.mk (below_step (by repeat (first | (with_reducible first | exact HB.out | apply below_alloc | apply pw_below_drewN | apply below_drew1 | refine below_set ?_ GE350.out) | exact HB.out)) hb); clear HO_4; clear HO_5; clear HO_6; clear BK350; clear HB; have HO_4 := n0_; have HO_5 := n1_; have HO_6 := n2_; have HO402 := n3_; have BK350 := n4_; have HB := n5_; clear n0_ n1_ n2_ n3_ n4_ n5_; (try clear hb); (try clear hb2); (try clear hk); (try clear hi); (try clear ho0); obtain ⟨Ao135, co135, eo135⟩ := Kd.R_slice HO402.out; subst eo135; have p403 : 0 ≤ ((ji120) : Int) := of_decide_eq_true (by first | (with_reducible assumption) | assumption); have q403 : (ji120) < (x12_24.length : Int) := of_decide_eq_true (by first | (with_reducible assumption) | assumption); obtain ⟨ad403, e403, hx403_0⟩ := Kd.at_int (Kd.R_reads' HO_4.out).2.2 (ji120) p403 q403; cases e403; replace p403 := eq_true p403; replace q403 := eq_true q403; have p404 : 0 ≤ ((ji124) : Int) := of_decide_eq_true (by first | (with_reducible assumption) | assumption); have q404 : (ji124) < (x12_24.length : Int) := of_decide_eq_true (by first | (with_reducible assumption) | assumption); obtain ⟨ad404, e404, hx404_0⟩ := Kd.at_int (Kd.R_reads' HO_4.out).2.2 (ji124) p404 q404; obtain rfl : ad403 = ad404 := (by injection e404); replace p404 := eq_true p404; replace q404 := eq_true q404))
                                                            go_roundg k6
                                                            case measure => have := HK1.out; have := HJ6.out; have := HK3.out; have := HJ24.out; have := HJ67.out; have := HK6.out; omega
                                                            case rel => exact ⟨(x12_24), (x5_67), (x6_67), (wrap64 (x7_1 + 1)), (by first | rfl | (simp; done) | (simp [*]; done)), H', ⟨by have := HK1.out; have := HJ6.out; have := HK3.out; have := HJ24.out; have := HJ67.out; have := HK6.out; omega⟩, ⟨by (with_reducible repeat (first | apply Kd.R_alloc | apply Kd.R_drewN | apply Kd.R_drew)); exact HO_4.out⟩, ⟨by (with_reducible repeat (first | apply Kd.R_alloc | apply Kd.R_drewN | apply Kd.R_drew)); exact HO_5.out⟩, ⟨by (with_reducible repeat (first | apply Kd.R_alloc | apply Kd.R_drewN | apply Kd.R_drew)); exact HO_6.out⟩, ⟨by repeat (first | (with_reducible first | exact HB.out | apply below_alloc | apply pw_below_drewN | apply below_drew1 | refine below_set ?_ GE350.out) | exact HB.out)⟩⟩
                                                        · rw [if_neg c126] at H
                                                          exact absurd H (by simp)
                                                      · rw [if_neg c125] at H
                                                        exact absurd H (by simp)
                                                    · rw [if_neg c123] at H
                                                      have c123b0 : ((rd x12_24 (ji120)) == 0) = false := beq_eq_false_iff_ne.mpr c123
                                                      have c123b1 : ((rd x12_24 (ji120)) != 0) = true := bne_iff_ne.mpr c123
                                                      have H' := Aside0.mk H
                                                      clear H
                                                      obtain ⟨Ao136, co136, eo136⟩ := Kd.R_slice HO_5.out
                                                      subst eo136
                                                      obtain ⟨Ao137, co137, eo137⟩ := Kd.R_slice HO_4.out
                                                      subst eo137
                                                      go_wp2_with (first | (go_at_call 20; (with_reducible refine (entries_List.calls _ _ x12_24 t399 t400 _ ?side1 ?side2 A116.out).mono ?_); (case side1 => repeat (first | exact (Kd.R_reads' HO_4.out).2.2 | (with_reducible refine Kd.C_alloc ?_ _) | (with_reducible refine Kd.C_drewN ?_ _) | (with_reducible refine Kd.C_drew ?_))); (case side2 => exact (Kd.R_reads' HO_4.out).2.1); rintro e w138 ⟨v401, rfl, ho0, hb⟩; have n0_ := Aside0.mk (Kd.R_below (by (with_reducible repeat (first | apply Kd.R_alloc | apply Kd.R_drewN | apply Kd.R_drew)); exact HO_4.out) hb); have n1_ := Aside0.mk (Kd.R_below (by (with_reducible repeat (first | apply Kd.R_alloc | apply Kd.R_drewN | apply Kd.R_drew)); exact HO_5.out) hb); have n2_ := Aside0.mk (Kd.R_below (by (with_reducible repeat (first | apply Kd.R_alloc | apply Kd.R_drewN | apply Kd.R_drew)); exact HO_6.out) hb); have n3_ := Aside0.mk (Kd.R_lower ho0 (below_size (by repeat (first | (with_reducible first | exact HB.out | apply below_alloc | apply pw_below_drewN | apply below_drew1 | refine below_set ?_ GE350.out) | exact HB.out)))); have n4_ := Aside0.mk (blk_below (g := gb350) (o := .cells #[.string ((rd_T55 l0 x7_1).f0), .int .u16 ((rd_T55 l0 x7_1).f1), .bool ((rd_T55 l0 x7_1).f2)] 55 (0, 0)) (by (with_reducible repeat (first | refine blk_drewN ?_ _ | refine blk_drew ?_ | refine blk_alloc ?_ _)); exact BK350.out) hb); have n5_ := Aside0.mk (below_step (by repeat (first | (with_reducible first | exact HB.out | apply below_alloc | apply pw_below_drewN | apply below_drew1 | refine below_set ?_ GE350.out) | exact HB.out)) hb); clear HO_4; clear HO_5; clear HO_6; clear BK350; clear HB; have HO_4 := n0_; have HO_5 := n1_; have HO_6 := n2_; have HO402 := n3_; have BK350 := n4_; have HB := n5_; clear n0_ n1_ n2_ n3_ n4_ n5_; (try clear hb); (try clear hb2); (try clear hk); (try clear hi); (try clear ho0); obtain ⟨Ao139, co139, eo139⟩ := Kd.R_slice HO402.out; subst eo139; have p403 : 0 ≤ ((ji120) : Int) := of_decide_eq_true (by first | (with_reducible assumption) | assumption); have q403 : (ji120) < (x12_24.length : Int) := of_decide_eq_true (by first | (with_reducible assumption) | assumption); obtain ⟨ad403, e403, hx403_0⟩ := Kd.at_int (Kd.R_reads' HO_4.out).2.2 (ji120) p403 q403; cases e403; replace p403 := eq_true p403; replace q403 := eq_true q403))
                                                      go_roundg k6
                                                      case measure => have := HK1.out; have := HJ6.out; have := HK3.out; have := HJ24.out; have := HJ67.out; have := HK6.out; omega
                                                      case rel => exact ⟨(x12_24), (x5_67), (x6_67), (wrap64 (x7_1 + 1)), (by first | rfl | (simp; done) | (simp [*]; done)), H', ⟨by have := HK1.out; have := HJ6.out; have := HK3.out; have := HJ24.out; have := HJ67.out; have := HK6.out; omega⟩, ⟨by (with_reducible repeat (first | apply Kd.R_alloc | apply Kd.R_drewN | apply Kd.R_drew)); exact HO_4.out⟩, ⟨by (with_reducible repeat (first | apply Kd.R_alloc | apply Kd.R_drewN | apply Kd.R_drew)); exact HO_5.out⟩, ⟨by (with_reducible repeat (first | apply Kd.R_alloc | apply Kd.R_drewN | apply Kd.R_drew)); exact HO_6.out⟩, ⟨by repeat (first | (with_reducible first | exact HB.out | apply below_alloc | apply pw_below_drewN | apply below_drew1 | refine below_set ?_ GE350.out) | exact HB.out)⟩⟩
                                                  · rw [if_neg c122] at H
                                                    exact absurd H (by simp)
                                                · rw [if_neg c121] at H
                                                  exact absurd H (by simp)
                                              · rw [if_neg c119] at H
                                                have c119b0 : (((x12_24.length : Int) % 32) == 0) = false := beq_eq_false_iff_ne.mpr c119
                                                have c119b1 : (((x12_24.length : Int) % 32) != 0) = true := bne_iff_ne.mpr c119
                                                obtain rfl := Option.some.inj H
                                                obtain ⟨Ao140, co140, eo140⟩ := Kd.R_slice HO_5.out
                                                subst eo140
                                                obtain ⟨Ao141, co141, eo141⟩ := Kd.R_slice HO_4.out
                                                subst eo141
                                                go_wp2_with (first | (go_at_call 20; (with_reducible refine (entries_List.calls _ _ x12_24 t399 t400 _ ?side1 ?side2 A116.out).mono ?_); (case side1 => repeat (first | exact (Kd.R_reads' HO_4.out).2.2 | (with_reducible refine Kd.C_alloc ?_ _) | (with_reducible refine Kd.C_drewN ?_ _) | (with_reducible refine Kd.C_drew ?_))); (case side2 => exact (Kd.R_reads' HO_4.out).2.1); rintro e w142 ⟨v401, rfl, ho0, hb⟩; have n0_ := Aside0.mk (Kd.R_below (by (with_reducible repeat (first | apply Kd.R_alloc | apply Kd.R_drewN | apply Kd.R_drew)); exact HO_4.out) hb); have n1_ := Aside0.mk (Kd.R_below (by (with_reducible repeat (first | apply Kd.R_alloc | apply Kd.R_drewN | apply Kd.R_drew)); exact HO_5.out) hb); have n2_ := Aside0.mk (Kd.R_below (by (with_reducible repeat (first | apply Kd.R_alloc | apply Kd.R_drewN | apply Kd.R_drew)); exact HO_6.out) hb); have n3_ := Aside0.mk (Kd.R_lower ho0 (below_size (by repeat (first | (with_reducible first | exact HB.out | apply below_alloc | apply pw_below_drewN | apply below_drew1 | refine below_set ?_ GE350.out) | exact HB.out)))); have n4_ := Aside0.mk (blk_below (g := gb350) (o := .cells #[.string ((rd_T55 l0 x7_1).f0), .int .u16 ((rd_T55 l0 x7_1).f1), .bool ((rd_T55 l0 x7_1).f2)] 55 (0, 0)) (by (with_reducible repeat (first | refine blk_drewN ?_ _ | refine blk_drew ?_ | refine blk_alloc ?_ _)); exact BK350.out) hb); have n5_ := Aside0.mk (below_step (by repeat (first | (with_reducible first | exact HB.out | apply below_alloc | apply pw_below_drewN | apply below_drew1 | refine below_set ?_ GE350.out) | exact HB.out)) hb); clear HO_4; clear HO_5; clear HO_6; clear BK350; clear HB; have HO_4 := n0_; have HO_5 := n1_; have HO_6 := n2_; have HO402 := n3_; have BK350 := n4_; have HB := n5_; clear n0_ n1_ n2_ n3_ n4_ n5_; (try clear hb); (try clear hb2); (try clear hk); (try clear hi); (try clear ho0); obtain ⟨Ao143, co143, eo143⟩ := Kd.R_slice HO402.out; subst eo143))
                                                go_ret
                                                exact ⟨by first | rfl | (simp [errW_none, errW_some] <;> rfl) | (simp [*, errW_none, errW_some] <;> rfl), by repeat (first | (with_reducible first | exact HB.out | apply below_alloc | apply pw_below_drewN | apply below_drew1 | refine below_set ?_ GE350.out) | exact HB.out)⟩
                                            · rw [if_neg c118] at H
                                              have c118b0 : ((t399.length : Int) == (x5_67.length : Int)) = false := beq_eq_false_iff_ne.mpr c118
                                              have c118b1 : ((t399.length : Int) != (x5_67.length : Int)) = true := bne_iff_ne.mpr c118
                                              have c118b2 : (t399.length == x5_67.length) = false := by first | simpa using c118 | (simp at c118 ⊢; omega)
                                              obtain rfl := Option.some.inj H
                                              obtain ⟨Ao144, co144, eo144⟩ := Kd.R_slice HO_5.out
                                              subst eo144
                                              obtain ⟨Ao145, co145, eo145⟩ := Kd.R_slice HO_4.out
                                              subst eo145
                                              go_wp2_with (first | (go_at_call 20; (with_reducible refine (entries_List.calls _ _ x12_24 t399 t400 _ ?side1 ?side2 A116.out).mono ?_); (case side1 => repeat (first | exact (Kd.R_reads' HO_4.out).2.2 | (with_reducible refine Kd.C_alloc ?_ _) | (with_reducible refine Kd.C_drewN ?_ _) | (with_reducible refine Kd.C_drew ?_))); (case side2 => exact (Kd.R_reads' HO_4.out).2.1); rintro e w146 ⟨v401, rfl, ho0, hb⟩; have n0_ := Aside0.mk (Kd.R_below (by (with_reducible repeat (first | apply Kd.R_alloc | apply Kd.R_drewN | apply Kd.R_drew)); exact HO_4.out) hb); have n1_ := Aside0.mk (Kd.R_below (by (with_reducible repeat (first | apply Kd.R_alloc | apply Kd.R_drewN | apply Kd.R_drew)); exact HO_5.out) hb); have n2_ := Aside0.mk (Kd.R_below (by (with_reducible repeat (first | apply Kd.R_alloc | apply Kd.R_drewN | apply Kd.R_drew)); exact HO_6.out) hb); have n3_ := Aside0.mk (Kd.R_lower ho0 (below_size (by repeat (first | (with_reducible first | exact HB.out | apply below_alloc | apply pw_below_drewN | apply below_drew1 | refine below_set ?_ GE350.out) | exact HB.out)))); have n4_ := Aside0.mk (blk_below (g := gb350) (o := .cells #[.string ((rd_T55 l0 x7_1).f0), .int .u16 ((rd_T55 l0 x7_1).f1), .bool ((rd_T55 l0 x7_1).f2)] 55 (0, 0)) (by (with_reducible repeat (first | refine blk_drewN ?_ _ | refine blk_drew ?_ | refine blk_alloc ?_ _)); exact BK350.out) hb); have n5_ := Aside0.mk (below_step (by repeat (first | (with_reducible first | exact HB.out | apply below_alloc | apply pw_below_drewN | apply below_drew1 | refine below_set ?_ GE350.out) | exact HB.out)) hb); clear HO_4; clear HO_5; clear HO_6; clear BK350; clear HB; have HO_4 := n0_; have HO_5 := n1_; have HO_6 := n2_; have HO402 := n3_; have BK350 := n4_; have HB := n5_; clear n0_ n1_ n2_ n3_ n4_ n5_; (try clear hb); (try clear hb2); (try clear hk); (try clear hi); (try clear ho0); obtain ⟨Ao147, co147, eo147⟩ := Kd.R_slice HO402.out; subst eo147))
                                              go_ret
                                              exact ⟨by first | rfl | (simp [errW_none, errW_some] <;> rfl) | (simp [*, errW_none, errW_some] <;> rfl), by repeat (first | (with_reducible first | exact HB.out | apply below_alloc | apply pw_below_drewN | apply below_drew1 | refine below_set ?_ GE350.out) | exact HB.out)⟩
                                          · rw [if_neg c117] at H
                                            have c117b0 : (t400 == 0) = false := beq_eq_false_iff_ne.mpr c117
                                            have c117b1 : (t400 != 0) = true := bne_iff_ne.mpr c117
                                            obtain rfl := Option.some.inj H
                                            obtain ⟨Ao148, co148, eo148⟩ := Kd.R_slice HO_5.out
                                            subst eo148
                                            obtain ⟨Ao149, co149, eo149⟩ := Kd.R_slice HO_4.out
                                            subst eo149
                                            go_wp2_with (first | (go_at_call 20; (with_reducible refine (entries_List.calls _ _ x12_24 t399 t400 _ ?side1 ?side2 A116.out).mono ?_); (case side1 => repeat (first | exact (Kd.R_reads' HO_4.out).2.2 | (with_reducible refine Kd.C_alloc ?_ _) | (with_reducible refine Kd.C_drewN ?_ _) | (with_reducible refine Kd.C_drew ?_))); (case side2 => exact (Kd.R_reads' HO_4.out).2.1); rintro e w150 ⟨v401, rfl, ho0, hb⟩; have n0_ := Aside0.mk (Kd.R_below (by (with_reducible repeat (first | apply Kd.R_alloc | apply Kd.R_drewN | apply Kd.R_drew)); exact HO_4.out) hb); have n1_ := Aside0.mk (Kd.R_below (by (with_reducible repeat (first | apply Kd.R_alloc | apply Kd.R_drewN | apply Kd.R_drew)); exact HO_5.out) hb); have n2_ := Aside0.mk (Kd.R_below (by (with_reducible repeat (first | apply Kd.R_alloc | apply Kd.R_drewN | apply Kd.R_drew)); exact HO_6.out) hb); have n3_ := Aside0.mk (Kd.R_lower ho0 (below_size (by repeat (first | (with_reducible first | exact HB.out | apply below_alloc | apply pw_below_drewN | apply below_drew1 | refine below_set ?_ GE350.out) | exact HB.out)))); have n4_ := Aside0.mk (blk_below (g := gb350) (o := .cells #[.string ((rd_T55 l0 x7_1).f0), .int .u16 ((rd_T55 l0 x7_1).f1), .bool ((rd_T55 l0 x7_1).f2)] 55 (0, 0)) (by (with_reducible repeat (first | refine blk_drewN ?_ _ | refine blk_drew ?_ | refine blk_alloc ?_ _)); exact BK350.out) hb); have n5_ := Aside0.mk (below_step (by repeat (first | (with_reducible first | exact HB.out | apply below_alloc | apply pw_below_drewN | apply below_drew1 | refine below_set ?_ GE350.out) | exact HB.out)) hb); clear HO_4; clear HO_5; clear HO_6; clear BK350; clear HB; have HO_4 := n0_; have HO_5 := n1_; have HO_6 := n2_; have HO402 := n3_; have BK350 := n4_; have HB := n5_; clear n0_ n1_ n2_ n3_ n4_ n5_; (try clear hb); (try clear hb2); (try clear hk); (try clear hi); (try clear ho0)))
                                            go_ret
                                            exact ⟨by first | rfl | (simp [errW_none, errW_some] <;> rfl) | (simp [*, errW_none, errW_some] <;> rfl), by repeat (first | (with_reducible first | exact HB.out | apply below_alloc | apply pw_below_drewN | apply below_drew1 | refine below_set ?_ GE350.out) | exact HB.out)⟩
                              · rw [if_neg c67] at H
                                have c67b0 : (x13_24 == 0) = false := beq_eq_false_iff_ne.mpr c67
                                have c67b1 : (x13_24 != 0) = true := bne_iff_ne.mpr c67
                                have H' := Aside0.mk H
                                clear H
                                go_wp2
                                go_roundg kj24
                                case measure => have := HK1.out; have := HJ6.out; have := HK3.out; have := HJ24.out; omega
                                case rel => exact ⟨(x4_1), (x5_1), (x6_1), (wrap64 (x7_1 + 1)), (by first | rfl | (simp; done) | (simp [*]; done)), H', ⟨by have := HK1.out; have := HJ6.out; have := HK3.out; have := HJ24.out; omega⟩, ⟨by (with_reducible repeat (first | apply Kd.R_alloc | apply Kd.R_drewN | apply Kd.R_drew)); exact Kd.R_mono HO_4.out (fun _ hk => trivial)⟩, ⟨by (with_reducible repeat (first | apply Kd.R_alloc | apply Kd.R_drewN | apply Kd.R_drew)); exact HO_5.out⟩, ⟨by (with_reducible repeat (first | apply Kd.R_alloc | apply Kd.R_drewN | apply Kd.R_drew)); exact HO_6.out⟩, ⟨by repeat (first | (with_reducible first | exact HB.out | apply below_alloc | apply pw_below_drewN | apply below_drew1 | refine below_set ?_ GE350.out) | exact HB.out)⟩⟩
                · rw [if_neg c11] at H
                  exact absurd H (by simp)
              · rw [if_neg c10] at H
                exact absurd H (by simp)
            · replace c9 := Bool.eq_false_iff.mpr c9
              subst c9
              have H1 : (some true) = some r := by rw [if_neg (show ¬ (false = true) by decide)] at H; exact H
              clear H
              have H := H1
              clear H1
              obtain rfl := Option.some.inj H
              go_wp2
              go_ret
              exact ⟨by first | rfl | (simp [errW_none, errW_some] <;> rfl) | (simp [*, errW_none, errW_some] <;> rfl), by repeat (first | (with_reducible first | exact HB.out | apply below_alloc | apply pw_below_drewN | apply below_drew1) | exact HB.out)⟩
  · replace c3 := Bool.eq_false_iff.mpr c3
    subst c3
    have H1 : (some false) = some r := by rw [if_neg (show ¬ (false = true) by decide)] at H; exact H
    clear H
    have H := H1
    clear H1
    obtain rfl := Option.some.inj H
    go_enter Try.func6, Try.ntmps6
    go_wp2_with (first | (go_at_call 9; (with_reducible refine (reliquarylaw22_awake.calls k  false _ A2.out).mono ?_); rintro e w151 ⟨rfl, hb⟩; have n0_ := Aside0.mk (below_step (by repeat (first | (with_reducible first | exact HB.out | apply below_alloc | apply pw_below_drewN | apply below_drew1) | exact HB.out)) hb); clear HB; have HB := n0_; clear n0_; (try clear hb); (try clear hb2); (try clear hk); (try clear hi)))
    go_ret
    exact ⟨by first | rfl | (simp [errW_none, errW_some] <;> rfl) | (simp [*, errW_none, errW_some] <;> rfl), by repeat (first | (with_reducible first | exact HB.out | apply below_alloc | apply pw_below_drewN | apply below_drew1) | exact HB.out)⟩

end Go.Proofs.Ytkkflgdobgbmmaa.Q
end
