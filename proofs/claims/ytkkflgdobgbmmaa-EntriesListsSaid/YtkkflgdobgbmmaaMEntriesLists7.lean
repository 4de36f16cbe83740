/- EntriesLists: for every input the statement's function returns true; there is no further condition. Text 8 of 8: this session's texts, and of the words that print.sh has printed those that are needed, laid together by its own program (merge.py). Not trusted: Lean checks them. -/
import Derived.Test.YtkkflgdobgbmmaaMEntriesLists2
import Derived.Test.YtkkflgdobgbmmaaMEntriesLists3
import Derived.Test.YtkkflgdobgbmmaaMEntriesLists4
import Derived.Test.YtkkflgdobgbmmaaMEntriesLists6
import Derived.Test.YtkkflgdobgbmmaaMEntriesLists5
import Derived.Test.YtkkflgdobgbmmaaRows
import Derived.WalkKit
import Derived.ProofKit
import Derived.OpenShut
import Derived.ShutString
import Derived.ChangeOld
import Derived.Below
import Derived.SizedLaws
import Derived.Test.YtkkflgdobgbmmaaMEntriesLists1
section
namespace Go.Proofs.Ytkkflgdobgbmmaa.Q
open Go.RowKit Go.Proofs.YtkkflgdobgbmmaaW.PrintWords Go.Proofs.YtkkflgdobgbmmaaW.PrintLast Go.Proofs.YtkkflgdobgbmmaaW.PrintMore
attribute [local go_sem] max2_int min2_int max_two min_two max_three min_three max_four min_four   -- for this text's walks alone
set_option linter.unusedVariables false
set_option linter.unusedSimpArgs false

/-! ### reliquarylaw22_EntriesLists: function 5 -/
mutual
def reliquarylaw22_EntriesLists.j0 : Nat → Int → List (S28) → List (S30) → Bool → Option (Bool)
  | 0, _, _, _, _ => none
  | k + 1, x1, x6, x8, x37 => if x37 = true then (some false) else (reliquarylaw22_EntriesLists.l0 k x1 x6 x8 0)
def reliquarylaw22_EntriesLists.l0 : Nat → Int → List (S28) → List (S30) → Int → Option (Bool)
  | 0, _, _, _, _ => none
  | k + 1, x1, x6, x8, x10 => if x10 < (x6.length : Int) then (if 0 ≤ x10 then (if x10 < (x8.length : Int) then (if ((rd_T28 x6 x10).f0).toList = ((rd_T30 x8 x10).f0).toList then (if ((rd_T28 x6 x10).f1) = ((rd_T30 x8 x10).f1) then (reliquarylaw22_EntriesLists.l0 k x1 x6 x8 (wrap64 (x10 + 1))) else (some false)) else (some false)) else (none)) else (none)) else (if x1 = 0 then (some true) else ((entries_New.f (wrap64 (x1))).bind fun t341 => ((reliquaryref22_Piece.f k (⟨#[46, 46]⟩ : ByteArray) (wrap64 (x1))).bind fun t344 => (some ((strOfNums t341).toList == t344.toList)))))
end
def reliquarylaw22_EntriesLists.f (k : Nat) (l0 : List Int) (a1 : Int) : Option (Bool) := (reliquarylaw22_awake.f k).bind fun t328 => (if t328 = true then (if (l0.length : Int) > 2000 then (some true) else ((entries_List.f l0).bind fun bt329 => ((reliquaryref22_List.f k (strOfNums l0)).bind fun bt333 => (if bt329.2 = bt333.2 then (reliquarylaw22_EntriesLists.j0 k a1 bt329.1 bt333.1 ((bt329.1.length : Int) != (bt333.1.length : Int))) else (reliquarylaw22_EntriesLists.j0 k a1 bt329.1 bt333.1 true))))) else (some false))
def reliquarylaw22_EntriesLists.T13 : Bool × List (List Nat × List Nat) := (true, [([], []), ([], []), ([0, 1], [0, 1]), ([2], [2]), ([3], [3]), ([], []), ([], []), ([5, 6], [5, 6]), ([7], [7]), ([8], [8]), ([4, 9], [4, 9]), ([10], [10]), ([11], [11]), ([11], [11]), ([12, 13, 11], [11, 12, 13]), ([14, 11], [11, 14]), ([15, 11], [11, 15]), ([11], [11]), ([11], [11]), ([17, 18, 11], [11, 17, 18]), ([19, 11], [11, 19]), ([20, 11], [11, 20]), ([16, 21, 11], [11, 16, 21]), ([11, 22], [11, 22])])
def reliquarylaw22_EntriesLists.B13 : List Nat := [0, 0, 3, 7, 15, 0, 0, 96, 224, 480, 1023, 2047, 4095, 4095, 16383, 32767, 65535, 4095, 4095, 397311, 921599, 1970175, 4194303, 8388607]
theorem reliquarylaw22_EntriesLists.tab13 : rtab .any (opsOf Try.f5 13) = reliquarylaw22_EntriesLists.T13 := by kernel_rfl
theorem reliquarylaw22_EntriesLists.bits13 : waitsOk reliquarylaw22_EntriesLists.T13.2 reliquarylaw22_EntriesLists.B13 = true := by kernel_rfl
def reliquarylaw22_EntriesLists.T15 : Bool × List (List Nat × List Nat) := (true, [([], []), ([0], [0]), ([1], [1]), ([2], [2]), ([3, 2], [2, 3]), ([4, 2, 2], [2, 4]), ([5, 2], [2, 5]), ([2], [2]), ([7, 2], [2, 7]), ([8, 2], [2, 8]), ([9, 5, 2], [2, 9]), ([6, 10, 2], [2, 6, 10]), ([2, 11], [2, 11]), ([12, 10, 0, 1, 2, 3, 4, 5, 6, 7, 8, 9, 10, 11, 12], [12])])
def reliquarylaw22_EntriesLists.B15 : List Nat := [0, 1, 3, 7, 15, 31, 63, 7, 135, 391, 959, 2047, 4095, 8191]
theorem reliquarylaw22_EntriesLists.tab15 : rtab .any (opsOf Try.f5 15) = reliquarylaw22_EntriesLists.T15 := by kernel_rfl
theorem reliquarylaw22_EntriesLists.bits15 : waitsOk reliquarylaw22_EntriesLists.T15.2 reliquarylaw22_EntriesLists.B15 = true := by kernel_rfl
set_option maxHeartbeats 8000000 in
set_option maxRecDepth 100000 in
theorem reliquarylaw22_EntriesLists.calls (k : Nat) (A0 : Option Addr) (c0 : Nat) (l0 : List Int) (a1 : Int) (r : Bool) (w : World) (hr0 : Kd.C (Kd.int .u8) w A0 l0.length l0) (hc0 : l0.length ≤ c0) (h : reliquarylaw22_EntriesLists.f k l0 a1 = some r) :
    Calls Try.prog 5 #[.slice A0 l0.length c0, .int .u16 a1] w fun e w' => e = .returned (.bool r) ∧ Below w.heap.size w w' := by
  have hu30 := Try.underlying30
  have HR0 := Aside0.mk hr0
  have HC0 := Aside0.mk hc0
  clear hr0 hc0
  have HB := Aside0.mk (Below.refl w.heap.size w)
  have H : ((reliquarylaw22_awake.f k).bind fun t328 => (if t328 = true then (if (l0.length : Int) > 2000 then (some true) else ((entries_List.f l0).bind fun bt329 => ((reliquaryref22_List.f k (strOfNums l0)).bind fun bt333 => (if bt329.2 = bt333.2 then (reliquarylaw22_EntriesLists.j0 k a1 bt329.1 bt333.1 ((bt329.1.length : Int) != (bt333.1.length : Int))) else (reliquarylaw22_EntriesLists.j0 k a1 bt329.1 bt333.1 true))))) else (some false))) = some r := h
  clear h
  replace H := Option.bind_eq_some_iff.mp H
  obtain ⟨t328, A30, H⟩ := H
  replace H : (if t328 = true then (if (l0.length : Int) > 2000 then (some true) else ((entries_List.f l0).bind fun bt329 => ((reliquaryref22_List.f k (strOfNums l0)).bind fun bt333 => (if bt329.2 = bt333.2 then (reliquarylaw22_EntriesLists.j0 k a1 bt329.1 bt333.1 ((bt329.1.length : Int) != (bt333.1.length : Int))) else (reliquarylaw22_EntriesLists.j0 k a1 bt329.1 bt333.1 true))))) else (some false)) = some r := H
  have A3 := Aside0.mk A30
  clear A30
  by_cases c4 : t328 = true
  · subst c4
    have H1 : (if (l0.length : Int) > 2000 then (some true) else ((entries_List.f l0).bind fun bt329 => ((reliquaryref22_List.f k (strOfNums l0)).bind fun bt333 => (if bt329.2 = bt333.2 then (reliquarylaw22_EntriesLists.j0 k a1 bt329.1 bt333.1 ((bt329.1.length : Int) != (bt333.1.length : Int))) else (reliquarylaw22_EntriesLists.j0 k a1 bt329.1 bt333.1 true))))) = some r := by rw [if_pos rfl] at H; exact H
    clear H
    have H := H1
    clear H1
    by_cases c5 : (l0.length : Int) > 2000
    · rw [if_pos c5] at H
      have c5b0 : decide (2000 < (l0.length : Int)) = true := decide_eq_true c5
      have c5b1 : decide (2000 < l0.length) = true := decide_eq_true (by omega)
      clear c5
      obtain rfl := Option.some.inj H
      go_enter Try.func5, Try.ntmps5
      go_wp2_with (first | ((with_reducible refine gate_callee (f := 9) rfl ?_); refine goesL_ (some 11) rfl rfl Try.func9 (by kernel_rfl) rfl #[] rfl (by (try simp only [List.map_toArray, List.map_cons, List.map_nil]); first | done | rfl | (simp only [List.length_drop, List.length_take]; rfl)) ?_; (with_reducible refine (reliquarylaw22_awake.calls k  true _ A3.out).mono ?_); rintro e w6 ⟨rfl, hb⟩; refine ⟨_, rfl, ?_⟩; have n0_ := Aside0.mk (below_step (by repeat (first | (with_reducible first | exact HB.out | apply below_alloc | apply pw_below_drewN | apply below_drew1) | exact HB.out)) hb); clear HB; have HB := n0_; clear n0_; (try clear hb); (try clear hb2); (try clear hk); (try clear hi)))
      go_ret
      exact ⟨by first | rfl | (simp [errW_none, errW_some] <;> rfl) | (simp [*, errW_none, errW_some] <;> rfl), by repeat (first | (with_reducible first | exact HB.out | apply below_alloc | apply pw_below_drewN | apply below_drew1) | exact HB.out)⟩
    · rw [if_neg c5] at H
      have c5b0 : decide (2000 < (l0.length : Int)) = false := decide_eq_false c5
      have c5b1 : decide (2000 < l0.length) = false := decide_eq_false (by omega)
      clear c5
      replace H := Option.bind_eq_some_iff.mp H
      obtain ⟨⟨t329, t330⟩, A70, H⟩ := H
      replace H : ((reliquaryref22_List.f k (strOfNums l0)).bind fun bt333 => (if t330 = bt333.2 then (reliquarylaw22_EntriesLists.j0 k a1 t329 bt333.1 ((t329.length : Int) != (bt333.1.length : Int))) else (reliquarylaw22_EntriesLists.j0 k a1 t329 bt333.1 true))) = some r := H
      have A7 := Aside0.mk A70
      clear A70
      replace H := Option.bind_eq_some_iff.mp H
      obtain ⟨⟨t333, t334⟩, A80, H⟩ := H
      replace H : (if t330 = t334 then (reliquarylaw22_EntriesLists.j0 k a1 t329 t333 ((t329.length : Int) != (t333.length : Int))) else (reliquarylaw22_EntriesLists.j0 k a1 t329 t333 true)) = some r := H
      have A8 := Aside0.mk A80
      clear A80
      have HC9 := Aside0.mk H
      clear H
      go_enter Try.func5, Try.ntmps5
      go_upto_region 8 with (first | ((with_reducible refine gate_callee (f := 9) rfl ?_); refine goesL_ (some 11) rfl rfl Try.func9 (by kernel_rfl) rfl #[] rfl (by (try simp only [List.map_toArray, List.map_cons, List.map_nil]); first | done | rfl | (simp only [List.length_drop, List.length_take]; rfl)) ?_; (with_reducible refine (reliquarylaw22_awake.calls k  true _ A3.out).mono ?_); rintro e w10 ⟨rfl, hb⟩; refine ⟨_, rfl, ?_⟩; have n0_ := Aside0.mk (below_step (by repeat (first | (with_reducible first | exact HB.out | apply below_alloc | apply pw_below_drewN | apply below_drew1) | exact HB.out)) hb); clear HB; have HB := n0_; clear n0_; (try clear hb); (try clear hb2); (try clear hk); (try clear hi)) | ((with_reducible refine gate_callee (f := 20) rfl ?_); refine goesL_ (some 19) rfl rfl Try.func20 (by kernel_rfl) rfl #[.slice A0 l0.length c0] rfl (by (try simp only [List.map_toArray, List.map_cons, List.map_nil]); first | done | rfl | (simp only [List.length_drop, List.length_take]; rfl)) ?_; (with_reducible refine (entries_List.calls _ _ l0 t329 t330 _ ?side1 ?side2 A7.out).mono ?_); (case side1 => repeat (first | exact (Kd.C_below HR0.out HB.out) | (with_reducible refine Kd.C_alloc ?_ _) | (with_reducible refine Kd.C_drewN ?_ _) | (with_reducible refine Kd.C_drew ?_))); (case side2 => exact HC0.out); rintro e w11 ⟨v331, rfl, ho0, hb⟩; refine ⟨_, rfl, ?_⟩; have n0_ := Aside0.mk (Kd.R_lower ho0 (below_size (by repeat (first | (with_reducible first | exact HB.out | apply below_alloc | apply pw_below_drewN | apply below_drew1) | exact HB.out)))); have n1_ := Aside0.mk (below_step (by repeat (first | (with_reducible first | exact HB.out | apply below_alloc | apply pw_below_drewN | apply below_drew1) | exact HB.out)) hb); clear HB; have HO332 := n0_; have HB := n1_; clear n0_ n1_; (try clear hb); (try clear hb2); (try clear hk); (try clear hi); (try clear ho0); have hcv12 := Kd.C_string (P := Try.prog) (A := A0) (c := c0) Try.underlying23 Try.underlying5 Try.underlying9 (Kd.C_below HR0.out HB.out)) | ((with_reducible refine gate_callee (f := 21) rfl ?_); refine goesL_ (some 25) rfl rfl Try.func21 (by kernel_rfl) rfl #[.string (strOfNums l0)] rfl (by (try simp only [List.map_toArray, List.map_cons, List.map_nil]); first | done | rfl | (simp only [List.length_drop, List.length_take]; rfl)) ?_; (with_reducible refine (reliquaryref22_List.calls k (strOfNums l0) t333 t334 _ A8.out).mono ?_); rintro e w13 ⟨v335, rfl, ho0, hb⟩; refine ⟨_, rfl, ?_⟩; have n0_ := Aside0.mk (Kd.R_below (by (with_reducible repeat (first | apply Kd.R_alloc | apply Kd.R_drewN | apply Kd.R_drew)); exact HO332.out) hb); have n1_ := Aside0.mk (Kd.R_lower ho0 (below_size (by repeat (first | (with_reducible first | exact HB.out | apply below_alloc | apply pw_below_drewN | apply below_drew1) | exact HB.out)))); have n2_ := Aside0.mk (below_step (by repeat (first | (with_reducible first | exact HB.out | apply below_alloc | apply pw_below_drewN | apply below_drew1) | exact HB.out)) hb); clear HO332; clear HB; have HO332 := n0_; have HO336 := n1_; have HB := n2_; clear n0_ n1_ n2_; (try clear hb); (try clear hb2); (try clear hk); (try clear hi); (try clear ho0)))
      (try simp only [Act.put, List.setIfInBounds_toArray, List.set_cons_zero, List.set_cons_succ])
      go_cut [37] (fun v37 wc => ∃ (kq : Nat) (x37_8 : Bool), v37 = .bool x37_8 ∧ Aside0 (reliquarylaw22_EntriesLists.j0 kq a1 t329 t333 x37_8 = some r) ∧ Aside0 (kq ≤ k) ∧ Aside0 (Kd.R k28 28 wc w.heap.size (fun _ => True) v331 t329) ∧ Aside0 (Kd.R k30 30 wc w.heap.size (fun _ => True) v335 t333) ∧ Aside0 (Below w.heap.size w wc))
      case first =>
        have H := HC9.out
        clear HC9
        by_cases c14 : t330 = t334
        · rw [if_pos c14] at H
          have c14b0 : (t330 == t334) = true := beq_iff_eq.mpr c14
          have c14b1 : (t330 != t334) = false := bne_eq_false_iff_eq.mpr c14
          clear c14
          (first | rw [c14b0] | (simp only [i64_w, i32_w]; rw [c14b0]) | skip)
          have H' := Aside0.mk H
          clear H
          obtain ⟨Ao15, co15, eo15⟩ := Kd.R_slice HO332.out
          subst eo15
          obtain ⟨Ao16, co16, eo16⟩ := Kd.R_slice HO336.out
          subst eo16
          go_wp2
          go_meet
          case rel => exact ⟨_, (((t329.length : Int) != (t333.length : Int))), (by first | rfl | (simp; done) | (simp [*]; done)), H', ⟨by first | omega | exact Nat.le_refl _⟩, ⟨by (with_reducible repeat (first | apply Kd.R_alloc | apply Kd.R_drewN | apply Kd.R_drew)); exact HO332.out⟩, ⟨by (with_reducible repeat (first | apply Kd.R_alloc | apply Kd.R_drewN | apply Kd.R_drew)); exact HO336.out⟩, ⟨by repeat (first | (with_reducible first | exact HB.out | apply below_alloc | apply pw_below_drewN | apply below_drew1) | exact HB.out)⟩⟩
        · rw [if_neg c14] at H
          have c14b0 : (t330 == t334) = false := beq_eq_false_iff_ne.mpr c14
          have c14b1 : (t330 != t334) = true := bne_iff_ne.mpr c14
          (first | rw [c14b0] | (simp only [i64_w, i32_w]; rw [c14b0]) | skip)
          have H' := Aside0.mk H
          clear H
          go_wp2
          go_meet
          case rel => exact ⟨_, (true), (by first | rfl | (simp; done) | (simp [*]; done)), H', ⟨by first | omega | exact Nat.le_refl _⟩, ⟨by (with_reducible repeat (first | apply Kd.R_alloc | apply Kd.R_drewN | apply Kd.R_drew)); exact HO332.out⟩, ⟨by (with_reducible repeat (first | apply Kd.R_alloc | apply Kd.R_drewN | apply Kd.R_drew)); exact HO336.out⟩, ⟨by repeat (first | (with_reducible first | exact HB.out | apply below_alloc | apply pw_below_drewN | apply below_drew1) | exact HB.out)⟩⟩
      case rest =>
        clear HC9
        try clear c1
        try clear hcv1
        try clear c2
        try clear p2
        try clear c4
        try clear c5
        try clear c5b0
        try clear c5b1
        try clear c9
        try clear hcv12
        try clear c14
        try clear c14b0
        try clear c14b1
        obtain ⟨kq, x37_8, rfl, HA, HJ8, HO_6, HO_8, HB⟩ := hcut
        cases kq with
        | zero => exact absurd HA.out (by simp [reliquarylaw22_EntriesLists.j0])
        | succ kj8 =>
          have H := HA.out
          clear HA
          simp only [reliquarylaw22_EntriesLists.j0] at H
          by_cases c17 : x37_8 = true
          · subst c17
            have H1 : (some false) = some r := by rw [if_pos rfl] at H; exact H
            clear H
            have H := H1
            clear H1
            obtain rfl := Option.some.inj H
            go_wp2
            go_ret
            exact ⟨by first | rfl | (simp [errW_none, errW_some] <;> rfl) | (simp [*, errW_none, errW_some] <;> rfl), by repeat (first | (with_reducible first | exact HB.out | apply below_alloc | apply pw_below_drewN | apply below_drew1) | exact HB.out)⟩
          · replace c17 := Bool.eq_false_iff.mpr c17
            subst c17
            have H1 : (reliquarylaw22_EntriesLists.l0 kj8 a1 t329 t333 0) = some r := by rw [if_neg (show ¬ (false = true) by decide)] at H; exact H
            clear H
            have H := H1
            clear H1
            have H' := Aside0.mk H
            clear H
            go_wp2
            go_loopg [10] kj8 (fun kq v10 w' => ∃ (x10_2 : Int), v10 = .int .i64 x10_2 ∧ Aside0 (reliquarylaw22_EntriesLists.l0 kq a1 t329 t333 x10_2 = some r) ∧ Aside0 (kq ≤ kj8) ∧ Aside0 (Kd.R k28 28 w' w.heap.size (fun _ => True) v331 t329) ∧ Aside0 (Kd.R k30 30 w' w.heap.size (fun _ => True) v335 t333) ∧ Aside0 (Below w.heap.size w w'))
            case atStart => exact ⟨(0), (by first | rfl | (simp; done) | (simp [*]; done)), H', ⟨Nat.le_refl _⟩, ⟨by (with_reducible repeat (first | apply Kd.R_alloc | apply Kd.R_drewN | apply Kd.R_drew)); exact HO_6.out⟩, ⟨by (with_reducible repeat (first | apply Kd.R_alloc | apply Kd.R_drewN | apply Kd.R_drew)); exact HO_8.out⟩, ⟨by repeat (first | (with_reducible first | exact HB.out | apply below_alloc | apply pw_below_drewN | apply below_drew1) | exact HB.out)⟩⟩
            case round =>
              clear H'
              try clear c1
              try clear hcv1
              try clear c2
              try clear p2
              try clear c4
              try clear c5
              try clear c5b0
              try clear c5b1
              try clear c9
              try clear hcv12
              try clear c14
              try clear c14b0
              try clear c14b1
              try clear c17
              try clear p2
              obtain ⟨x10_2, rfl, HA, HK2, HO_6, HO_8, HB⟩ := hrel
              cases gk with
              | zero => exact absurd HA.out (by simp [reliquarylaw22_EntriesLists.l0])
              | succ k2 =>
                have H := HA.out
                clear HA
                simp only [reliquarylaw22_EntriesLists.l0] at H
                by_cases c18 : x10_2 < (t329.length : Int)
                · rw [if_pos c18] at H
                  have c18b0 : decide (x10_2 < (t329.length : Int)) = true := decide_eq_true c18
                  clear c18
                  by_cases c19 : 0 ≤ x10_2
                  · rw [if_pos c19] at H
                    have c19b0 : decide (0 ≤ x10_2) = true := decide_eq_true c19
                    clear c19
                    by_cases c20 : x10_2 < (t333.length : Int)
                    · rw [if_pos c20] at H
                      have c20b0 : decide (x10_2 < (t333.length : Int)) = true := decide_eq_true c20
                      clear c20
                      by_cases c21 : ((rd_T28 t329 x10_2).f0).toList = ((rd_T30 t333 x10_2).f0).toList
                      · rw [if_pos c21] at H
                        have c21b0 : (((rd_T28 t329 x10_2).f0).toList == ((rd_T30 t333 x10_2).f0).toList) = true := beq_iff_eq.mpr c21
                        have c21b1 : (((rd_T28 t329 x10_2).f0).toList != ((rd_T30 t333 x10_2).f0).toList) = false := bne_eq_false_iff_eq.mpr c21
                        clear c21
                        by_cases c22 : ((rd_T28 t329 x10_2).f1) = ((rd_T30 t333 x10_2).f1)
                        · rw [if_pos c22] at H
                          have c22b0 : (((rd_T28 t329 x10_2).f1) == ((rd_T30 t333 x10_2).f1)) = true := beq_iff_eq.mpr c22
                          have c22b1 : (((rd_T28 t329 x10_2).f1) != ((rd_T30 t333 x10_2).f1)) = false := bne_eq_false_iff_eq.mpr c22
                          clear c22
                          have H' := Aside0.mk H
                          clear H
                          obtain ⟨Ao23, co23, eo23⟩ := Kd.R_slice HO_6.out
                          subst eo23
                          try go_wp2
                          have n0_ := Aside0.mk (Kd.R_drew HO_6.out)
                          have n1_ := Aside0.mk (Kd.R_drew HO_8.out)
                          have n2_ := Aside0.mk (below_drew1 HB.out)
                          clear HO_6
                          clear HO_8
                          clear HB
                          have HO_6 := n0_
                          have HO_8 := n1_
                          have HB := n2_
                          clear n0_ n1_ n2_
                          have p337 : 0 ≤ (x10_2 : Int) := of_decide_eq_true (by first | (with_reducible assumption) | assumption)
                          have q337 : x10_2 < (t329.length : Int) := of_decide_eq_true (by first | (with_reducible assumption) | assumption)
                          obtain ⟨ad337, e337, hx337_0, hx337_1⟩ := at_T28 (Kd.R_reads' HO_6.out).2.2 x10_2 p337 q337
                          cases e337
                          replace p337 := eq_true p337
                          replace q337 := eq_true q337
                          obtain ⟨Ao25, co25, eo25⟩ := Kd.R_slice HO_8.out
                          (first | subst eo25 | (injection eo25 with f1_ f2_ f3_; have f4_ := f1_.symm; have f5_ := f3_.symm; clear f1_ f2_ f3_; subst f4_; subst f5_))
                          have p338 : 0 ≤ (x10_2 : Int) := of_decide_eq_true (by first | (with_reducible assumption) | assumption)
                          have q338 : x10_2 < (t333.length : Int) := of_decide_eq_true (by first | (with_reducible assumption) | assumption)
                          obtain ⟨ad338, e338, hx338_0, hx338_1⟩ := at_T30 (Kd.R_reads' HO_8.out).2.2 x10_2 p338 q338
                          cases e338
                          replace p338 := eq_true p338
                          replace q338 := eq_true q338
                          have p339 : 0 ≤ (x10_2 : Int) := of_decide_eq_true (by first | (with_reducible assumption) | assumption)
                          have q339 : x10_2 < (t329.length : Int) := of_decide_eq_true (by first | (with_reducible assumption) | assumption)
                          obtain ⟨ad339, e339, hx339_0, hx339_1⟩ := at_T28 (Kd.R_reads' HO_6.out).2.2 x10_2 p339 q339
                          obtain rfl : ad337 = ad339 := (by injection e339)
                          replace p339 := eq_true p339
                          replace q339 := eq_true q339
                          have p340 : 0 ≤ (x10_2 : Int) := of_decide_eq_true (by first | (with_reducible assumption) | assumption)
                          have q340 : x10_2 < (t333.length : Int) := of_decide_eq_true (by first | (with_reducible assumption) | assumption)
                          obtain ⟨ad340, e340, hx340_0, hx340_1⟩ := at_T30 (Kd.R_reads' HO_8.out).2.2 x10_2 p340 q340
                          obtain rfl : ad338 = ad340 := (by injection e340)
                          replace p340 := eq_true p340
                          replace q340 := eq_true q340
                          refine start_ (n := 24) (S := fun w' => w'.cell? (ad337.add ((x10_2).toNat * 2)) = some (.string ((rd_T28 t329 x10_2).f0)) ∧ w'.cell? ⟨(ad337.add ((x10_2).toNat * 2)).block, (ad337.add ((x10_2).toNat * 2)).off + 1, none⟩ = some (.int .i64 ((rd_T28 t329 x10_2).f1)) ∧ w'.cell? (ad338.add ((x10_2).toNat * 2)) = some (.string ((rd_T30 t333 x10_2).f0)) ∧ w'.cell? ⟨(ad338.add ((x10_2).toNat * 2)).block, (ad338.add ((x10_2).toNat * 2)).off + 1, none⟩ = some (.int .i64 ((rd_T30 t333 x10_2).f1)) ∧ w'.cell? (ad337.add ((x10_2).toNat * 2)) = some (.string ((rd_T28 t329 x10_2).f0)) ∧ w'.cell? ⟨(ad337.add ((x10_2).toNat * 2)).block, (ad337.add ((x10_2).toNat * 2)).off + 1, none⟩ = some (.int .i64 ((rd_T28 t329 x10_2).f1)) ∧ w'.cell? (ad338.add ((x10_2).toNat * 2)) = some (.string ((rd_T30 t333 x10_2).f0)) ∧ w'.cell? ⟨(ad338.add ((x10_2).toNat * 2)).block, (ad338.add ((x10_2).toNat * 2)).off + 1, none⟩ = some (.int .i64 ((rd_T30 t333 x10_2).f1))) (ds := []) #[false, false, false, false, false, false, false, false, false, false, false, false, false, false, false, false, false, false, false, false, false, false, false, false] (by kernel_rfl) rfl rfl ⟨hx337_0, hx337_1, hx338_0, hx338_1, hx339_0, hx339_1, hx340_0, hx340_1⟩ (fun hHeld => ?_); refine with_tabW reliquarylaw22_EntriesLists.tab13 reliquarylaw22_EntriesLists.bits13 (fun HT_ HW_ => ?_)
                          generalize wr.drew = w24 at HO_6 HO_8 HB hx337_0 hx337_1 hx338_0 hx338_1 hx339_0 hx339_1 hx340_0 hx340_1 hHeld ⊢
                          refine pure_ (i := 0) (N := some 44) (v := ?_) (a' := ?_) #[true, false, false, false, false, false, false, false, false, false, false, false, false, false, false, false, false, false, false, false, false, false, false, false] rfl rfl (any_of HT_.out (by kernel_rfl)) (fun _ _ _ h => h) (Or.inl ⟨by rfl, ?_⟩) ?_ ?_
                          rotate_left
                          · intro w'
                            go_simp
                            with_reducible rfl
                          rotate_left
                          · simp only [Act.put, List.setIfInBounds_toArray, List.set_cons_zero, List.set_cons_succ, i64_w, i32_w]
                            rfl
                          refine pure_ (i := 1) (N := some 45) (v := ?_) (a' := ?_) #[true, true, false, false, false, false, false, false, false, false, false, false, false, false, false, false, false, false, false, false, false, false, false, false] rfl rfl (any_of HT_.out (by kernel_rfl)) (fun _ _ _ h => h) (Or.inl ⟨by rfl, ?_⟩) ?_ ?_
                          rotate_left
                          · intro w'
                            go_simp
                            with_reducible rfl
                          rotate_left
                          · simp only [Act.put, List.setIfInBounds_toArray, List.set_cons_zero, List.set_cons_succ, i64_w, i32_w]
                            rfl
                          refine pure_ (i := 2) (N := some 46) (v := ?_) (a' := ?_) #[true, true, true, false, false, false, false, false, false, false, false, false, false, false, false, false, false, false, false, false, false, false, false, false] rfl rfl (any_of HT_.out (by kernel_rfl)) (fun _ _ _ h => h) (Or.inl ⟨by rfl, ?_⟩) ?_ ?_
                          rotate_left
                          · intro w'
                            go_simp
                            with_reducible rfl
                          rotate_left
                          · simp only [Act.put, List.setIfInBounds_toArray, List.set_cons_zero, List.set_cons_succ, i64_w, i32_w]
                            rfl
                          refine pure_ (i := 3) (N := some 47) (v := ?_) (a' := ?_) #[true, true, true, true, false, false, false, false, false, false, false, false, false, false, false, false, false, false, false, false, false, false, false, false] rfl rfl (any_of HT_.out (by kernel_rfl)) (fun _ _ _ h => h) (Or.inl ⟨by rfl, ?_⟩) ?_ ?_
                          rotate_left
                          · intro w'
                            go_simp
                            with_reducible rfl
                          rotate_left
                          · simp only [Act.put, List.setIfInBounds_toArray, List.set_cons_zero, List.set_cons_succ, i64_w, i32_w]
                            rfl
                          refine pure_ (i := 5) (N := some 49) (v := ?_) (a' := ?_) #[true, true, true, true, false, true, false, false, false, false, false, false, false, false, false, false, false, false, false, false, false, false, false, false] rfl rfl (any_of HT_.out (by kernel_rfl)) (fun _ _ _ h => h) (Or.inl ⟨by rfl, ?_⟩) ?_ ?_
                          rotate_left
                          · intro w'
                            go_simp
                            with_reducible rfl
                          rotate_left
                          · simp only [Act.put, List.setIfInBounds_toArray, List.set_cons_zero, List.set_cons_succ, i64_w, i32_w]
                            rfl
                          refine pure_ (i := 6) (N := some 50) (v := ?_) (a' := ?_) #[true, true, true, true, false, true, true, false, false, false, false, false, false, false, false, false, false, false, false, false, false, false, false, false] rfl rfl (any_of HT_.out (by kernel_rfl)) (fun _ _ _ h => h) (Or.inl ⟨by rfl, ?_⟩) ?_ ?_
                          rotate_left
                          · intro w'
                            go_simp
                            with_reducible rfl
                          rotate_left
                          · simp only [Act.put, List.setIfInBounds_toArray, List.set_cons_zero, List.set_cons_succ, i64_w, i32_w]
                            rfl
                          refine pure_ (i := 7) (N := some 51) (v := ?_) (a' := ?_) #[true, true, true, true, false, true, true, true, false, false, false, false, false, false, false, false, false, false, false, false, false, false, false, false] rfl rfl (any_of HT_.out (by kernel_rfl)) (fun _ _ _ h => h) (Or.inl ⟨by rfl, ?_⟩) ?_ ?_
                          rotate_left
                          · intro w'
                            go_simp
                            with_reducible rfl
                          rotate_left
                          · simp only [Act.put, List.setIfInBounds_toArray, List.set_cons_zero, List.set_cons_succ, i64_w, i32_w]
                            rfl
                          refine pure_ (i := 8) (N := some 52) (v := ?_) (a' := ?_) #[true, true, true, true, false, true, true, true, true, false, false, false, false, false, false, false, false, false, false, false, false, false, false, false] rfl rfl (any_of HT_.out (by kernel_rfl)) (fun _ _ _ h => h) (Or.inl ⟨by rfl, ?_⟩) ?_ ?_
                          rotate_left
                          · intro w'
                            go_simp
                            with_reducible rfl
                          rotate_left
                          · simp only [Act.put, List.setIfInBounds_toArray, List.set_cons_zero, List.set_cons_succ, i64_w, i32_w]
                            rfl
                          refine take_ (i := 4) (N := some 48) (v := ?_) (a' := ?_) #[true, true, true, true, true, true, true, true, true, false, false, false, false, false, false, false, false, false, false, false, false, false, false, false] rfl rfl (take_ofW HT_.out HW_.out (by kernel_rfl)) (fun _ _ _ h => h) (Or.inl ⟨by rfl, ?_⟩) hHeld ?_ ?_
                          rotate_left
                          · rintro w' ⟨s0, s1, s2, s3, s4, s5, s6, s7⟩
                            go_simp
                            with_reducible rfl
                          rotate_left
                          · simp only [Act.put, List.setIfInBounds_toArray, List.set_cons_zero, List.set_cons_succ, i64_w, i32_w]
                            rfl
                          refine take_ (i := 9) (N := some 53) (v := ?_) (a' := ?_) #[true, true, true, true, true, true, true, true, true, true, false, false, false, false, false, false, false, false, false, false, false, false, false, false] rfl rfl (take_ofW HT_.out HW_.out (by kernel_rfl)) (fun _ _ _ h => h) (Or.inl ⟨by rfl, ?_⟩) hHeld ?_ ?_
                          rotate_left
                          · rintro w' ⟨s0, s1, s2, s3, s4, s5, s6, s7⟩
                            go_simp
                            with_reducible rfl
                          rotate_left
                          · simp only [Act.put, List.setIfInBounds_toArray, List.set_cons_zero, List.set_cons_succ, i64_w, i32_w]
                            rfl
                          refine pure_ (i := 10) (N := some 54) (v := ?_) (a' := ?_) #[true, true, true, true, true, true, true, true, true, true, true, false, false, false, false, false, false, false, false, false, false, false, false, false] rfl rfl (any_of HT_.out (by kernel_rfl)) (fun _ _ _ h => h) (Or.inl ⟨by rfl, ?_⟩) ?_ ?_
                          rotate_left
                          · intro w'
                            go_simp
                            with_reducible rfl
                          rotate_left
                          · simp only [Act.put, List.setIfInBounds_toArray, List.set_cons_zero, List.set_cons_succ, i64_w, i32_w]
                            rfl
                          refine pure_ (i := 11) (N := some 55) (v := ?_) (a' := ?_) #[true, true, true, true, true, true, true, true, true, true, true, true, false, false, false, false, false, false, false, false, false, false, false, false] rfl rfl (any_of HT_.out (by kernel_rfl)) (fun _ _ _ h => h) (Or.inl ⟨by rfl, ?_⟩) ?_ ?_
                          rotate_left
                          · intro w'
                            go_simp
                            with_reducible rfl
                          rotate_left
                          · simp only [Act.put, List.setIfInBounds_toArray, List.set_cons_zero, List.set_cons_succ, i64_w, i32_w]
                            rfl
                          refine pure_ (i := 12) (N := some 56) (v := ?_) (a' := ?_) #[true, true, true, true, true, true, true, true, true, true, true, true, true, false, false, false, false, false, false, false, false, false, false, false] rfl rfl (any_of HT_.out (by kernel_rfl)) (fun _ _ _ h => h) (Or.inl ⟨by rfl, ?_⟩) ?_ ?_
                          rotate_left
                          · intro w'
                            go_simp
                            with_reducible rfl
                          rotate_left
                          · simp only [Act.put, List.setIfInBounds_toArray, List.set_cons_zero, List.set_cons_succ, i64_w, i32_w]
                            rfl
                          refine pure_ (i := 13) (N := some 57) (v := ?_) (a' := ?_) #[true, true, true, true, true, true, true, true, true, true, true, true, true, true, false, false, false, false, false, false, false, false, false, false] rfl rfl (any_of HT_.out (by kernel_rfl)) (fun _ _ _ h => h) (Or.inl ⟨by rfl, ?_⟩) ?_ ?_
                          rotate_left
                          · intro w'
                            go_simp
                            with_reducible rfl
                          rotate_left
                          · simp only [Act.put, List.setIfInBounds_toArray, List.set_cons_zero, List.set_cons_succ, i64_w, i32_w]
                            rfl
                          refine pure_ (i := 14) (N := some 58) (v := ?_) (a' := ?_) #[true, true, true, true, true, true, true, true, true, true, true, true, true, true, true, false, false, false, false, false, false, false, false, false] rfl rfl (any_of HT_.out (by kernel_rfl)) (fun _ _ _ h => h) (Or.inl ⟨by rfl, ?_⟩) ?_ ?_
                          rotate_left
                          · intro w'
                            go_simp
                            with_reducible rfl
                          rotate_left
                          · simp only [Act.put, List.setIfInBounds_toArray, List.set_cons_zero, List.set_cons_succ, i64_w, i32_w]
                            rfl
                          refine pure_ (i := 15) (N := some 59) (v := ?_) (a' := ?_) #[true, true, true, true, true, true, true, true, true, true, true, true, true, true, true, true, false, false, false, false, false, false, false, false] rfl rfl (any_of HT_.out (by kernel_rfl)) (fun _ _ _ h => h) (Or.inl ⟨by rfl, ?_⟩) ?_ ?_
                          rotate_left
                          · intro w'
                            go_simp
                            with_reducible rfl
                          rotate_left
                          · simp only [Act.put, List.setIfInBounds_toArray, List.set_cons_zero, List.set_cons_succ, i64_w, i32_w]
                            rfl
                          refine pure_ (i := 17) (N := some 61) (v := ?_) (a' := ?_) #[true, true, true, true, true, true, true, true, true, true, true, true, true, true, true, true, false, true, false, false, false, false, false, false] rfl rfl (any_of HT_.out (by kernel_rfl)) (fun _ _ _ h => h) (Or.inl ⟨by rfl, ?_⟩) ?_ ?_
                          rotate_left
                          · intro w'
                            go_simp
                            with_reducible rfl
                          rotate_left
                          · simp only [Act.put, List.setIfInBounds_toArray, List.set_cons_zero, List.set_cons_succ, i64_w, i32_w]
                            rfl
                          refine pure_ (i := 18) (N := some 62) (v := ?_) (a' := ?_) #[true, true, true, true, true, true, true, true, true, true, true, true, true, true, true, true, false, true, true, false, false, false, false, false] rfl rfl (any_of HT_.out (by kernel_rfl)) (fun _ _ _ h => h) (Or.inl ⟨by rfl, ?_⟩) ?_ ?_
                          rotate_left
                          · intro w'
                            go_simp
                            with_reducible rfl
                          rotate_left
                          · simp only [Act.put, List.setIfInBounds_toArray, List.set_cons_zero, List.set_cons_succ, i64_w, i32_w]
                            rfl
                          refine pure_ (i := 19) (N := some 63) (v := ?_) (a' := ?_) #[true, true, true, true, true, true, true, true, true, true, true, true, true, true, true, true, false, true, true, true, false, false, false, false] rfl rfl (any_of HT_.out (by kernel_rfl)) (fun _ _ _ h => h) (Or.inl ⟨by rfl, ?_⟩) ?_ ?_
                          rotate_left
                          · intro w'
                            go_simp
                            with_reducible rfl
                          rotate_left
                          · simp only [Act.put, List.setIfInBounds_toArray, List.set_cons_zero, List.set_cons_succ, i64_w, i32_w]
                            rfl
                          refine pure_ (i := 20) (N := some 64) (v := ?_) (a' := ?_) #[true, true, true, true, true, true, true, true, true, true, true, true, true, true, true, true, false, true, true, true, true, false, false, false] rfl rfl (any_of HT_.out (by kernel_rfl)) (fun _ _ _ h => h) (Or.inl ⟨by rfl, ?_⟩) ?_ ?_
                          rotate_left
                          · intro w'
                            go_simp
                            with_reducible rfl
                          rotate_left
                          · simp only [Act.put, List.setIfInBounds_toArray, List.set_cons_zero, List.set_cons_succ, i64_w, i32_w]
                            rfl
                          refine take_ (i := 16) (N := some 60) (v := ?_) (a' := ?_) #[true, true, true, true, true, true, true, true, true, true, true, true, true, true, true, true, true, true, true, true, true, false, false, false] rfl rfl (take_ofW HT_.out HW_.out (by kernel_rfl)) (fun _ _ _ h => h) (Or.inl ⟨by rfl, ?_⟩) hHeld ?_ ?_
                          rotate_left
                          · rintro w' ⟨s0, s1, s2, s3, s4, s5, s6, s7⟩
                            go_simp
                            with_reducible rfl
                          rotate_left
                          · simp only [Act.put, List.setIfInBounds_toArray, List.set_cons_zero, List.set_cons_succ, i64_w, i32_w]
                            rfl
                          refine take_ (i := 21) (N := some 65) (v := ?_) (a' := ?_) #[true, true, true, true, true, true, true, true, true, true, true, true, true, true, true, true, true, true, true, true, true, true, false, false] rfl rfl (take_ofW HT_.out HW_.out (by kernel_rfl)) (fun _ _ _ h => h) (Or.inl ⟨by rfl, ?_⟩) hHeld ?_ ?_
                          rotate_left
                          · rintro w' ⟨s0, s1, s2, s3, s4, s5, s6, s7⟩
                            go_simp
                            with_reducible rfl
                          rotate_left
                          · simp only [Act.put, List.setIfInBounds_toArray, List.set_cons_zero, List.set_cons_succ, i64_w, i32_w]
                            rfl
                          refine pure_ (i := 22) (N := some 66) (v := ?_) (a' := ?_) #[true, true, true, true, true, true, true, true, true, true, true, true, true, true, true, true, true, true, true, true, true, true, true, false] rfl rfl (any_of HT_.out (by kernel_rfl)) (fun _ _ _ h => h) (Or.inl ⟨by rfl, ?_⟩) ?_ ?_
                          rotate_left
                          · intro w'
                            go_simp
                            with_reducible rfl
                          rotate_left
                          · simp only [Act.put, List.setIfInBounds_toArray, List.set_cons_zero, List.set_cons_succ, i64_w, i32_w]
                            rfl
                          refine pure_ (i := 23) (N := some 67) (v := ?_) (a' := ?_) #[true, true, true, true, true, true, true, true, true, true, true, true, true, true, true, true, true, true, true, true, true, true, true, true] rfl rfl (any_of HT_.out (by kernel_rfl)) (fun _ _ _ h => h) (Or.inl ⟨by rfl, ?_⟩) ?_ ?_
                          rotate_left
                          · intro w'
                            go_simp
                            with_reducible rfl
                          rotate_left
                          · simp only [Act.put, List.setIfInBounds_toArray, List.set_cons_zero, List.set_cons_succ, i64_w, i32_w]
                            rfl
                          refine done_ (done_of HT_.out (by kernel_rfl)) ?_
                          try go_wp2
                          go_roundg k2
                          case measure => have := HJ8.out; have := HK2.out; omega
                          case rel => exact ⟨(wrap64 (x10_2 + 1)), (by first | rfl | (simp; done) | (simp [*]; done)), H', ⟨by have := HJ8.out; have := HK2.out; omega⟩, ⟨by (with_reducible repeat (first | apply Kd.R_alloc | apply Kd.R_drewN | apply Kd.R_drew)); exact HO_6.out⟩, ⟨by (with_reducible repeat (first | apply Kd.R_alloc | apply Kd.R_drewN | apply Kd.R_drew)); exact HO_8.out⟩, ⟨by repeat (first | (with_reducible first | exact HB.out | apply below_alloc | apply pw_below_drewN | apply below_drew1) | exact HB.out)⟩⟩
                        · rw [if_neg c22] at H
                          have c22b0 : (((rd_T28 t329 x10_2).f1) == ((rd_T30 t333 x10_2).f1)) = false := beq_eq_false_iff_ne.mpr c22
                          have c22b1 : (((rd_T28 t329 x10_2).f1) != ((rd_T30 t333 x10_2).f1)) = true := bne_iff_ne.mpr c22
                          obtain rfl := Option.some.inj H
                          obtain ⟨Ao26, co26, eo26⟩ := Kd.R_slice HO_6.out
                          subst eo26
                          try go_wp2
                          have n0_ := Aside0.mk (Kd.R_drew HO_6.out)
                          have n1_ := Aside0.mk (Kd.R_drew HO_8.out)
                          have n2_ := Aside0.mk (below_drew1 HB.out)
                          clear HO_6
                          clear HO_8
                          clear HB
                          have HO_6 := n0_
                          have HO_8 := n1_
                          have HB := n2_
                          clear n0_ n1_ n2_
                          have p337 : 0 ≤ (x10_2 : Int) := of_decide_eq_true (by first | (with_reducible assumption) | assumption)
                          have q337 : x10_2 < (t329.length : Int) := of_decide_eq_true (by first | (with_reducible assumption) | assumption)
                          obtain ⟨ad337, e337, hx337_0, hx337_1⟩ := at_T28 (Kd.R_reads' HO_6.out).2.2 x10_2 p337 q337
                          cases e337
                          replace p337 := eq_true p337
                          replace q337 := eq_true q337
                          obtain ⟨Ao28, co28, eo28⟩ := Kd.R_slice HO_8.out
                          (first | subst eo28 | (injection eo28 with f1_ f2_ f3_; have f4_ := f1_.symm; have f5_ := f3_.symm; clear f1_ f2_ f3_; subst f4_; subst f5_))
                          have p338 : 0 ≤ (x10_2 : Int) := of_decide_eq_true (by first | (with_reducible assumption) | assumption)
                          have q338 : x10_2 < (t333.length : Int) := of_decide_eq_true (by first | (with_reducible assumption) | assumption)
                          obtain ⟨ad338, e338, hx338_0, hx338_1⟩ := at_T30 (Kd.R_reads' HO_8.out).2.2 x10_2 p338 q338
                          cases e338
                          replace p338 := eq_true p338
                          replace q338 := eq_true q338
                          have p339 : 0 ≤ (x10_2 : Int) := of_decide_eq_true (by first | (with_reducible assumption) | assumption)
                          have q339 : x10_2 < (t329.length : Int) := of_decide_eq_true (by first | (with_reducible assumption) | assumption)
                          obtain ⟨ad339, e339, hx339_0, hx339_1⟩ := at_T28 (Kd.R_reads' HO_6.out).2.2 x10_2 p339 q339
                          obtain rfl : ad337 = ad339 := (by injection e339)
                          replace p339 := eq_true p339
                          replace q339 := eq_true q339
                          have p340 : 0 ≤ (x10_2 : Int) := of_decide_eq_true (by first | (with_reducible assumption) | assumption)
                          have q340 : x10_2 < (t333.length : Int) := of_decide_eq_true (by first | (with_reducible assumption) | assumption)
                          obtain ⟨ad340, e340, hx340_0, hx340_1⟩ := at_T30 (Kd.R_reads' HO_8.out).2.2 x10_2 p340 q340
                          obtain rfl : ad338 = ad340 := (by injection e340)
                          replace p340 := eq_true p340
                          replace q340 := eq_true q340
                          refine start_ (n := 24) (S := fun w' => w'.cell? (ad337.add ((x10_2).toNat * 2)) = some (.string ((rd_T28 t329 x10_2).f0)) ∧ w'.cell? ⟨(ad337.add ((x10_2).toNat * 2)).block, (ad337.add ((x10_2).toNat * 2)).off + 1, none⟩ = some (.int .i64 ((rd_T28 t329 x10_2).f1)) ∧ w'.cell? (ad338.add ((x10_2).toNat * 2)) = some (.string ((rd_T30 t333 x10_2).f0)) ∧ w'.cell? ⟨(ad338.add ((x10_2).toNat * 2)).block, (ad338.add ((x10_2).toNat * 2)).off + 1, none⟩ = some (.int .i64 ((rd_T30 t333 x10_2).f1)) ∧ w'.cell? (ad337.add ((x10_2).toNat * 2)) = some (.string ((rd_T28 t329 x10_2).f0)) ∧ w'.cell? ⟨(ad337.add ((x10_2).toNat * 2)).block, (ad337.add ((x10_2).toNat * 2)).off + 1, none⟩ = some (.int .i64 ((rd_T28 t329 x10_2).f1)) ∧ w'.cell? (ad338.add ((x10_2).toNat * 2)) = some (.string ((rd_T30 t333 x10_2).f0)) ∧ w'.cell? ⟨(ad338.add ((x10_2).toNat * 2)).block, (ad338.add ((x10_2).toNat * 2)).off + 1, none⟩ = some (.int .i64 ((rd_T30 t333 x10_2).f1))) (ds := []) #[false, false, false, false, false, false, false, false, false, false, false, false, false, false, false, false, false, false, false, false, false, false, false, false] (by kernel_rfl) rfl rfl ⟨hx337_0, hx337_1, hx338_0, hx338_1, hx339_0, hx339_1, hx340_0, hx340_1⟩ (fun hHeld => ?_); refine with_tabW reliquarylaw22_EntriesLists.tab13 reliquarylaw22_EntriesLists.bits13 (fun HT_ HW_ => ?_)
                          generalize wr.drew = w27 at HO_6 HO_8 HB hx337_0 hx337_1 hx338_0 hx338_1 hx339_0 hx339_1 hx340_0 hx340_1 hHeld ⊢
                          refine pure_ (i := 0) (N := some 44) (v := ?_) (a' := ?_) #[true, false, false, false, false, false, false, false, false, false, false, false, false, false, false, false, false, false, false, false, false, false, false, false] rfl rfl (any_of HT_.out (by kernel_rfl)) (fun _ _ _ h => h) (Or.inl ⟨by rfl, ?_⟩) ?_ ?_
                          rotate_left
                          · intro w'
                            go_simp
                            with_reducible rfl
                          rotate_left
                          · simp only [Act.put, List.setIfInBounds_toArray, List.set_cons_zero, List.set_cons_succ, i64_w, i32_w]
                            rfl
                          refine pure_ (i := 1) (N := some 45) (v := ?_) (a' := ?_) #[true, true, false, false, false, false, false, false, false, false, false, false, false, false, false, false, false, false, false, false, false, false, false, false] rfl rfl (any_of HT_.out (by kernel_rfl)) (fun _ _ _ h => h) (Or.inl ⟨by rfl, ?_⟩) ?_ ?_
                          rotate_left
                          · intro w'
                            go_simp
                            with_reducible rfl
                          rotate_left
                          · simp only [Act.put, List.setIfInBounds_toArray, List.set_cons_zero, List.set_cons_succ, i64_w, i32_w]
                            rfl
                          refine pure_ (i := 2) (N := some 46) (v := ?_) (a' := ?_) #[true, true, true, false, false, false, false, false, false, false, false, false, false, false, false, false, false, false, false, false, false, false, false, false] rfl rfl (any_of HT_.out (by kernel_rfl)) (fun _ _ _ h => h) (Or.inl ⟨by rfl, ?_⟩) ?_ ?_
                          rotate_left
                          · intro w'
                            go_simp
                            with_reducible rfl
                          rotate_left
                          · simp only [Act.put, List.setIfInBounds_toArray, List.set_cons_zero, List.set_cons_succ, i64_w, i32_w]
                            rfl
                          refine pure_ (i := 3) (N := some 47) (v := ?_) (a' := ?_) #[true, true, true, true, false, false, false, false, false, false, false, false, false, false, false, false, false, false, false, false, false, false, false, false] rfl rfl (any_of HT_.out (by kernel_rfl)) (fun _ _ _ h => h) (Or.inl ⟨by rfl, ?_⟩) ?_ ?_
                          rotate_left
                          · intro w'
                            go_simp
                            with_reducible rfl
                          rotate_left
                          · simp only [Act.put, List.setIfInBounds_toArray, List.set_cons_zero, List.set_cons_succ, i64_w, i32_w]
                            rfl
                          refine pure_ (i := 5) (N := some 49) (v := ?_) (a' := ?_) #[true, true, true, true, false, true, false, false, false, false, false, false, false, false, false, false, false, false, false, false, false, false, false, false] rfl rfl (any_of HT_.out (by kernel_rfl)) (fun _ _ _ h => h) (Or.inl ⟨by rfl, ?_⟩) ?_ ?_
                          rotate_left
                          · intro w'
                            go_simp
                            with_reducible rfl
                          rotate_left
                          · simp only [Act.put, List.setIfInBounds_toArray, List.set_cons_zero, List.set_cons_succ, i64_w, i32_w]
                            rfl
                          refine pure_ (i := 6) (N := some 50) (v := ?_) (a' := ?_) #[true, true, true, true, false, true, true, false, false, false, false, false, false, false, false, false, false, false, false, false, false, false, false, false] rfl rfl (any_of HT_.out (by kernel_rfl)) (fun _ _ _ h => h) (Or.inl ⟨by rfl, ?_⟩) ?_ ?_
                          rotate_left
                          · intro w'
                            go_simp
                            with_reducible rfl
                          rotate_left
                          · simp only [Act.put, List.setIfInBounds_toArray, List.set_cons_zero, List.set_cons_succ, i64_w, i32_w]
                            rfl
                          refine pure_ (i := 7) (N := some 51) (v := ?_) (a' := ?_) #[true, true, true, true, false, true, true, true, false, false, false, false, false, false, false, false, false, false, false, false, false, false, false, false] rfl rfl (any_of HT_.out (by kernel_rfl)) (fun _ _ _ h => h) (Or.inl ⟨by rfl, ?_⟩) ?_ ?_
                          rotate_left
                          · intro w'
                            go_simp
                            with_reducible rfl
                          rotate_left
                          · simp only [Act.put, List.setIfInBounds_toArray, List.set_cons_zero, List.set_cons_succ, i64_w, i32_w]
                            rfl
                          refine pure_ (i := 8) (N := some 52) (v := ?_) (a' := ?_) #[true, true, true, true, false, true, true, true, true, false, false, false, false, false, false, false, false, false, false, false, false, false, false, false] rfl rfl (any_of HT_.out (by kernel_rfl)) (fun _ _ _ h => h) (Or.inl ⟨by rfl, ?_⟩) ?_ ?_
                          rotate_left
                          · intro w'
                            go_simp
                            with_reducible rfl
                          rotate_left
                          · simp only [Act.put, List.setIfInBounds_toArray, List.set_cons_zero, List.set_cons_succ, i64_w, i32_w]
                            rfl
                          refine take_ (i := 4) (N := some 48) (v := ?_) (a' := ?_) #[true, true, true, true, true, true, true, true, true, false, false, false, false, false, false, false, false, false, false, false, false, false, false, false] rfl rfl (take_ofW HT_.out HW_.out (by kernel_rfl)) (fun _ _ _ h => h) (Or.inl ⟨by rfl, ?_⟩) hHeld ?_ ?_
                          rotate_left
                          · rintro w' ⟨s0, s1, s2, s3, s4, s5, s6, s7⟩
                            go_simp
                            with_reducible rfl
                          rotate_left
                          · simp only [Act.put, List.setIfInBounds_toArray, List.set_cons_zero, List.set_cons_succ, i64_w, i32_w]
                            rfl
                          refine take_ (i := 9) (N := some 53) (v := ?_) (a' := ?_) #[true, true, true, true, true, true, true, true, true, true, false, false, false, false, false, false, false, false, false, false, false, false, false, false] rfl rfl (take_ofW HT_.out HW_.out (by kernel_rfl)) (fun _ _ _ h => h) (Or.inl ⟨by rfl, ?_⟩) hHeld ?_ ?_
                          rotate_left
                          · rintro w' ⟨s0, s1, s2, s3, s4, s5, s6, s7⟩
                            go_simp
                            with_reducible rfl
                          rotate_left
                          · simp only [Act.put, List.setIfInBounds_toArray, List.set_cons_zero, List.set_cons_succ, i64_w, i32_w]
                            rfl
                          refine pure_ (i := 10) (N := some 54) (v := ?_) (a' := ?_) #[true, true, true, true, true, true, true, true, true, true, true, false, false, false, false, false, false, false, false, false, false, false, false, false] rfl rfl (any_of HT_.out (by kernel_rfl)) (fun _ _ _ h => h) (Or.inl ⟨by rfl, ?_⟩) ?_ ?_
                          rotate_left
                          · intro w'
                            go_simp
                            with_reducible rfl
                          rotate_left
                          · simp only [Act.put, List.setIfInBounds_toArray, List.set_cons_zero, List.set_cons_succ, i64_w, i32_w]
                            rfl
                          refine pure_ (i := 11) (N := some 55) (v := ?_) (a' := ?_) #[true, true, true, true, true, true, true, true, true, true, true, true, false, false, false, false, false, false, false, false, false, false, false, false] rfl rfl (any_of HT_.out (by kernel_rfl)) (fun _ _ _ h => h) (Or.inl ⟨by rfl, ?_⟩) ?_ ?_
                          rotate_left
                          · intro w'
                            go_simp
                            with_reducible rfl
                          rotate_left
                          · simp only [Act.put, List.setIfInBounds_toArray, List.set_cons_zero, List.set_cons_succ, i64_w, i32_w]
                            rfl
                          refine pure_ (i := 12) (N := some 56) (v := ?_) (a' := ?_) #[true, true, true, true, true, true, true, true, true, true, true, true, true, false, false, false, false, false, false, false, false, false, false, false] rfl rfl (any_of HT_.out (by kernel_rfl)) (fun _ _ _ h => h) (Or.inl ⟨by rfl, ?_⟩) ?_ ?_
                          rotate_left
                          · intro w'
                            go_simp
                            with_reducible rfl
                          rotate_left
                          · simp only [Act.put, List.setIfInBounds_toArray, List.set_cons_zero, List.set_cons_succ, i64_w, i32_w]
                            rfl
                          refine pure_ (i := 13) (N := some 57) (v := ?_) (a' := ?_) #[true, true, true, true, true, true, true, true, true, true, true, true, true, true, false, false, false, false, false, false, false, false, false, false] rfl rfl (any_of HT_.out (by kernel_rfl)) (fun _ _ _ h => h) (Or.inl ⟨by rfl, ?_⟩) ?_ ?_
                          rotate_left
                          · intro w'
                            go_simp
                            with_reducible rfl
                          rotate_left
                          · simp only [Act.put, List.setIfInBounds_toArray, List.set_cons_zero, List.set_cons_succ, i64_w, i32_w]
                            rfl
                          refine pure_ (i := 14) (N := some 58) (v := ?_) (a' := ?_) #[true, true, true, true, true, true, true, true, true, true, true, true, true, true, true, false, false, false, false, false, false, false, false, false] rfl rfl (any_of HT_.out (by kernel_rfl)) (fun _ _ _ h => h) (Or.inl ⟨by rfl, ?_⟩) ?_ ?_
                          rotate_left
                          · intro w'
                            go_simp
                            with_reducible rfl
                          rotate_left
                          · simp only [Act.put, List.setIfInBounds_toArray, List.set_cons_zero, List.set_cons_succ, i64_w, i32_w]
                            rfl
                          refine pure_ (i := 15) (N := some 59) (v := ?_) (a' := ?_) #[true, true, true, true, true, true, true, true, true, true, true, true, true, true, true, true, false, false, false, false, false, false, false, false] rfl rfl (any_of HT_.out (by kernel_rfl)) (fun _ _ _ h => h) (Or.inl ⟨by rfl, ?_⟩) ?_ ?_
                          rotate_left
                          · intro w'
                            go_simp
                            with_reducible rfl
                          rotate_left
                          · simp only [Act.put, List.setIfInBounds_toArray, List.set_cons_zero, List.set_cons_succ, i64_w, i32_w]
                            rfl
                          refine pure_ (i := 17) (N := some 61) (v := ?_) (a' := ?_) #[true, true, true, true, true, true, true, true, true, true, true, true, true, true, true, true, false, true, false, false, false, false, false, false] rfl rfl (any_of HT_.out (by kernel_rfl)) (fun _ _ _ h => h) (Or.inl ⟨by rfl, ?_⟩) ?_ ?_
                          rotate_left
                          · intro w'
                            go_simp
                            with_reducible rfl
                          rotate_left
                          · simp only [Act.put, List.setIfInBounds_toArray, List.set_cons_zero, List.set_cons_succ, i64_w, i32_w]
                            rfl
                          refine pure_ (i := 18) (N := some 62) (v := ?_) (a' := ?_) #[true, true, true, true, true, true, true, true, true, true, true, true, true, true, true, true, false, true, true, false, false, false, false, false] rfl rfl (any_of HT_.out (by kernel_rfl)) (fun _ _ _ h => h) (Or.inl ⟨by rfl, ?_⟩) ?_ ?_
                          rotate_left
                          · intro w'
                            go_simp
                            with_reducible rfl
                          rotate_left
                          · simp only [Act.put, List.setIfInBounds_toArray, List.set_cons_zero, List.set_cons_succ, i64_w, i32_w]
                            rfl
                          refine pure_ (i := 19) (N := some 63) (v := ?_) (a' := ?_) #[true, true, true, true, true, true, true, true, true, true, true, true, true, true, true, true, false, true, true, true, false, false, false, false] rfl rfl (any_of HT_.out (by kernel_rfl)) (fun _ _ _ h => h) (Or.inl ⟨by rfl, ?_⟩) ?_ ?_
                          rotate_left
                          · intro w'
                            go_simp
                            with_reducible rfl
                          rotate_left
                          · simp only [Act.put, List.setIfInBounds_toArray, List.set_cons_zero, List.set_cons_succ, i64_w, i32_w]
                            rfl
                          refine pure_ (i := 20) (N := some 64) (v := ?_) (a' := ?_) #[true, true, true, true, true, true, true, true, true, true, true, true, true, true, true, true, false, true, true, true, true, false, false, false] rfl rfl (any_of HT_.out (by kernel_rfl)) (fun _ _ _ h => h) (Or.inl ⟨by rfl, ?_⟩) ?_ ?_
                          rotate_left
                          · intro w'
                            go_simp
                            with_reducible rfl
                          rotate_left
                          · simp only [Act.put, List.setIfInBounds_toArray, List.set_cons_zero, List.set_cons_succ, i64_w, i32_w]
                            rfl
                          refine take_ (i := 16) (N := some 60) (v := ?_) (a' := ?_) #[true, true, true, true, true, true, true, true, true, true, true, true, true, true, true, true, true, true, true, true, true, false, false, false] rfl rfl (take_ofW HT_.out HW_.out (by kernel_rfl)) (fun _ _ _ h => h) (Or.inl ⟨by rfl, ?_⟩) hHeld ?_ ?_
                          rotate_left
                          · rintro w' ⟨s0, s1, s2, s3, s4, s5, s6, s7⟩
                            go_simp
                            with_reducible rfl
                          rotate_left
                          · simp only [Act.put, List.setIfInBounds_toArray, List.set_cons_zero, List.set_cons_succ, i64_w, i32_w]
                            rfl
                          refine take_ (i := 21) (N := some 65) (v := ?_) (a' := ?_) #[true, true, true, true, true, true, true, true, true, true, true, true, true, true, true, true, true, true, true, true, true, true, false, false] rfl rfl (take_ofW HT_.out HW_.out (by kernel_rfl)) (fun _ _ _ h => h) (Or.inl ⟨by rfl, ?_⟩) hHeld ?_ ?_
                          rotate_left
                          · rintro w' ⟨s0, s1, s2, s3, s4, s5, s6, s7⟩
                            go_simp
                            with_reducible rfl
                          rotate_left
                          · simp only [Act.put, List.setIfInBounds_toArray, List.set_cons_zero, List.set_cons_succ, i64_w, i32_w]
                            rfl
                          refine pure_ (i := 22) (N := some 66) (v := ?_) (a' := ?_) #[true, true, true, true, true, true, true, true, true, true, true, true, true, true, true, true, true, true, true, true, true, true, true, false] rfl rfl (any_of HT_.out (by kernel_rfl)) (fun _ _ _ h => h) (Or.inl ⟨by rfl, ?_⟩) ?_ ?_
                          rotate_left
                          · intro w'
                            go_simp
                            with_reducible rfl
                          rotate_left
                          · simp only [Act.put, List.setIfInBounds_toArray, List.set_cons_zero, List.set_cons_succ, i64_w, i32_w]
                            rfl
                          refine pure_ (i := 23) (N := some 67) (v := ?_) (a' := ?_) #[true, true, true, true, true, true, true, true, true, true, true, true, true, true, true, true, true, true, true, true, true, true, true, true] rfl rfl (any_of HT_.out (by kernel_rfl)) (fun _ _ _ h => h) (Or.inl ⟨by rfl, ?_⟩) ?_ ?_
                          rotate_left
                          · intro w'
                            go_simp
                            with_reducible rfl
                          rotate_left
                          · simp only [Act.put, List.setIfInBounds_toArray, List.set_cons_zero, List.set_cons_succ, i64_w, i32_w]
                            rfl
                          refine done_ (done_of HT_.out (by kernel_rfl)) ?_
                          try go_wp2
                          go_ret
                          exact ⟨by first | rfl | (simp [errW_none, errW_some] <;> rfl) | (simp [*, errW_none, errW_some] <;> rfl), by repeat (first | (with_reducible first | exact HB.out | apply below_alloc | apply pw_below_drewN | apply below_drew1) | exact HB.out)⟩
                      · rw [if_neg c21] at H
                        have c21b0 : (((rd_T28 t329 x10_2).f0).toList == ((rd_T30 t333 x10_2).f0).toList) = false := beq_eq_false_iff_ne.mpr c21
                        have c21b1 : (((rd_T28 t329 x10_2).f0).toList != ((rd_T30 t333 x10_2).f0).toList) = true := bne_iff_ne.mpr c21
                        obtain rfl := Option.some.inj H
                        obtain ⟨Ao29, co29, eo29⟩ := Kd.R_slice HO_6.out
                        subst eo29
                        try go_wp2
                        have n0_ := Aside0.mk (Kd.R_drew HO_6.out)
                        have n1_ := Aside0.mk (Kd.R_drew HO_8.out)
                        have n2_ := Aside0.mk (below_drew1 HB.out)
                        clear HO_6
                        clear HO_8
                        clear HB
                        have HO_6 := n0_
                        have HO_8 := n1_
                        have HB := n2_
                        clear n0_ n1_ n2_
                        have p337 : 0 ≤ (x10_2 : Int) := of_decide_eq_true (by first | (with_reducible assumption) | assumption)
                        have q337 : x10_2 < (t329.length : Int) := of_decide_eq_true (by first | (with_reducible assumption) | assumption)
                        obtain ⟨ad337, e337, hx337_0, hx337_1⟩ := at_T28 (Kd.R_reads' HO_6.out).2.2 x10_2 p337 q337
                        cases e337
                        replace p337 := eq_true p337
                        replace q337 := eq_true q337
                        obtain ⟨Ao31, co31, eo31⟩ := Kd.R_slice HO_8.out
                        (first | subst eo31 | (injection eo31 with f1_ f2_ f3_; have f4_ := f1_.symm; have f5_ := f3_.symm; clear f1_ f2_ f3_; subst f4_; subst f5_))
                        have p338 : 0 ≤ (x10_2 : Int) := of_decide_eq_true (by first | (with_reducible assumption) | assumption)
                        have q338 : x10_2 < (t333.length : Int) := of_decide_eq_true (by first | (with_reducible assumption) | assumption)
                        obtain ⟨ad338, e338, hx338_0, hx338_1⟩ := at_T30 (Kd.R_reads' HO_8.out).2.2 x10_2 p338 q338
                        cases e338
                        replace p338 := eq_true p338
                        replace q338 := eq_true q338
                        refine start_ (n := 24) (S := fun w' => w'.cell? (ad337.add ((x10_2).toNat * 2)) = some (.string ((rd_T28 t329 x10_2).f0)) ∧ w'.cell? ⟨(ad337.add ((x10_2).toNat * 2)).block, (ad337.add ((x10_2).toNat * 2)).off + 1, none⟩ = some (.int .i64 ((rd_T28 t329 x10_2).f1)) ∧ w'.cell? (ad338.add ((x10_2).toNat * 2)) = some (.string ((rd_T30 t333 x10_2).f0)) ∧ w'.cell? ⟨(ad338.add ((x10_2).toNat * 2)).block, (ad338.add ((x10_2).toNat * 2)).off + 1, none⟩ = some (.int .i64 ((rd_T30 t333 x10_2).f1))) (ds := []) #[false, false, false, false, false, false, false, false, false, false, false, false, false, false, false, false, false, false, false, false, false, false, false, false] (by kernel_rfl) rfl rfl ⟨hx337_0, hx337_1, hx338_0, hx338_1⟩ (fun hHeld => ?_); refine with_tabW reliquarylaw22_EntriesLists.tab13 reliquarylaw22_EntriesLists.bits13 (fun HT_ HW_ => ?_)
                        generalize wr.drew = w30 at HO_6 HO_8 HB hx337_0 hx337_1 hx338_0 hx338_1 hHeld ⊢
                        refine pure_ (i := 0) (N := some 44) (v := ?_) (a' := ?_) #[true, false, false, false, false, false, false, false, false, false, false, false, false, false, false, false, false, false, false, false, false, false, false, false] rfl rfl (any_of HT_.out (by kernel_rfl)) (fun _ _ _ h => h) (Or.inl ⟨by rfl, ?_⟩) ?_ ?_
                        rotate_left
                        · intro w'
                          go_simp
                          with_reducible rfl
                        rotate_left
                        · simp only [Act.put, List.setIfInBounds_toArray, List.set_cons_zero, List.set_cons_succ, i64_w, i32_w]
                          rfl
                        refine pure_ (i := 1) (N := some 45) (v := ?_) (a' := ?_) #[true, true, false, false, false, false, false, false, false, false, false, false, false, false, false, false, false, false, false, false, false, false, false, false] rfl rfl (any_of HT_.out (by kernel_rfl)) (fun _ _ _ h => h) (Or.inl ⟨by rfl, ?_⟩) ?_ ?_
                        rotate_left
                        · intro w'
                          go_simp
                          with_reducible rfl
                        rotate_left
                        · simp only [Act.put, List.setIfInBounds_toArray, List.set_cons_zero, List.set_cons_succ, i64_w, i32_w]
                          rfl
                        refine pure_ (i := 2) (N := some 46) (v := ?_) (a' := ?_) #[true, true, true, false, false, false, false, false, false, false, false, false, false, false, false, false, false, false, false, false, false, false, false, false] rfl rfl (any_of HT_.out (by kernel_rfl)) (fun _ _ _ h => h) (Or.inl ⟨by rfl, ?_⟩) ?_ ?_
                        rotate_left
                        · intro w'
                          go_simp
                          with_reducible rfl
                        rotate_left
                        · simp only [Act.put, List.setIfInBounds_toArray, List.set_cons_zero, List.set_cons_succ, i64_w, i32_w]
                          rfl
                        refine pure_ (i := 3) (N := some 47) (v := ?_) (a' := ?_) #[true, true, true, true, false, false, false, false, false, false, false, false, false, false, false, false, false, false, false, false, false, false, false, false] rfl rfl (any_of HT_.out (by kernel_rfl)) (fun _ _ _ h => h) (Or.inl ⟨by rfl, ?_⟩) ?_ ?_
                        rotate_left
                        · intro w'
                          go_simp
                          with_reducible rfl
                        rotate_left
                        · simp only [Act.put, List.setIfInBounds_toArray, List.set_cons_zero, List.set_cons_succ, i64_w, i32_w]
                          rfl
                        refine pure_ (i := 5) (N := some 49) (v := ?_) (a' := ?_) #[true, true, true, true, false, true, false, false, false, false, false, false, false, false, false, false, false, false, false, false, false, false, false, false] rfl rfl (any_of HT_.out (by kernel_rfl)) (fun _ _ _ h => h) (Or.inl ⟨by rfl, ?_⟩) ?_ ?_
                        rotate_left
                        · intro w'
                          go_simp
                          with_reducible rfl
                        rotate_left
                        · simp only [Act.put, List.setIfInBounds_toArray, List.set_cons_zero, List.set_cons_succ, i64_w, i32_w]
                          rfl
                        refine pure_ (i := 6) (N := some 50) (v := ?_) (a' := ?_) #[true, true, true, true, false, true, true, false, false, false, false, false, false, false, false, false, false, false, false, false, false, false, false, false] rfl rfl (any_of HT_.out (by kernel_rfl)) (fun _ _ _ h => h) (Or.inl ⟨by rfl, ?_⟩) ?_ ?_
                        rotate_left
                        · intro w'
                          go_simp
                          with_reducible rfl
                        rotate_left
                        · simp only [Act.put, List.setIfInBounds_toArray, List.set_cons_zero, List.set_cons_succ, i64_w, i32_w]
                          rfl
                        refine pure_ (i := 7) (N := some 51) (v := ?_) (a' := ?_) #[true, true, true, true, false, true, true, true, false, false, false, false, false, false, false, false, false, false, false, false, false, false, false, false] rfl rfl (any_of HT_.out (by kernel_rfl)) (fun _ _ _ h => h) (Or.inl ⟨by rfl, ?_⟩) ?_ ?_
                        rotate_left
                        · intro w'
                          go_simp
                          with_reducible rfl
                        rotate_left
                        · simp only [Act.put, List.setIfInBounds_toArray, List.set_cons_zero, List.set_cons_succ, i64_w, i32_w]
                          rfl
                        refine pure_ (i := 8) (N := some 52) (v := ?_) (a' := ?_) #[true, true, true, true, false, true, true, true, true, false, false, false, false, false, false, false, false, false, false, false, false, false, false, false] rfl rfl (any_of HT_.out (by kernel_rfl)) (fun _ _ _ h => h) (Or.inl ⟨by rfl, ?_⟩) ?_ ?_
                        rotate_left
                        · intro w'
                          go_simp
                          with_reducible rfl
                        rotate_left
                        · simp only [Act.put, List.setIfInBounds_toArray, List.set_cons_zero, List.set_cons_succ, i64_w, i32_w]
                          rfl
                        refine take_ (i := 4) (N := some 48) (v := ?_) (a' := ?_) #[true, true, true, true, true, true, true, true, true, false, false, false, false, false, false, false, false, false, false, false, false, false, false, false] rfl rfl (take_ofW HT_.out HW_.out (by kernel_rfl)) (fun _ _ _ h => h) (Or.inl ⟨by rfl, ?_⟩) hHeld ?_ ?_
                        rotate_left
                        · rintro w' ⟨s0, s1, s2, s3⟩
                          go_simp
                          with_reducible rfl
                        rotate_left
                        · simp only [Act.put, List.setIfInBounds_toArray, List.set_cons_zero, List.set_cons_succ, i64_w, i32_w]
                          rfl
                        refine take_ (i := 9) (N := some 53) (v := ?_) (a' := ?_) #[true, true, true, true, true, true, true, true, true, true, false, false, false, false, false, false, false, false, false, false, false, false, false, false] rfl rfl (take_ofW HT_.out HW_.out (by kernel_rfl)) (fun _ _ _ h => h) (Or.inl ⟨by rfl, ?_⟩) hHeld ?_ ?_
                        rotate_left
                        · rintro w' ⟨s0, s1, s2, s3⟩
                          go_simp
                          with_reducible rfl
                        rotate_left
                        · simp only [Act.put, List.setIfInBounds_toArray, List.set_cons_zero, List.set_cons_succ, i64_w, i32_w]
                          rfl
                        refine pure_ (i := 10) (N := some 54) (v := ?_) (a' := ?_) #[true, true, true, true, true, true, true, true, true, true, true, false, false, false, false, false, false, false, false, false, false, false, false, false] rfl rfl (any_of HT_.out (by kernel_rfl)) (fun _ _ _ h => h) (Or.inl ⟨by rfl, ?_⟩) ?_ ?_
                        rotate_left
                        · intro w'
                          go_simp
                          with_reducible rfl
                        rotate_left
                        · simp only [Act.put, List.setIfInBounds_toArray, List.set_cons_zero, List.set_cons_succ, i64_w, i32_w]
                          rfl
                        refine pure_ (i := 11) (N := some 55) (v := ?_) (a' := ?_) #[true, true, true, true, true, true, true, true, true, true, true, true, false, false, false, false, false, false, false, false, false, false, false, false] rfl rfl (any_of HT_.out (by kernel_rfl)) (fun _ _ _ h => h) (Or.inl ⟨by rfl, ?_⟩) ?_ ?_
                        rotate_left
                        · intro w'
                          go_simp
                          with_reducible rfl
                        rotate_left
                        · simp only [Act.put, List.setIfInBounds_toArray, List.set_cons_zero, List.set_cons_succ, i64_w, i32_w]
                          rfl
                        refine pure_ (i := 12) (N := some 56) (v := undef) (a' := ?_) #[true, true, true, true, true, true, true, true, true, true, true, true, true, false, false, false, false, false, false, false, false, false, false, false] rfl rfl (any_of HT_.out (by kernel_rfl)) (fun _ _ _ h => h) (Or.inr ⟨by rfl, rfl⟩) ?_ ?_
                        rotate_left
                        · simp only [Act.put, List.setIfInBounds_toArray, List.set_cons_zero, List.set_cons_succ, i64_w, i32_w]
                          rfl
                        refine pure_ (i := 13) (N := some 57) (v := undef) (a' := ?_) #[true, true, true, true, true, true, true, true, true, true, true, true, true, true, false, false, false, false, false, false, false, false, false, false] rfl rfl (any_of HT_.out (by kernel_rfl)) (fun _ _ _ h => h) (Or.inr ⟨by rfl, rfl⟩) ?_ ?_
                        rotate_left
                        · simp only [Act.put, List.setIfInBounds_toArray, List.set_cons_zero, List.set_cons_succ, i64_w, i32_w]
                          rfl
                        refine pure_ (i := 14) (N := some 58) (v := undef) (a' := ?_) #[true, true, true, true, true, true, true, true, true, true, true, true, true, true, true, false, false, false, false, false, false, false, false, false] rfl rfl (any_of HT_.out (by kernel_rfl)) (fun _ _ _ h => h) (Or.inr ⟨by rfl, rfl⟩) ?_ ?_
                        rotate_left
                        · simp only [Act.put, List.setIfInBounds_toArray, List.set_cons_zero, List.set_cons_succ, i64_w, i32_w]
                          rfl
                        refine pure_ (i := 15) (N := some 59) (v := undef) (a' := ?_) #[true, true, true, true, true, true, true, true, true, true, true, true, true, true, true, true, false, false, false, false, false, false, false, false] rfl rfl (any_of HT_.out (by kernel_rfl)) (fun _ _ _ h => h) (Or.inr ⟨by rfl, rfl⟩) ?_ ?_
                        rotate_left
                        · simp only [Act.put, List.setIfInBounds_toArray, List.set_cons_zero, List.set_cons_succ, i64_w, i32_w]
                          rfl
                        refine pure_ (i := 16) (N := some 60) (v := undef) (a' := ?_) #[true, true, true, true, true, true, true, true, true, true, true, true, true, true, true, true, true, false, false, false, false, false, false, false] rfl rfl (any_of HT_.out (by kernel_rfl)) (fun _ _ _ h => h) (Or.inr ⟨by rfl, rfl⟩) ?_ ?_
                        rotate_left
                        · simp only [Act.put, List.setIfInBounds_toArray, List.set_cons_zero, List.set_cons_succ, i64_w, i32_w]
                          rfl
                        refine pure_ (i := 17) (N := some 61) (v := undef) (a' := ?_) #[true, true, true, true, true, true, true, true, true, true, true, true, true, true, true, true, true, true, false, false, false, false, false, false] rfl rfl (any_of HT_.out (by kernel_rfl)) (fun _ _ _ h => h) (Or.inr ⟨by rfl, rfl⟩) ?_ ?_
                        rotate_left
                        · simp only [Act.put, List.setIfInBounds_toArray, List.set_cons_zero, List.set_cons_succ, i64_w, i32_w]
                          rfl
                        refine pure_ (i := 18) (N := some 62) (v := undef) (a' := ?_) #[true, true, true, true, true, true, true, true, true, true, true, true, true, true, true, true, true, true, true, false, false, false, false, false] rfl rfl (any_of HT_.out (by kernel_rfl)) (fun _ _ _ h => h) (Or.inr ⟨by rfl, rfl⟩) ?_ ?_
                        rotate_left
                        · simp only [Act.put, List.setIfInBounds_toArray, List.set_cons_zero, List.set_cons_succ, i64_w, i32_w]
                          rfl
                        refine pure_ (i := 19) (N := some 63) (v := undef) (a' := ?_) #[true, true, true, true, true, true, true, true, true, true, true, true, true, true, true, true, true, true, true, true, false, false, false, false] rfl rfl (any_of HT_.out (by kernel_rfl)) (fun _ _ _ h => h) (Or.inr ⟨by rfl, rfl⟩) ?_ ?_
                        rotate_left
                        · simp only [Act.put, List.setIfInBounds_toArray, List.set_cons_zero, List.set_cons_succ, i64_w, i32_w]
                          rfl
                        refine pure_ (i := 20) (N := some 64) (v := undef) (a' := ?_) #[true, true, true, true, true, true, true, true, true, true, true, true, true, true, true, true, true, true, true, true, true, false, false, false] rfl rfl (any_of HT_.out (by kernel_rfl)) (fun _ _ _ h => h) (Or.inr ⟨by rfl, rfl⟩) ?_ ?_
                        rotate_left
                        · simp only [Act.put, List.setIfInBounds_toArray, List.set_cons_zero, List.set_cons_succ, i64_w, i32_w]
                          rfl
                        refine pure_ (i := 21) (N := some 65) (v := undef) (a' := ?_) #[true, true, true, true, true, true, true, true, true, true, true, true, true, true, true, true, true, true, true, true, true, true, false, false] rfl rfl (any_of HT_.out (by kernel_rfl)) (fun _ _ _ h => h) (Or.inr ⟨by rfl, rfl⟩) ?_ ?_
                        rotate_left
                        · simp only [Act.put, List.setIfInBounds_toArray, List.set_cons_zero, List.set_cons_succ, i64_w, i32_w]
                          rfl
                        refine pure_ (i := 22) (N := some 66) (v := undef) (a' := ?_) #[true, true, true, true, true, true, true, true, true, true, true, true, true, true, true, true, true, true, true, true, true, true, true, false] rfl rfl (any_of HT_.out (by kernel_rfl)) (fun _ _ _ h => h) (Or.inr ⟨by rfl, rfl⟩) ?_ ?_
                        rotate_left
                        · simp only [Act.put, List.setIfInBounds_toArray, List.set_cons_zero, List.set_cons_succ, i64_w, i32_w]
                          rfl
                        refine pure_ (i := 23) (N := some 67) (v := ?_) (a' := ?_) #[true, true, true, true, true, true, true, true, true, true, true, true, true, true, true, true, true, true, true, true, true, true, true, true] rfl rfl (any_of HT_.out (by kernel_rfl)) (fun _ _ _ h => h) (Or.inl ⟨by rfl, ?_⟩) ?_ ?_
                        rotate_left
                        · intro w'
                          go_simp
                          with_reducible rfl
                        rotate_left
                        · simp only [Act.put, List.setIfInBounds_toArray, List.set_cons_zero, List.set_cons_succ, i64_w, i32_w]
                          rfl
                        refine done_ (done_of HT_.out (by kernel_rfl)) ?_
                        try go_wp2
                        go_ret
                        exact ⟨by first | rfl | (simp [errW_none, errW_some] <;> rfl) | (simp [*, errW_none, errW_some] <;> rfl), by repeat (first | (with_reducible first | exact HB.out | apply below_alloc | apply pw_below_drewN | apply below_drew1) | exact HB.out)⟩
                    · rw [if_neg c20] at H
                      exact absurd H (by simp)
                  · rw [if_neg c19] at H
                    exact absurd H (by simp)
                · rw [if_neg c18] at H
                  have c18b0 : decide (x10_2 < (t329.length : Int)) = false := decide_eq_false c18
                  clear c18
                  by_cases c32 : a1 = 0
                  · rw [if_pos c32] at H
                    have c32b0 : (a1 == 0) = true := beq_iff_eq.mpr c32
                    have c32b1 : (a1 != 0) = false := bne_eq_false_iff_eq.mpr c32
                    clear c32
                    obtain rfl := Option.some.inj H
                    obtain ⟨Ao33, co33, eo33⟩ := Kd.R_slice HO_6.out
                    subst eo33
                    try go_wp2
                    have n0_ := Aside0.mk (Kd.R_drew HO_6.out)
                    have n1_ := Aside0.mk (Kd.R_drew HO_8.out)
                    have n2_ := Aside0.mk (below_drew1 HB.out)
                    clear HO_6
                    clear HO_8
                    clear HB
                    have HO_6 := n0_
                    have HO_8 := n1_
                    have HB := n2_
                    clear n0_ n1_ n2_
                    refine start_ (n := 14) (S := fun w' => True) (ds := []) #[false, false, false, false, false, false, false, false, false, false, false, false, false, false] (by kernel_rfl) rfl rfl trivial (fun hHeld => ?_); refine with_tabW reliquarylaw22_EntriesLists.tab15 reliquarylaw22_EntriesLists.bits15 (fun HT_ HW_ => ?_)
                    generalize wr.drew = w34 at HO_6 HO_8 HB hHeld ⊢
                    refine pure_ (i := 0) (N := some 68) (v := ?_) (a' := ?_) #[true, false, false, false, false, false, false, false, false, false, false, false, false, false] rfl rfl (any_of HT_.out (by kernel_rfl)) (fun _ _ _ h => h) (Or.inl ⟨by rfl, ?_⟩) ?_ ?_
                    rotate_left
                    · intro w'
                      go_simp
                      with_reducible rfl
                    rotate_left
                    · simp only [Act.put, List.setIfInBounds_toArray, List.set_cons_zero, List.set_cons_succ, i64_w, i32_w]
                      rfl
                    refine pure_ (i := 1) (N := some 69) (v := ?_) (a' := ?_) #[true, true, false, false, false, false, false, false, false, false, false, false, false, false] rfl rfl (any_of HT_.out (by kernel_rfl)) (fun _ _ _ h => h) (Or.inl ⟨by rfl, ?_⟩) ?_ ?_
                    rotate_left
                    · intro w'
                      go_simp
                      with_reducible rfl
                    rotate_left
                    · simp only [Act.put, List.setIfInBounds_toArray, List.set_cons_zero, List.set_cons_succ, i64_w, i32_w]
                      rfl
                    refine pure_ (i := 2) (N := some 70) (v := ?_) (a' := ?_) #[true, true, true, false, false, false, false, false, false, false, false, false, false, false] rfl rfl (any_of HT_.out (by kernel_rfl)) (fun _ _ _ h => h) (Or.inl ⟨by rfl, ?_⟩) ?_ ?_
                    rotate_left
                    · intro w'
                      go_simp
                      with_reducible rfl
                    rotate_left
                    · simp only [Act.put, List.setIfInBounds_toArray, List.set_cons_zero, List.set_cons_succ, i64_w, i32_w]
                      rfl
                    refine pure_ (i := 3) (N := some 71) (v := undef) (a' := ?_) #[true, true, true, true, false, false, false, false, false, false, false, false, false, false] rfl rfl (any_of HT_.out (by kernel_rfl)) (fun _ _ _ h => h) (Or.inr ⟨by rfl, rfl⟩) ?_ ?_
                    rotate_left
                    · simp only [Act.put, List.setIfInBounds_toArray, List.set_cons_zero, List.set_cons_succ, i64_w, i32_w]
                      rfl
                    refine pure_ (i := 4) (N := some 72) (v := undef) (a' := ?_) #[true, true, true, true, true, false, false, false, false, false, false, false, false, false] rfl rfl (any_of HT_.out (by kernel_rfl)) (fun _ _ _ h => h) (Or.inr ⟨by rfl, rfl⟩) ?_ ?_
                    rotate_left
                    · simp only [Act.put, List.setIfInBounds_toArray, List.set_cons_zero, List.set_cons_succ, i64_w, i32_w]
                      rfl
                    refine pure_ (i := 5) (N := some 73) (v := undef) (a' := ?_) #[true, true, true, true, true, true, false, false, false, false, false, false, false, false] rfl rfl (any_of HT_.out (by kernel_rfl)) (fun _ _ _ h => h) (Or.inr ⟨by rfl, rfl⟩) ?_ ?_
                    rotate_left
                    · simp only [Act.put, List.setIfInBounds_toArray, List.set_cons_zero, List.set_cons_succ, i64_w, i32_w]
                      rfl
                    refine pure_ (i := 6) (N := some 74) (v := undef) (a' := ?_) #[true, true, true, true, true, true, true, false, false, false, false, false, false, false] rfl rfl (any_of HT_.out (by kernel_rfl)) (fun _ _ _ h => h) (Or.inr ⟨by rfl, rfl⟩) ?_ ?_
                    rotate_left
                    · simp only [Act.put, List.setIfInBounds_toArray, List.set_cons_zero, List.set_cons_succ, i64_w, i32_w]
                      rfl
                    refine pure_ (i := 7) (N := some 75) (v := undef) (a' := ?_) #[true, true, true, true, true, true, true, true, false, false, false, false, false, false] rfl rfl (any_of HT_.out (by kernel_rfl)) (fun _ _ _ h => h) (Or.inr ⟨by rfl, rfl⟩) ?_ ?_
                    rotate_left
                    · simp only [Act.put, List.setIfInBounds_toArray, List.set_cons_zero, List.set_cons_succ, i64_w, i32_w]
                      rfl
                    refine pure_ (i := 8) (N := some 76) (v := undef) (a' := ?_) #[true, true, true, true, true, true, true, true, true, false, false, false, false, false] rfl rfl (any_of HT_.out (by kernel_rfl)) (fun _ _ _ h => h) (Or.inr ⟨by rfl, rfl⟩) ?_ ?_
                    rotate_left
                    · simp only [Act.put, List.setIfInBounds_toArray, List.set_cons_zero, List.set_cons_succ, i64_w, i32_w]
                      rfl
                    refine pure_ (i := 9) (N := some 77) (v := undef) (a' := ?_) #[true, true, true, true, true, true, true, true, true, true, false, false, false, false] rfl rfl (any_of HT_.out (by kernel_rfl)) (fun _ _ _ h => h) (Or.inr ⟨by rfl, rfl⟩) ?_ ?_
                    rotate_left
                    · simp only [Act.put, List.setIfInBounds_toArray, List.set_cons_zero, List.set_cons_succ, i64_w, i32_w]
                      rfl
                    refine pure_ (i := 10) (N := some 78) (v := undef) (a' := ?_) #[true, true, true, true, true, true, true, true, true, true, true, false, false, false] rfl rfl (any_of HT_.out (by kernel_rfl)) (fun _ _ _ h => h) (Or.inr ⟨by rfl, rfl⟩) ?_ ?_
                    rotate_left
                    · simp only [Act.put, List.setIfInBounds_toArray, List.set_cons_zero, List.set_cons_succ, i64_w, i32_w]
                      rfl
                    refine pure_ (i := 11) (N := some 79) (v := undef) (a' := ?_) #[true, true, true, true, true, true, true, true, true, true, true, true, false, false] rfl rfl (any_of HT_.out (by kernel_rfl)) (fun _ _ _ h => h) (Or.inr ⟨by rfl, rfl⟩) ?_ ?_
                    rotate_left
                    · simp only [Act.put, List.setIfInBounds_toArray, List.set_cons_zero, List.set_cons_succ, i64_w, i32_w]
                      rfl
                    refine pure_ (i := 12) (N := some 80) (v := ?_) (a' := ?_) #[true, true, true, true, true, true, true, true, true, true, true, true, true, false] rfl rfl (any_of HT_.out (by kernel_rfl)) (fun _ _ _ h => h) (Or.inl ⟨by rfl, ?_⟩) ?_ ?_
                    rotate_left
                    · intro w'
                      go_simp
                      with_reducible rfl
                    rotate_left
                    · simp only [Act.put, List.setIfInBounds_toArray, List.set_cons_zero, List.set_cons_succ, i64_w, i32_w]
                      rfl
                    refine pure_ (i := 13) (N := some 4) (v := ?_) (a' := ?_) #[true, true, true, true, true, true, true, true, true, true, true, true, true, true] rfl rfl (any_of HT_.out (by kernel_rfl)) (fun _ _ _ h => h) (Or.inl ⟨by rfl, ?_⟩) ?_ ?_
                    rotate_left
                    · intro w'
                      go_simp
                      with_reducible rfl
                    rotate_left
                    · simp only [Act.put, List.setIfInBounds_toArray, List.set_cons_zero, List.set_cons_succ, i64_w, i32_w]
                      rfl
                    refine done_ (done_of HT_.out (by kernel_rfl)) ?_
                    try go_wp2
                    go_ret
                    exact ⟨by first | rfl | (simp [errW_none, errW_some] <;> rfl) | (simp [*, errW_none, errW_some] <;> rfl), by repeat (first | (with_reducible first | exact HB.out | apply below_alloc | apply pw_below_drewN | apply below_drew1) | exact HB.out)⟩
                  · rw [if_neg c32] at H
                    have c32b0 : (a1 == 0) = false := beq_eq_false_iff_ne.mpr c32
                    have c32b1 : (a1 != 0) = true := bne_iff_ne.mpr c32
                    replace H := Option.bind_eq_some_iff.mp H
                    obtain ⟨t341, A350, H⟩ := H
                    replace H : ((reliquaryref22_Piece.f k2 (⟨#[46, 46]⟩ : ByteArray) (wrap64 (a1))).bind fun t344 => (some ((strOfNums t341).toList == t344.toList))) = some r := H
                    have A35 := Aside0.mk A350
                    clear A350
                    replace H := Option.bind_eq_some_iff.mp H
                    obtain ⟨t344, A360, H⟩ := H
                    replace H : (some ((strOfNums t341).toList == t344.toList)) = some r := H
                    have A36 := Aside0.mk A360
                    clear A360
                    obtain rfl := Option.some.inj H
                    obtain ⟨Ao37, co37, eo37⟩ := Kd.R_slice HO_6.out
                    subst eo37
                    try go_wp2
                    have n0_ := Aside0.mk (Kd.R_drew HO_6.out)
                    have n1_ := Aside0.mk (Kd.R_drew HO_8.out)
                    have n2_ := Aside0.mk (below_drew1 HB.out)
                    clear HO_6
                    clear HO_8
                    clear HB
                    have HO_6 := n0_
                    have HO_8 := n1_
                    have HB := n2_
                    clear n0_ n1_ n2_
                    refine start_ (n := 14) (S := fun w' => True) (ds := []) #[false, false, false, false, false, false, false, false, false, false, false, false, false, false] (by kernel_rfl) rfl rfl trivial (fun hHeld => ?_); refine with_tabW reliquarylaw22_EntriesLists.tab15 reliquarylaw22_EntriesLists.bits15 (fun HT_ HW_ => ?_)
                    generalize wr.drew = w38 at HO_6 HO_8 HB hHeld ⊢
                    refine pure_ (i := 0) (N := some 68) (v := ?_) (a' := ?_) #[true, false, false, false, false, false, false, false, false, false, false, false, false, false] rfl rfl (any_of HT_.out (by kernel_rfl)) (fun _ _ _ h => h) (Or.inl ⟨by rfl, ?_⟩) ?_ ?_
                    rotate_left
                    · intro w'
                      go_simp
                      with_reducible rfl
                    rotate_left
                    · simp only [Act.put, List.setIfInBounds_toArray, List.set_cons_zero, List.set_cons_succ, i64_w, i32_w]
                      rfl
                    refine pure_ (i := 1) (N := some 69) (v := ?_) (a' := ?_) #[true, true, false, false, false, false, false, false, false, false, false, false, false, false] rfl rfl (any_of HT_.out (by kernel_rfl)) (fun _ _ _ h => h) (Or.inl ⟨by rfl, ?_⟩) ?_ ?_
                    rotate_left
                    · intro w'
                      go_simp
                      with_reducible rfl
                    rotate_left
                    · simp only [Act.put, List.setIfInBounds_toArray, List.set_cons_zero, List.set_cons_succ, i64_w, i32_w]
                      rfl
                    refine pure_ (i := 2) (N := some 70) (v := ?_) (a' := ?_) #[true, true, true, false, false, false, false, false, false, false, false, false, false, false] rfl rfl (any_of HT_.out (by kernel_rfl)) (fun _ _ _ h => h) (Or.inl ⟨by rfl, ?_⟩) ?_ ?_
                    rotate_left
                    · intro w'
                      go_simp
                      with_reducible rfl
                    rotate_left
                    · simp only [Act.put, List.setIfInBounds_toArray, List.set_cons_zero, List.set_cons_succ, i64_w, i32_w]
                      rfl
                    refine pure_ (i := 3) (N := some 71) (v := ?_) (a' := ?_) #[true, true, true, true, false, false, false, false, false, false, false, false, false, false] rfl rfl (any_of HT_.out (by kernel_rfl)) (fun _ _ _ h => h) (Or.inl ⟨by rfl, ?_⟩) ?_ ?_
                    rotate_left
                    · intro w'
                      go_simp
                      with_reducible rfl
                    rotate_left
                    · simp only [Act.put, List.setIfInBounds_toArray, List.set_cons_zero, List.set_cons_succ, i64_w, i32_w]
                      rfl
                    refine pure_ (i := 4) (N := some 72) (v := ?_) (a' := ?_) #[true, true, true, true, true, false, false, false, false, false, false, false, false, false] rfl rfl (any_of HT_.out (by kernel_rfl)) (fun _ _ _ h => h) (Or.inl ⟨by rfl, ?_⟩) ?_ ?_
                    rotate_left
                    · intro w'
                      go_simp
                      with_reducible rfl
                    rotate_left
                    · simp only [Act.put, List.setIfInBounds_toArray, List.set_cons_zero, List.set_cons_succ, i64_w, i32_w]
                      rfl
                    refine pure_ (i := 7) (N := some 75) (v := ?_) (a' := ?_) #[true, true, true, true, true, false, false, true, false, false, false, false, false, false] rfl rfl (any_of HT_.out (by kernel_rfl)) (fun _ _ _ h => h) (Or.inl ⟨by rfl, ?_⟩) ?_ ?_
                    rotate_left
                    · intro w'
                      go_simp
                      with_reducible rfl
                    rotate_left
                    · simp only [Act.put, List.setIfInBounds_toArray, List.set_cons_zero, List.set_cons_succ, i64_w, i32_w]
                      rfl
                    refine pure_ (i := 8) (N := some 76) (v := ?_) (a' := ?_) #[true, true, true, true, true, false, false, true, true, false, false, false, false, false] rfl rfl (any_of HT_.out (by kernel_rfl)) (fun _ _ _ h => h) (Or.inl ⟨by rfl, ?_⟩) ?_ ?_
                    rotate_left
                    · intro w'
                      go_simp
                      with_reducible rfl
                    rotate_left
                    · simp only [Act.put, List.setIfInBounds_toArray, List.set_cons_zero, List.set_cons_succ, i64_w, i32_w]
                      rfl
                    refine pure_ (i := 9) (N := some 77) (v := ?_) (a' := ?_) #[true, true, true, true, true, false, false, true, true, true, false, false, false, false] rfl rfl (any_of HT_.out (by kernel_rfl)) (fun _ _ _ h => h) (Or.inl ⟨by rfl, ?_⟩) ?_ ?_
                    rotate_left
                    · intro w'
                      go_simp
                      with_reducible rfl
                    rotate_left
                    · simp only [Act.put, List.setIfInBounds_toArray, List.set_cons_zero, List.set_cons_succ, i64_w, i32_w]
                      rfl
                    refine one_ (i := 5) (N := some 73) #[true, true, true, true, true, true, false, true, true, true, false, false, false, false] rfl rfl (one_of HT_.out (by kernel_rfl)) (by decide) (fun K hK => ?_)
                    refine goes_ Try.func22 (by kernel_rfl) rfl #[.int .i64 (wrap64 (a1))] (by rfl) rfl rfl (by (try simp only [List.map_toArray, List.map_cons, List.map_nil]); first | done | rfl | (simp only [List.length_drop, List.length_take]; rfl)) ?_
                    with_reducible refine (entries_New.calls (wrap64 (a1)) t341 _ A35.out).mono ?_
                    rintro e w39 ⟨v342, rfl, ho0, hb⟩
                    refine ⟨_, rfl, ?_⟩
                    have n0_ := Aside0.mk (Kd.R_below (by (with_reducible repeat (first | apply Kd.R_alloc | apply Kd.R_drewN | apply Kd.R_drew)); exact HO_6.out) hb)
                    have n1_ := Aside0.mk (Kd.R_below (by (with_reducible repeat (first | apply Kd.R_alloc | apply Kd.R_drewN | apply Kd.R_drew)); exact HO_8.out) hb)
                    have n2_ := Aside0.mk (Kd.R_lower ho0 (below_size (by repeat (first | (with_reducible first | exact HB.out | apply below_alloc | apply pw_below_drewN | apply below_drew1) | exact HB.out))))
                    have n3_ := Aside0.mk (below_step (by repeat (first | (with_reducible first | exact HB.out | apply below_alloc | apply pw_below_drewN | apply below_drew1) | exact HB.out)) hb)
                    clear HO_6
                    clear HO_8
                    clear HB
                    have HO_6 := n0_
                    have HO_8 := n1_
                    have HO343 := n2_
                    have HB := n3_
                    clear n0_ n1_ n2_ n3_
                    (try clear hb)
                    (try clear hb2)
                    (try clear hk)
                    (try clear hi)
                    (try clear ho0)
                    refine hK.out _ _ trivial (fun hHeld => ?_)
                    clear hK K
                    refine norm_ (a' := ?_) ?_ ?_
                    rotate_left
                    · show Act.put _ (some 73) _ = _
                      simp only [Act.put, List.setIfInBounds_toArray, List.set_cons_zero, List.set_cons_succ, i64_w, i32_w]
                      rfl
                    refine join_ (σ := Unit) 3 #[true, true, true, true, true, true, true, true, true, true, true, false, false, false] (fun s_ => [(74, .string (strOfNums t341)), (78, .string t344)]) (fun s_ w' => (Kd.R (Kd.int .u8) 5 w' w.heap.size (fun _ => True) v342 t341) ∧ (Kd.R k28 28 w' w.heap.size (fun _ => True) (.slice Ao37 t329.length co37) t329) ∧ (Kd.R k30 30 w' w.heap.size (fun _ => True) v335 t333) ∧ (Below w.heap.size w w')) ?_ ?_
                    rotate_left
                    · intro hCont
                      refine two_ (i := 6) (j := 10) (Ni := some 74) (Nj := some 78) #[true, true, true, true, true, true, true, true, true, true, false, false, false, false] #[true, true, true, true, true, true, false, true, true, true, true, false, false, false] rfl rfl rfl rfl (two_of HT_.out (by kernel_rfl)) (by decide) (by decide) (fun K hK => ?_) (fun K hK => ?_)
                      · skip
                        have hcv40 := own_string (P := Try.prog) Try.underlying23 Try.underlying5 Try.underlying9 (Kd.own_of_R HO343.out)
                        refine value_ (w1 := ?_) (v := ?_) (by rfl) rfl ?_ ?_
                        rotate_left 2
                        · go_simp
                          constructor
                          · rfl
                          · rfl
                        clear hcv40
                        refine hK.out _ _ trivial (fun hHeld => ?_)
                        clear hK K
                        refine norm_ (a' := ?_) ?_ ?_
                        rotate_left
                        · show Act.put _ (some 74) _ = _
                          simp only [Act.put, List.setIfInBounds_toArray, List.set_cons_zero, List.set_cons_succ, i64_w, i32_w]
                          rfl
                        refine one_ (i := 10) (N := some 78) #[true, true, true, true, true, true, true, true, true, true, true, false, false, false] rfl rfl (one_of HT_.out (by kernel_rfl)) (by decide) (fun K hK => ?_)
                        refine goes_ Try.func23 (by kernel_rfl) rfl #[.agg #[.string (⟨#[46, 46]⟩ : ByteArray), .int .i64 (wrap64 (a1))]] (by rfl) rfl rfl (by (try simp only [List.map_toArray, List.map_cons, List.map_nil]); first | done | rfl | (simp only [List.length_drop, List.length_take]; rfl)) ?_
                        with_reducible refine (reliquaryref22_Piece.calls k2 (⟨#[46, 46]⟩ : ByteArray) (wrap64 (a1)) t344 _ A36.out).mono ?_
                        rintro e w41 ⟨rfl, hb⟩
                        refine ⟨_, rfl, ?_⟩
                        have n0_ := Aside0.mk (Kd.R_below (by (with_reducible repeat (first | apply Kd.R_alloc | apply Kd.R_drewN | apply Kd.R_drew)); exact HO_6.out) hb)
                        have n1_ := Aside0.mk (Kd.R_below (by (with_reducible repeat (first | apply Kd.R_alloc | apply Kd.R_drewN | apply Kd.R_drew)); exact HO_8.out) hb)
                        have n2_ := Aside0.mk (Kd.R_below (by (with_reducible repeat (first | apply Kd.R_alloc | apply Kd.R_drewN | apply Kd.R_drew)); exact HO343.out) hb)
                        have n3_ := Aside0.mk (below_step (by repeat (first | (with_reducible first | exact HB.out | apply below_alloc | apply pw_below_drewN | apply below_drew1) | exact HB.out)) hb)
                        clear HO_6
                        clear HO_8
                        clear HO343
                        clear HB
                        have HO_6 := n0_
                        have HO_8 := n1_
                        have HO343 := n2_
                        have HB := n3_
                        clear n0_ n1_ n2_ n3_
                        (try clear hb)
                        (try clear hb2)
                        (try clear hk)
                        (try clear hi)
                        refine hK.out _ _ trivial (fun hHeld => ?_)
                        clear hK K
                        refine norm_ (a' := ?_) ?_ ?_
                        rotate_left
                        · show Act.put _ (some 78) _ = _
                          simp only [Act.put, List.setIfInBounds_toArray, List.set_cons_zero, List.set_cons_succ, i64_w, i32_w]
                          rfl
                        exact norm_ (by simp only [putAll, Act.put, List.setIfInBounds_toArray, List.set_cons_zero, List.set_cons_succ]) (hCont () _ ⟨(by (with_reducible repeat (first | apply Kd.R_alloc | apply Kd.R_drewN | apply Kd.R_drew)); exact HO343.out), (by (with_reducible repeat (first | apply Kd.R_alloc | apply Kd.R_drewN | apply Kd.R_drew)); exact HO_6.out), (by (with_reducible repeat (first | apply Kd.R_alloc | apply Kd.R_drewN | apply Kd.R_drew)); exact HO_8.out), (by repeat (first | (with_reducible first | exact HB.out | apply below_alloc | apply pw_below_drewN | apply below_drew1) | exact HB.out))⟩)
                      · skip
                        refine goes_ Try.func23 (by kernel_rfl) rfl #[.agg #[.string (⟨#[46, 46]⟩ : ByteArray), .int .i64 (wrap64 (a1))]] (by rfl) rfl rfl (by (try simp only [List.map_toArray, List.map_cons, List.map_nil]); first | done | rfl | (simp only [List.length_drop, List.length_take]; rfl)) ?_
                        with_reducible refine (reliquaryref22_Piece.calls k2 (⟨#[46, 46]⟩ : ByteArray) (wrap64 (a1)) t344 _ A36.out).mono ?_
                        rintro e w40 ⟨rfl, hb⟩
                        refine ⟨_, rfl, ?_⟩
                        have n0_ := Aside0.mk (Kd.R_below (by (with_reducible repeat (first | apply Kd.R_alloc | apply Kd.R_drewN | apply Kd.R_drew)); exact HO_6.out) hb)
                        have n1_ := Aside0.mk (Kd.R_below (by (with_reducible repeat (first | apply Kd.R_alloc | apply Kd.R_drewN | apply Kd.R_drew)); exact HO_8.out) hb)
                        have n2_ := Aside0.mk (Kd.R_below (by (with_reducible repeat (first | apply Kd.R_alloc | apply Kd.R_drewN | apply Kd.R_drew)); exact HO343.out) hb)
                        have n3_ := Aside0.mk (below_step (by repeat (first | (with_reducible first | exact HB.out | apply below_alloc | apply pw_below_drewN | apply below_drew1) | exact HB.out)) hb)
                        clear HO_6
                        clear HO_8
                        clear HO343
                        clear HB
                        have HO_6 := n0_
                        have HO_8 := n1_
                        have HO343 := n2_
                        have HB := n3_
                        clear n0_ n1_ n2_ n3_
                        (try clear hb)
                        (try clear hb2)
                        (try clear hk)
                        (try clear hi)
                        refine hK.out _ _ trivial (fun hHeld => ?_)
                        clear hK K
                        refine norm_ (a' := ?_) ?_ ?_
                        rotate_left
                        · show Act.put _ (some 78) _ = _
                          simp only [Act.put, List.setIfInBounds_toArray, List.set_cons_zero, List.set_cons_succ, i64_w, i32_w]
                          rfl
                        refine one_ (i := 6) (N := some 74) #[true, true, true, true, true, true, true, true, true, true, true, false, false, false] rfl rfl (one_of HT_.out (by kernel_rfl)) (by decide) (fun K hK => ?_)
                        have hcv41 := own_string (P := Try.prog) Try.underlying23 Try.underlying5 Try.underlying9 (Kd.own_of_R HO343.out)
                        refine value_ (w1 := ?_) (v := ?_) (by rfl) rfl ?_ ?_
                        rotate_left 2
                        · go_simp
                          constructor
                          · rfl
                          · rfl
                        clear hcv41
                        refine hK.out _ _ trivial (fun hHeld => ?_)
                        clear hK K
                        refine norm_ (a' := ?_) ?_ ?_
                        rotate_left
                        · show Act.put _ (some 74) _ = _
                          simp only [Act.put, List.setIfInBounds_toArray, List.set_cons_zero, List.set_cons_succ, i64_w, i32_w]
                          rfl
                        exact norm_ (by simp only [putAll, Act.put, List.setIfInBounds_toArray, List.set_cons_zero, List.set_cons_succ]) (hCont () _ ⟨(by (with_reducible repeat (first | apply Kd.R_alloc | apply Kd.R_drewN | apply Kd.R_drew)); exact HO343.out), (by (with_reducible repeat (first | apply Kd.R_alloc | apply Kd.R_drewN | apply Kd.R_drew)); exact HO_6.out), (by (with_reducible repeat (first | apply Kd.R_alloc | apply Kd.R_drewN | apply Kd.R_drew)); exact HO_8.out), (by repeat (first | (with_reducible first | exact HB.out | apply below_alloc | apply pw_below_drewN | apply below_drew1) | exact HB.out))⟩)
                    rintro _ w42 ⟨h0_, h1_, h2_, h3_⟩
                    have n0_ : Aside0 (Kd.R (Kd.int .u8) 5 w42 w.heap.size (fun _ => True) v342 t341) := ⟨h0_⟩
                    have n1_ : Aside0 (Kd.R k28 28 w42 w.heap.size (fun _ => True) (.slice Ao37 t329.length co37) t329) := ⟨h1_⟩
                    have n2_ : Aside0 (Kd.R k30 30 w42 w.heap.size (fun _ => True) v335 t333) := ⟨h2_⟩
                    have n3_ : Aside0 (Below w.heap.size w w42) := ⟨h3_⟩
                    clear HO_6
                    clear HO_8
                    clear HB
                    clear h0_ h1_ h2_ h3_
                    have HO343 := n0_
                    have HO_6 := n1_
                    have HO_8 := n2_
                    have HB := n3_
                    clear n0_ n1_ n2_ n3_
                    have hHeld := trivial
                    refine norm_ (a' := ?_) ?_ ?_
                    rotate_left
                    · simp only [putAll, Act.put, List.setIfInBounds_toArray, List.set_cons_zero, List.set_cons_succ]
                      rfl
                    refine pure_ (i := 11) (N := some 79) (v := ?_) (a' := ?_) #[true, true, true, true, true, true, true, true, true, true, true, true, false, false] rfl rfl (any_of HT_.out (by kernel_rfl)) (fun _ _ _ h => h) (Or.inl ⟨by rfl, ?_⟩) ?_ ?_
                    rotate_left
                    · intro w'
                      go_simp
                      with_reducible rfl
                    rotate_left
                    · simp only [Act.put, List.setIfInBounds_toArray, List.set_cons_zero, List.set_cons_succ, i64_w, i32_w]
                      rfl
                    refine pure_ (i := 12) (N := some 80) (v := ?_) (a' := ?_) #[true, true, true, true, true, true, true, true, true, true, true, true, true, false] rfl rfl (any_of HT_.out (by kernel_rfl)) (fun _ _ _ h => h) (Or.inl ⟨by rfl, ?_⟩) ?_ ?_
                    rotate_left
                    · intro w'
                      go_simp
                      with_reducible rfl
                    rotate_left
                    · simp only [Act.put, List.setIfInBounds_toArray, List.set_cons_zero, List.set_cons_succ, i64_w, i32_w]
                      rfl
                    refine pure_ (i := 13) (N := some 4) (v := ?_) (a' := ?_) #[true, true, true, true, true, true, true, true, true, true, true, true, true, true] rfl rfl (any_of HT_.out (by kernel_rfl)) (fun _ _ _ h => h) (Or.inl ⟨by rfl, ?_⟩) ?_ ?_
                    rotate_left
                    · intro w'
                      go_simp
                      with_reducible rfl
                    rotate_left
                    · simp only [Act.put, List.setIfInBounds_toArray, List.set_cons_zero, List.set_cons_succ, i64_w, i32_w]
                      rfl
                    refine done_ (done_of HT_.out (by kernel_rfl)) ?_
                    try go_wp2
                    go_ret
                    exact ⟨by first | rfl | (simp [errW_none, errW_some] <;> rfl) | (simp [*, errW_none, errW_some] <;> rfl), by repeat (first | (with_reducible first | exact HB.out | apply below_alloc | apply pw_below_drewN | apply below_drew1) | exact HB.out)⟩
  · replace c4 := Bool.eq_false_iff.mpr c4
    subst c4
    have H1 : (some false) = some r := by rw [if_neg (show ¬ (false = true) by decide)] at H; exact H
    clear H
    have H := H1
    clear H1
    obtain rfl := Option.some.inj H
    go_enter Try.func5, Try.ntmps5
    go_wp2_with (first | ((with_reducible refine gate_callee (f := 9) rfl ?_); refine goesL_ (some 11) rfl rfl Try.func9 (by kernel_rfl) rfl #[] rfl (by (try simp only [List.map_toArray, List.map_cons, List.map_nil]); first | done | rfl | (simp only [List.length_drop, List.length_take]; rfl)) ?_; (with_reducible refine (reliquarylaw22_awake.calls k  false _ A3.out).mono ?_); rintro e w43 ⟨rfl, hb⟩; refine ⟨_, rfl, ?_⟩; have n0_ := Aside0.mk (below_step (by repeat (first | (with_reducible first | exact HB.out | apply below_alloc | apply pw_below_drewN | apply below_drew1) | exact HB.out)) hb); clear HB; have HB := n0_; clear n0_; (try clear hb); (try clear hb2); (try clear hk); (try clear hi)))
    go_ret
    exact ⟨by first | rfl | (simp [errW_none, errW_some] <;> rfl) | (simp [*, errW_none, errW_some] <;> rfl), by repeat (first | (with_reducible first | exact HB.out | apply below_alloc | apply pw_below_drewN | apply below_drew1) | exact HB.out)⟩

/-- THE ONE PURE STATEMENT of reliquarylaw22_EntriesLists: yours. -/
def reliquarylaw22_EntriesLists.Pure : Prop := ∀ (l0 : List Int) (a1 : Int), l0.length ≤ maxLen → l0.length * 1 ≤ 140737488351232 → (∀ x ∈ l0, (Lit.int .u8 x).wf = true) → (Lit.int .u16 a1).wf = true → ∃ k, reliquarylaw22_EntriesLists.f k l0 a1 = some true
theorem reliquarylaw22_EntriesLists.walk (P : reliquarylaw22_EntriesLists.Pure) (a0 : Option Addr) (len0 cap0 : Nat) (z0 : List Int) (a1 : Int) (w : World) (w0 : (a0 = none ∧ len0 = 0 ∧ cap0 = 0 ∧ z0 = []) ∨ ∃ x, a0 = some x ∧ len0 ≤ cap0 ∧ cap0 ≤ maxLen ∧ z0.length = cap0 ∧ (∀ i, i < z0.length → w.cell? (x.add i) = some (.int .u8 (z0.getD i 0))) ∧ ∀ n ∈ z0, (Lit.int .u8 n).wf = true) (y0 : len0 * 1 ≤ 140737488351232) (w1 : (Lit.int .u16 a1).wf = true) :
    Calls Try.prog 5 #[.slice a0 len0 cap0, .int .u16 a1] w fun e w' => e = .returned (.bool true) ∧ Below w.heap.size w w' := by
  obtain ⟨l0, rfl, hr0, hm0, hw0, hc0⟩ := ReadsInt.ofRowC w0
  obtain ⟨k, h⟩ := P l0 a1 hm0 y0 hw0 w1
  refine (reliquarylaw22_EntriesLists.calls k _ _ l0 a1 true w (Kd.C_of_reads (d := (0 : Int)) (h1 := fun _ => rfl) hr0) hc0 h).mono ?_
  rintro e w' ⟨rfl, hd⟩
  exact ⟨rfl, hd⟩

end Go.Proofs.Ytkkflgdobgbmmaa.Q
end
section
namespace Go.Proofs.Ytkkflgdobgbmmaa.Q
open Go.RowKit Go.Proofs.YtkkflgdobgbmmaaW.PrintWords Go.Proofs.YtkkflgdobgbmmaaW.PrintLast Go.Proofs.YtkkflgdobgbmmaaW.PrintMore
attribute [local go_sem] max2_int min2_int max_two min_two max_three min_three max_four min_four   -- for this text's walks alone
set_option linter.unusedVariables false
set_option linter.unusedSimpArgs false

end Go.Proofs.Ytkkflgdobgbmmaa.Q
end
section
namespace Go.Proofs.Ytkkflgdobgbmmaa.Q
open Go.RowKit Go.Proofs.YtkkflgdobgbmmaaW.PrintWords Go.Proofs.YtkkflgdobgbmmaaW.PrintLast Go.Proofs.YtkkflgdobgbmmaaW.PrintMore
attribute [local go_sem] max2_int min2_int max_two min_two max_three min_three max_four min_four   -- for this text's walks alone
set_option linter.unusedVariables false
set_option linter.unusedSimpArgs false

end Go.Proofs.Ytkkflgdobgbmmaa.Q
end
section
/- Directories' bytes, read and written, and what is done with them: the program's, and the reference's. -/
namespace Go.Proofs.Ytkkflgdobgbmmaa.Pure
open Go.RowKit Go.Proofs.Ytkkflgdobgbmmaa.Q Go.Proofs.YtkkflgdobgbmmaaW.PrintWords Go.Proofs.YtkkflgdobgbmmaaW.PrintLast Go.Proofs.YtkkflgdobgbmmaaW.PrintMore
set_option linter.unusedVariables false
set_option linter.unusedSimpArgs false

/-! names that may be -/
def ckV (s : ByteArray) : Int := if s.size < 1 ∨ s.size > 24 ∨ s.data.toList.any badB = true ∨ s.toList = [46] ∨ s.toList = [46, 46] then 26 else 0
theorem check_eq (s : ByteArray) : entries_Check.f s = some (ckV s) := by
  unfold entries_Check.f ckV
  by_cases h1 : (s.size : Int) < 1
  · rw [if_pos h1, if_pos (Or.inl (by omega))]
  · rw [if_neg h1]
    by_cases h2 : (s.size : Int) > 24
    · rw [if_pos h2, if_pos (Or.inr (Or.inl (by omega)))]
    · have hc : strings_ContainsAny.f s (⟨#[47, 0]⟩ : ByteArray) = some (s.data.toList.any badB) := by unfold strings_ContainsAny.f; rw [if_pos ⟨by omega, rfl⟩]
      rw [if_neg h2, hc, Option.bind_some]
      have h3 : ¬ s.size < 1 := by omega
      have h4 : ¬ s.size > 24 := by omega
      by_cases h5 : s.data.toList.any badB = true
      · rw [if_pos h5, if_pos (Or.inr (Or.inr (Or.inl h5)))]
      · rw [if_neg h5]
        by_cases h6 : s.toList = [46]
        · rw [if_pos h6, if_pos (Or.inr (Or.inr (Or.inr (Or.inl h6))))]
        · rw [if_neg h6]
          by_cases h7 : s.toList = [46, 46]
          · rw [if_pos h7, if_pos (Or.inr (Or.inr (Or.inr (Or.inr h7))))]
          · rw [if_neg h7, if_neg (by rintro (h | h | h | h | h) <;> contradiction)]
theorem data_len (s : ByteArray) : s.data.toList.length = s.size := by rw [Array.length_toList]; rfl
theorem ckV_zero {s : ByteArray} (h : ckV s = 0) : 1 ≤ s.size ∧ s.size ≤ 24 ∧ s.toList ≠ [46, 46] := by
  unfold ckV at h
  split at h
  · cases h
  · rename_i c
    refine ⟨?_, ?_, ?_⟩
    · exact Nat.le_of_not_lt fun e => c (Or.inl e)
    · exact Nat.le_of_not_lt fun e => c (Or.inr (Or.inl e))
    · exact fun e => c (Or.inr (Or.inr (Or.inr (Or.inr e))))

/-! strings of bytes -/
theorem str_ext {a b : ByteArray} (h : a.data.toList = b.data.toList) : a = b := by
  cases a; cases b; congr 1; exact Array.toList_inj.mp h
theorem str_size (x : List Int) : (strOfNums x).size = x.length := by rw [← data_len, strOfNums_data, List.length_map]
theorem str_extract (x : List Int) (a b : Nat) : (strOfNums x).extract a b = strOfNums ((x.take b).drop a) := by
  apply str_ext
  rw [ByteArray.data_extract, Array.toList_extract, List.extract_eq_take_drop, strOfNums_data, strOfNums_data, List.map_drop, List.map_take, List.drop_take]
theorem bytesOf_u8s (s : ByteArray) : u8s (bytesOf s) := by
  intro v hv
  unfold bytesOf at hv
  obtain ⟨b, -, rfl⟩ := List.mem_map.mp hv
  have := b.toNat_lt
  omega
theorem u8s_append {x y : List Int} (hx : u8s x) (hy : u8s y) : u8s (x ++ y) := fun v hv => (List.mem_append.mp hv).elim (hx v) (hy v)
theorem u8s_drop {l : List Int} (h : u8s l) (n : Nat) : u8s (l.drop n) := fun x hx => h x (List.mem_of_mem_drop hx)

/-! pieces -/
theorem pieceL_len (nm : List Int) (n : Int) : (pieceL nm n).length = 32 := by unfold pieceL; rw [padV_length]; rfl
theorem leb2 (n : Int) : lebytes 2 n = [n % 256, n / 256 % 256] := rfl
theorem padV_u8s {l : List Int} (h : u8s l) (n : Int) : u8s (padV l n) := by
  unfold padV
  exact u8s_append (u8s_take h _) (fun v hv => by rw [List.eq_of_mem_replicate hv]; omega)
theorem pieceL_u8s (nm : List Int) (h : u8s nm) (n : Int) : u8s (pieceL nm n) := by
  unfold pieceL
  refine padV_u8s (u8s_append (u8s_append (lebytes_u8s _ _) ?_) h) _
  intro v hv
  rw [List.mem_singleton.mp hv]
  omega
theorem refpiece_loop (d : Nat) : ∀ (k : Nat) (x : List Int), 32 - x.length = d → x.length ≤ 32 → d < k → reliquaryref22_Piece.l0 k x = some (strOfNums (padV x 32)) := by
  induction d with
  | zero =>
    intro k x hd hx hk
    obtain ⟨k, rfl⟩ : ∃ m, k = m + 1 := ⟨k - 1, by omega⟩
    simp only [reliquaryref22_Piece.l0]
    rw [if_neg (by omega)]
    unfold padV
    rw [show (32 : Int).toNat = 32 from rfl, hd, List.replicate_zero, List.append_nil, List.take_of_length_le hx]
  | succ d ih =>
    intro k x hd hx hk
    obtain ⟨k, rfl⟩ : ∃ m, k = m + 1 := ⟨k - 1, by omega⟩
    simp only [reliquaryref22_Piece.l0]
    have hlen : (x ++ [(0 : Int)]).length = x.length + 1 := List.length_append
    rw [if_pos (by omega), if_pos (by omega), ih k (x ++ [0]) (by omega) (by omega) (by omega)]
    congr 2
    unfold padV
    rw [show (32 : Int).toNat = 32 from rfl, List.take_of_length_le (by omega), List.take_of_length_le (by omega), hlen, List.append_assoc, show 32 - x.length = (32 - (x.length + 1)) + 1 by omega, List.replicate_succ]
    rfl
theorem refpiece_eq (k : Nat) (hk : 40 ≤ k) (nm : ByteArray) (n : Int) (h0 : 0 ≤ n) (h1 : n < 65536) (hs : nm.size ≤ 29) : reliquaryref22_Piece.f k nm n = some (strOfNums (pieceL (bytesOf nm) n)) := by
  unfold reliquaryref22_Piece.f
  have hb := bytesOf_length nm
  rw [Option.bind_some, if_pos (by show 3 + nm.size < _; omega), refpiece_loop _ k _ rfl (by rw [List.length_append, hb]; show 3 + nm.size ≤ 32; omega) (by rw [List.length_append, hb]; omega)]
  unfold pieceL
  rw [leb2, hb, Int.tmod_eq_emod_of_nonneg h0, Int.tdiv_eq_ediv_of_nonneg h0, wrap64_id (by omega) (by omega), Int.tmod_eq_emod_of_nonneg (by omega), Int.emod_emod_of_dvd _ (by decide : (256 : Int) ∣ 256), Int.emod_emod_of_dvd _ (by decide : (256 : Int) ∣ 256)]
  rfl
theorem epiece_eq (nm : ByteArray) (n : Int) (h0 : 0 ≤ n) (h1 : n < 65536) (hs : nm.size ≤ 29) : entries_piece.f nm n = some (pieceL (bytesOf nm) n) := by
  unfold entries_piece.f
  rw [if_pos (by omega)]

/-! entries -/
/-- What an entry that was read is. -/
structure EntOk (x : S28) : Prop where
  lo : 0 ≤ x.f1
  hi : x.f1 < 65536
  nm : x.f0.size ≤ 24
  fr : x.f1 = 0 ↔ x.f0.size = 0
def m30 (x : S28) : S30 := ⟨x.f0, x.f1⟩
theorem rd28 (l : List S28) (i : Nat) (h : i < l.length) : rd_T28 l (i : Int) = l[i] := by simp [rd_T28, List.getD_eq_getElem?_getD, List.getElem?_eq_getElem h]
theorem rd30 (l : List S30) (i : Nat) (h : i < l.length) : rd_T30 l (i : Int) = l[i] := by simp [rd_T30, List.getD_eq_getElem?_getD, List.getElem?_eq_getElem h]
theorem reffind_loop (l : List S28) (nm : ByteArray) (hl : l.length ≤ 1000000) (h0 : ∀ x ∈ l, 0 ≤ x.f1) (d : Nat) : ∀ (k i : Nat), l.length - i = d → i ≤ l.length → d < k →
    reliquaryref22_Find.l0 k (l.map m30) nm i = some (findAt (hitE nm) i (l.drop i)) := by
  induction d with
  | zero =>
    intro k i hd hi hk
    obtain ⟨k, rfl⟩ : ∃ m, k = m + 1 := ⟨k - 1, by omega⟩
    simp only [reliquaryref22_Find.l0]
    rw [List.length_map, if_neg (by omega), List.drop_eq_nil_of_le (by omega), findAt]
  | succ d ih =>
    intro k i hd hi hk
    obtain ⟨k, rfl⟩ : ∃ m, k = m + 1 := ⟨k - 1, by omega⟩
    have hil : i < l.length := by omega
    have hx := h0 l[i] (List.getElem_mem hil)
    simp only [reliquaryref22_Find.l0]
    rw [List.length_map, if_pos (by omega), if_pos (by omega), rd30 _ i (by rw [List.length_map]; exact hil), List.getElem_map, wrap64_id (by omega) (by omega), List.drop_eq_getElem_cons hil, findAt]
    have hn := ih k (i + 1) (by omega) (by omega) (by omega)
    show (if l[i].f1 > 0 then (if l[i].f0.toList = nm.toList then some (i : Int) else reliquaryref22_Find.l0 k (l.map m30) nm ((i : Int) + 1)) else reliquaryref22_Find.l0 k (l.map m30) nm ((i : Int) + 1)) = _
    rw [show (i : Int) + 1 = ((i + 1 : Nat) : Int) by omega, hn]
    unfold hitE
    by_cases c1 : l[i].f1 = 0
    · rw [if_neg (by omega), if_pos c1, if_neg (by decide)]
    · rw [if_pos (by omega), if_neg c1]
      by_cases c2 : l[i].f0.toList = nm.toList
      · rw [if_pos c2, if_pos (beq_iff_eq.mpr c2)]
      · rw [if_neg c2, if_neg (fun e => c2 (beq_iff_eq.mp e))]
theorem reffind_eq (k : Nat) (l : List S28) (nm : ByteArray) (hl : l.length ≤ 1000000) (hk : l.length < k) (h0 : ∀ x ∈ l, 0 ≤ x.f1) : reliquaryref22_Find.f k (l.map m30) nm = some (findAt (hitE nm) 0 l) := by
  unfold reliquaryref22_Find.f
  exact reffind_loop l nm hl h0 l.length k 0 (by omega) (by omega) hk
def pieceOf (x : S28) : List Int := pieceL (bytesOf x.f0) x.f1
def bytesL (l : List S28) : List Int := l.flatMap pieceOf
theorem bytesL_length (l : List S28) : (bytesL l).length = 32 * l.length := by
  unfold bytesL
  induction l with
  | nil => rfl
  | cons x l ih => rw [List.flatMap_cons, List.length_append, ih, List.length_cons, pieceOf, pieceL_len]; omega
theorem bytesL_append (l m : List S28) : bytesL (l ++ m) = bytesL l ++ bytesL m := List.flatMap_append
theorem bytesL_one (x : S28) : bytesL [x] = pieceOf x := by simp [bytesL]
theorem bytesL_u8s (l : List S28) : u8s (bytesL l) := by
  intro v hv
  obtain ⟨x, -, h⟩ := List.mem_flatMap.mp hv
  exact pieceL_u8s _ (bytesOf_u8s _) _ v h
theorem bytesL_snoc (l : List S28) (i : Nat) (h : i < l.length) : bytesL (l.take (i + 1)) = bytesL (l.take i) ++ pieceOf l[i] := by
  rw [List.take_succ_eq_append_getElem h, bytesL_append, bytesL_one]
theorem bytes_loop (l : List S28) (hl : l.length ≤ 1000000) (ho : ∀ x ∈ l, 0 ≤ x.f1 ∧ x.f1 < 65536 ∧ x.f0.size ≤ 24) (d : Nat) : ∀ (k i : Nat), l.length - i = d → i ≤ l.length → d < k →
    entries_bytes.l0 k (bytesL (l.take i)) l (l.length : Int) i = some (bytesL l) := by
  induction d with
  | zero =>
    intro k i hd hi hk
    obtain ⟨k, rfl⟩ : ∃ m, k = m + 1 := ⟨k - 1, by omega⟩
    simp only [entries_bytes.l0]
    rw [if_neg (by omega), List.take_of_length_le (by omega)]
  | succ d ih =>
    intro k i hd hi hk
    obtain ⟨k, rfl⟩ : ∃ m, k = m + 1 := ⟨k - 1, by omega⟩
    have hil : i < l.length := by omega
    have hx := ho l[i] (List.getElem_mem hil)
    simp only [entries_bytes.l0]
    rw [if_pos (by omega), if_pos (by omega), if_pos (by omega), rd28 l i hil, epiece_eq _ _ hx.1 hx.2.1 (by omega), Option.bind_some, if_pos (by rw [bytesL_length, List.length_take, pieceL_len]; omega), wrap64_id (by omega) (by omega)]
    have := ih k (i + 1) (by omega) (by omega) (by omega)
    rw [bytesL_snoc l i hil] at this
    exact this
theorem bytes_eq (k : Nat) (l : List S28) (hl : l.length ≤ 1000000) (hk : l.length < k) (ho : ∀ x ∈ l, 0 ≤ x.f1 ∧ x.f1 < 65536 ∧ x.f0.size ≤ 24) : entries_bytes.f k l = some (bytesL l) := by
  unfold entries_bytes.f
  exact bytes_loop l hl ho l.length k 0 (by omega) (by omega) hk
end Go.Proofs.Ytkkflgdobgbmmaa.Pure
end
section
namespace Go.Proofs.Ytkkflgdobgbmmaa.Q
open Go.RowKit Go.Proofs.YtkkflgdobgbmmaaW.PrintWords Go.Proofs.YtkkflgdobgbmmaaW.PrintLast Go.Proofs.YtkkflgdobgbmmaaW.PrintMore
attribute [local go_sem] max2_int min2_int max_two min_two max_three min_three max_four min_four   -- for this text's walks alone
set_option linter.unusedVariables false
set_option linter.unusedSimpArgs false

end Go.Proofs.Ytkkflgdobgbmmaa.Q
end
section
namespace Go.Proofs.Ytkkflgdobgbmmaa.Q
open Go.RowKit Go.Proofs.YtkkflgdobgbmmaaW.PrintWords Go.Proofs.YtkkflgdobgbmmaaW.PrintLast Go.Proofs.YtkkflgdobgbmmaaW.PrintMore
attribute [local go_sem] max2_int min2_int max_two min_two max_three min_three max_four min_four   -- for this text's walks alone
set_option linter.unusedVariables false
set_option linter.unusedSimpArgs false

end Go.Proofs.Ytkkflgdobgbmmaa.Q
end
section
namespace Go.Proofs.Ytkkflgdobgbmmaa.Q
open Go.RowKit Go.Proofs.YtkkflgdobgbmmaaW.PrintWords Go.Proofs.YtkkflgdobgbmmaaW.PrintLast Go.Proofs.YtkkflgdobgbmmaaW.PrintMore
attribute [local go_sem] max2_int min2_int max_two min_two max_three min_three max_four min_four   -- for this text's walks alone
set_option linter.unusedVariables false
set_option linter.unusedSimpArgs false

end Go.Proofs.Ytkkflgdobgbmmaa.Q
end
section
namespace Go.Proofs.Ytkkflgdobgbmmaa.Q
open Go.RowKit Go.Proofs.YtkkflgdobgbmmaaW.PrintWords Go.Proofs.YtkkflgdobgbmmaaW.PrintLast Go.Proofs.YtkkflgdobgbmmaaW.PrintMore
attribute [local go_sem] max2_int min2_int max_two min_two max_three min_three max_four min_four   -- for this text's walks alone
set_option linter.unusedVariables false
set_option linter.unusedSimpArgs false

end Go.Proofs.Ytkkflgdobgbmmaa.Q
end
section
namespace Go.Proofs.Ytkkflgdobgbmmaa.Q
open Go.RowKit Go.Proofs.YtkkflgdobgbmmaaW.PrintWords Go.Proofs.YtkkflgdobgbmmaaW.PrintLast Go.Proofs.YtkkflgdobgbmmaaW.PrintMore
attribute [local go_sem] max2_int min2_int max_two min_two max_three min_three max_four min_four   -- for this text's walks alone
set_option linter.unusedVariables false
set_option linter.unusedSimpArgs false

end Go.Proofs.Ytkkflgdobgbmmaa.Q
end
section
/- Directories' bytes: what is read, and what is done, by the program and by the reference. -/
namespace Go.Proofs.Ytkkflgdobgbmmaa.Pure
open Go.RowKit Go.Proofs.Ytkkflgdobgbmmaa.Q Go.Proofs.YtkkflgdobgbmmaaW.PrintWords Go.Proofs.YtkkflgdobgbmmaaW.PrintLast Go.Proofs.YtkkflgdobgbmmaaW.PrintMore
set_option linter.unusedVariables false
set_option linter.unusedSimpArgs false

/-! one piece -/
theorem pcOf_length (l : List Int) (i : Nat) (h : 32 * i + 32 ≤ l.length) : (pcOf l i).length = 32 := by unfold pcOf; rw [List.length_take, List.length_drop]; omega
theorem pcOf_rd (l : List Int) (i j : Nat) (h : 32 * i + 32 ≤ l.length) (hj : j < 32) : rd l ((32 * i : Nat) + (j : Int)) = rd (pcOf l i) (j : Int) := by
  rw [show ((32 * i : Nat) : Int) + (j : Int) = ((32 * i + j : Nat) : Int) by omega, rd_nat l _ (by omega), rd_nat _ j (by rw [pcOf_length l i h]; exact hj)]
  unfold pcOf
  rw [List.getElem_take, List.getElem_drop]
theorem pcOf_name (l : List Int) (i q : Nat) (hq : q ≤ 29) : (l.take (32 * i + 3 + q)).drop (32 * i + 3) = ((pcOf l i).drop 3).take q := by
  unfold pcOf
  rw [List.drop_take, List.drop_take, List.drop_drop, List.take_take, show 32 * i + 3 + q - (32 * i + 3) = q by omega, show min q (32 - 3) = q by omega]
theorem pcOf_whole (l : List Int) (i : Nat) : (l.take (32 * i + 32)).drop (32 * i) = pcOf l i := by
  unfold pcOf
  rw [List.drop_take, show 32 * i + 32 - 32 * i = 32 by omega]
theorem pc_u8s {l : List Int} (hu : u8s l) (i : Nat) : u8s (pcOf l i) := u8s_take (u8s_drop hu _) _
theorem pc_parts (p : List Int) (hp : p.length = 32) (hu : u8s p) : pcN p = rd p ((0 : Nat) : Int) + 256 * rd p ((1 : Nat) : Int) ∧ pcL p = rd p ((2 : Nat) : Int) ∧ (0 ≤ rd p ((0 : Nat) : Int) ∧ rd p ((0 : Nat) : Int) < 256) ∧ (0 ≤ rd p ((1 : Nat) : Int) ∧ rd p ((1 : Nat) : Int) < 256) ∧ 0 ≤ rd p ((2 : Nat) : Int) ∧ rd p ((2 : Nat) : Int) < 256 := by
  match p, hp, hu with
  | a :: b :: c :: r, _, hu =>
    have ha := hu a (by simp)
    have hb := hu b (by simp)
    have hc := hu c (by simp)
    have e0 : rd (a :: b :: c :: r) ((0 : Nat) : Int) = a := rfl
    have e1 : rd (a :: b :: c :: r) ((1 : Nat) : Int) = b := rfl
    have e2 : rd (a :: b :: c :: r) ((2 : Nat) : Int) = c := rfl
    rw [e0, e1, e2]
    refine ⟨?_, rfl, ha, hb, hc.1, hc.2⟩
    unfold pcN
    show leval [a, b] = _
    simp only [leval]
    omega
theorem pcE_ok (p : List Int) (hp : p.length = 32) (hu : u8s p) (h : pcOk p = true) : EntOk (pcE p) := by
  obtain ⟨e1, e2, h1, h2, h3, h4⟩ := pc_parts p hp hu
  unfold pcOk at h
  rw [Bool.and_eq_true, Bool.and_eq_true, decide_eq_true_eq] at h
  have hk := h.1.1
  have hz : (pcN p = 0) ↔ (pcL p = 0) := by
    have := beq_iff_eq.mp h.1.2
    constructor
    · intro e; rw [decide_eq_true e] at this; exact of_decide_eq_true this.symm
    · intro e; rw [decide_eq_true e] at this; exact of_decide_eq_true this
  have hs : (pcE p).f0.size = (pcL p).toNat := by
    unfold pcE
    rw [str_size, List.length_take, List.length_drop, hp]
    omega
  refine ⟨?_, ?_, ?_, ?_⟩
  · show 0 ≤ pcN p; omega
  · show pcN p < 65536; omega
  · rw [hs]; omega
  · rw [hs]
    show pcN p = 0 ↔ _
    omega
theorem findAt_pos (p : S28 → Bool) : ∀ (l : List S28) (i : Nat), (0 ≤ findAt p i l) ↔ l.any p = true
  | [], i => by simp [findAt]
  | x :: l, i => by
    rw [findAt, List.any_cons]
    by_cases h : p x = true
    · rw [if_pos h, h]; simp
    · rw [if_neg h, Bool.eq_false_iff.mpr h, Bool.false_or]; exact findAt_pos p l (i + 1)
theorem any_hit (l : List S28) (nm : ByteArray) (ho : ∀ x ∈ l, EntOk x) (hn : nm.size ≠ 0) : l.any (hitE nm) = (l.map fun e => e.f0.data.toList).any (· == nm.data.toList) := by
  induction l with
  | nil => rfl
  | cons x l ih =>
    rw [List.any_cons, List.map_cons, List.any_cons, ih fun y hy => ho y (List.mem_cons_of_mem _ hy)]
    congr 1
    unfold hitE
    have hx := ho x (List.mem_cons_self ..)
    by_cases c : x.f1 = 0
    · rw [if_pos c]
      have h0 := hx.fr.mp c
      symm
      apply beq_eq_false_iff_ne.mpr
      intro e
      have := congrArg List.length e
      rw [data_len, data_len] at this
      omega
    · rw [if_neg c, Go.ByteArray.toList_eq, Go.ByteArray.toList_eq]
theorem str_ne {x y : List Int} (hx : u8s x) (hy : u8s y) : ((strOfNums x).toList = (strOfNums y).toList) ↔ x = y := by
  rw [strOfNums_toList, strOfNums_toList]
  exact ⟨map_u8_inj hx hy, fun e => by rw [e]⟩
set_option maxHeartbeats 2000000 in
theorem refread_j1 (k : Nat) (l : List Int) (hu : u8s l) (i : Nat) (hi : 32 * i + 32 ≤ l.length) (hl : l.length ≤ 1000000) (acc : List S28) (ha : ∀ x ∈ acc, EntOk x) (hal : acc.length ≤ 1000000) (hk : acc.length + 100 ≤ k) (c : Bool)
    (hc : c = true ↔ ¬ (pcL (pcOf l i) ≤ 24 ∧ (pcN (pcOf l i) = 0 ↔ pcL (pcOf l i) = 0))) :
    reliquaryref22_Read.j1 (k + 1) (strOfNums l) (acc.map m30) ((32 * i : Nat) : Int) (pcN (pcOf l i)) (pcL (pcOf l i)) c =
      match stepE acc (pcOf l i) with
      | some acc' => reliquaryref22_Read.l0 k (strOfNums l) (acc'.map m30) ((32 * (i + 1) : Nat) : Int)
      | none => some ([], 11) := by
  obtain ⟨p, hp⟩ : ∃ p, p = pcOf l i := ⟨_, rfl⟩
  have hpl : p.length = 32 := by rw [hp]; exact pcOf_length l i hi
  have hpu : u8s p := by rw [hp]; exact pc_u8s hu i
  have hname := pcOf_name l i
  have hwhole := pcOf_whole l i
  rw [← hp] at hc hname hwhole ⊢
  obtain ⟨e1, e2, h1, h2, h3, h4⟩ := pc_parts p hpl hpu
  simp only [reliquaryref22_Read.j1]
  by_cases hcc : c = true
  · rw [if_pos hcc]
    have hno := hc.mp hcc
    have : stepE acc p = none := by
      unfold stepE
      rw [if_neg]
      rintro ⟨hok, -⟩
      apply hno
      unfold pcOk at hok
      rw [Bool.and_eq_true, Bool.and_eq_true, decide_eq_true_eq] at hok
      refine ⟨hok.1.1, ?_⟩
      have := beq_iff_eq.mp hok.1.2
      constructor
      · intro e; rw [decide_eq_true e] at this; exact of_decide_eq_true this.symm
      · intro e; rw [decide_eq_true e] at this; exact of_decide_eq_true this
    rw [this]
  · rw [if_neg hcc]
    have hyes : pcL p ≤ 24 ∧ (pcN p = 0 ↔ pcL p = 0) := Classical.not_not.mp fun e => hcc (hc.mpr e)
    clear hc hcc
    have hd1 : decide (pcL p ≤ 24) = true := decide_eq_true hyes.1
    have hd2 : (decide (pcN p = 0) == decide (pcL p = 0)) = true := by
      rw [beq_iff_eq]
      exact decide_eq_decide.mpr hyes.2
    have hzz : pcN p = 0 → pcL p = 0 := hyes.2.mp
    have hz2 : pcL p = 0 → pcN p = 0 := hyes.2.mpr
    have hN0 : 0 ≤ pcN p := by omega
    have hN1 : pcN p < 65536 := by omega
    have hL24 := hyes.1
    have hL0 : 0 ≤ pcL p := by omega
    clear hyes e1 e2 h1 h2 h3 h4
    obtain ⟨q, hq⟩ := Int.eq_ofNat_of_zero_le hL0
    have hq24 : q ≤ 24 := by omega
    have w3 : wrap64 (((32 * i : Nat) : Int) + 3) = ((32 * i + 3 : Nat) : Int) := by rw [wrap64_id (by omega) (by omega)]; omega
    have w4 : wrap64 (((32 * i + 3 : Nat) : Int) + (q : Int)) = ((32 * i + 3 + q : Nat) : Int) := by rw [wrap64_id (by omega) (by omega)]; omega
    have w5 : wrap64 (((32 * i : Nat) : Int) + 32) = ((32 * i + 32 : Nat) : Int) := by rw [wrap64_id (by omega) (by omega)]; omega
    have hnm : strOfNums ((l.take (32 * i + 3 + q)).drop (32 * i + 3)) = (pcE p).f0 := by
      rw [hname q (by omega)]
      unfold pcE
      rw [hq, Int.toNat_natCast]
    have hs : (pcE p).f0.size = q := by
      unfold pcE
      rw [str_size, List.length_take, List.length_drop, hpl, hq]
      omega
    have hz := str_size l
    rw [hq, w3, w4, w5, if_pos (by omega), if_pos (by omega), if_pos (by omega), Int.toNat_natCast, Int.toNat_natCast, Int.toNat_natCast, Int.toNat_natCast, str_extract, str_extract, hnm, hwhole, refpiece_eq k (by omega) _ _ (by omega) (by omega) (by omega), Option.bind_some, if_pos (by omega), if_pos (by omega), if_pos (by omega)]
    by_cases hpc : pieceL (bytesOf (pcE p).f0) (pcN p) = p
    · have hok : pcOk p = true := by
        unfold pcOk
        rw [hd1, hd2, Bool.true_and, Bool.true_and]
        exact beq_iff_eq.mpr hpc.symm
      rw [if_pos (by rw [hpc])]
      have hgo : (if (acc.map m30).length < 5864062014805 then reliquaryref22_Read.l0 k (strOfNums l) (acc.map m30 ++ [(⟨(pcE p).f0, pcN p⟩ : S30)]) ((32 * i + 32 : Nat) : Int) else none) = reliquaryref22_Read.l0 k (strOfNums l) ((acc ++ [pcE p]).map m30) ((32 * (i + 1) : Nat) : Int) := by
        rw [if_pos (by rw [List.length_map]; omega), List.map_append]
        rfl
      by_cases hN : pcN p > 0
      · rw [if_pos hN, reffind_eq k acc _ hal (by omega) (fun x hx => (ha x hx).lo), Option.bind_some]
        by_cases hf : 0 ≤ findAt (hitE (pcE p).f0) 0 acc
        · rw [if_pos hf]
          have hany := (findAt_pos _ _ _).mp hf
          rw [any_hit acc _ ha (by omega)] at hany
          have : stepE acc p = none := by
            unfold stepE
            rw [if_neg]
            rintro ⟨-, hh⟩
            rw [hh (by omega)] at hany
            cases hany
          rw [this]
        · rw [if_neg hf, hgo]
          have hany : acc.any (hitE (pcE p).f0) = false := Bool.eq_false_iff.mpr fun e => hf ((findAt_pos _ _ _).mpr e)
          rw [any_hit acc _ ha (by omega)] at hany
          have : stepE acc p = some (acc ++ [pcE p]) := by
            unfold stepE
            rw [if_pos ⟨hok, fun _ => hany⟩]
          rw [this]
      · rw [if_neg hN, hgo]
        have : stepE acc p = some (acc ++ [pcE p]) := by
          unfold stepE
          rw [if_pos ⟨hok, fun e => absurd e (by omega)⟩]
        rw [this]
    · rw [if_neg (fun e => hpc ((str_ne (pieceL_u8s _ (bytesOf_u8s _) _) hpu).mp e))]
      have : stepE acc p = none := by
        unfold stepE
        rw [if_neg]
        rintro ⟨hok, -⟩
        unfold pcOk at hok
        rw [Bool.and_eq_true] at hok
        exact hpc (beq_iff_eq.mp hok.2).symm
      rw [this]
theorem refread_l0 (k : Nat) (l : List Int) (hu : u8s l) (i : Nat) (hi : 32 * i + 32 ≤ l.length) (hl : l.length ≤ 1000000) (acc : List S28) (ha : ∀ x ∈ acc, EntOk x) (hal : acc.length ≤ 1000000) (hk : acc.length + 100 ≤ k) :
    reliquaryref22_Read.l0 (k + 2) (strOfNums l) (acc.map m30) ((32 * i : Nat) : Int) =
      match stepE acc (pcOf l i) with
      | some acc' => reliquaryref22_Read.l0 k (strOfNums l) (acc'.map m30) ((32 * (i + 1) : Nat) : Int)
      | none => some ([], 11) := by
  have key := refread_j1 k l hu i hi hl acc ha hal hk
  have hpl := pcOf_length l i hi
  have hpu := pc_u8s hu i
  obtain ⟨e1, e2, h1, h2, h3, h4⟩ := pc_parts (pcOf l i) hpl hpu
  have hz := str_size l
  have b0 : bt (strOfNums l) ((32 * i : Nat) : Int) = rd (pcOf l i) ((0 : Nat) : Int) := by
    rw [bt_str hu, ← pcOf_rd l i 0 hi (by decide)]
    congr 1
  have b1 : bt (strOfNums l) (((32 * i : Nat) : Int) + 1) = rd (pcOf l i) ((1 : Nat) : Int) := by rw [bt_str hu, ← pcOf_rd l i 1 hi (by decide)]; rfl
  have b2 : bt (strOfNums l) (((32 * i : Nat) : Int) + 2) = rd (pcOf l i) ((2 : Nat) : Int) := by rw [bt_str hu, ← pcOf_rd l i 2 hi (by decide)]; rfl
  have w1 : wrap64 (((32 * i : Nat) : Int) + 1) = ((32 * i : Nat) : Int) + 1 := wrap64_id (by omega) (by omega)
  have w2 : wrap64 (((32 * i : Nat) : Int) + 2) = ((32 * i : Nat) : Int) + 2 := wrap64_id (by omega) (by omega)
  have v0 : wrap64 (rd (pcOf l i) ((0 : Nat) : Int)) = rd (pcOf l i) ((0 : Nat) : Int) := wrap64_id (by omega) (by omega)
  have v1 : wrap64 (rd (pcOf l i) ((1 : Nat) : Int)) = rd (pcOf l i) ((1 : Nat) : Int) := wrap64_id (by omega) (by omega)
  have v2 : wrap64 (rd (pcOf l i) ((2 : Nat) : Int)) = pcL (pcOf l i) := by rw [e2]; exact wrap64_id (by omega) (by omega)
  have v3 : wrap64 (256 * rd (pcOf l i) ((1 : Nat) : Int)) = 256 * rd (pcOf l i) ((1 : Nat) : Int) := wrap64_id (by omega) (by omega)
  have v4 : wrap64 (rd (pcOf l i) ((0 : Nat) : Int) + 256 * rd (pcOf l i) ((1 : Nat) : Int)) = pcN (pcOf l i) := by rw [e1]; exact wrap64_id (by omega) (by omega)
  rw [reliquaryref22_Read.l0]
  simp only [w1, w2, b0, b1, b2, v0, v1, v2, v3, v4]
  rw [if_pos (by omega), if_pos (by omega), if_pos (by omega), if_pos (by omega), if_pos (by omega), if_pos (by omega)]
  by_cases c1 : pcL (pcOf l i) > 24
  · rw [if_pos c1]
    exact key true (by simp; omega)
  · rw [if_neg c1]
    by_cases c2 : pcN (pcOf l i) = 0
    · rw [if_pos c2]
      by_cases c3 : pcL (pcOf l i) > 0
      · rw [if_pos c3]
        exact key true (by simp; omega)
      · rw [if_neg c3, if_neg (by omega)]
        exact key false (by simp; omega)
    · rw [if_neg c2, if_pos (by omega)]
      exact key _ (by rw [beq_iff_eq]; omega)
theorem stepE_ok {acc acc' : List S28} {p : List Int} (hp : p.length = 32) (hu : u8s p) (ha : ∀ x ∈ acc, EntOk x) (h : stepE acc p = some acc') : (∀ x ∈ acc', EntOk x) ∧ acc'.length = acc.length + 1 := by
  unfold stepE at h
  split at h
  · rename_i c
    injection h with h
    subst h
    refine ⟨fun x hx => ?_, by rw [List.length_append]; rfl⟩
    rcases List.mem_append.mp hx with hx | hx
    · exact ha x hx
    · rw [List.mem_singleton.mp hx]
      exact pcE_ok p hp hu c.1
  · cases h
theorem chunks_drop (l : List Int) (i : Nat) (h : i < l.length / 32) : (chunksOf l).drop i = pcOf l i :: (chunksOf l).drop (i + 1) := by
  have hl : (chunksOf l).length = l.length / 32 := by unfold chunksOf; rw [List.length_map, List.length_range]
  rw [List.drop_eq_getElem_cons (by omega)]
  congr 1
  unfold chunksOf
  rw [List.getElem_map, List.getElem_range]
theorem refread_loop (l : List Int) (hu : u8s l) (h32 : l.length % 32 = 0) (hl : l.length ≤ 1000000) (d : Nat) : ∀ (k i : Nat) (acc : List S28), l.length / 32 - i = d → i ≤ l.length / 32 → acc.length = i → (∀ x ∈ acc, EntOk x) → 2 * d + l.length + 200 ≤ k →
    reliquaryref22_Read.l0 k (strOfNums l) (acc.map m30) ((32 * i : Nat) : Int) =
      (match ((chunksOf l).drop i).foldlM stepE acc with | some out => some (out.map m30, 0) | none => some ([], 11)) := by
  induction d with
  | zero =>
    intro k i acc hd hi hai ha hk
    obtain ⟨k, rfl⟩ : ∃ m, k = m + 1 := ⟨k - 1, by omega⟩
    have hcl : (chunksOf l).length = l.length / 32 := by unfold chunksOf; rw [List.length_map, List.length_range]
    have hz := str_size l
    rw [reliquaryref22_Read.l0, if_neg (by omega), List.drop_eq_nil_of_le (by omega)]
    rfl
  | succ d ih =>
    intro k i acc hd hi hai ha hk
    obtain ⟨k, rfl⟩ : ∃ m, k = m + 2 := ⟨k - 2, by omega⟩
    have hi32 : 32 * i + 32 ≤ l.length := by omega
    rw [refread_l0 k l hu i hi32 hl acc ha (by omega) (by omega), chunks_drop l i (by omega), List.foldlM_cons]
    cases hst : stepE acc (pcOf l i) with
    | none => rfl
    | some acc' =>
      have hok := stepE_ok (pcOf_length l i hi32) (pc_u8s hu i) ha hst
      exact ih k (i + 1) acc' (by omega) (by omega) (by omega) hok.1 (by omega)
theorem refread_eq (k : Nat) (l : List Int) (hu : u8s l) (hl : l.length ≤ 1000000) (hk : 2 * l.length + 200 ≤ k) : reliquaryref22_Read.f k (strOfNums l) = some ((readV l).1.map m30, (readV l).2) := by
  unfold reliquaryref22_Read.f readV
  rw [str_size]
  by_cases h : l.length % 32 = 0
  · rw [if_neg (by omega), if_pos h]
    have := refread_loop l hu h hl (l.length / 32) k 0 [] (by omega) (by omega) rfl (fun x hx => by cases hx) (by omega)
    rw [List.drop_zero] at this
    unfold readM readGo
    rw [show (([] : List S28).map m30) = [] from rfl, show ((32 * 0 : Nat) : Int) = 0 from rfl] at this
    rw [this]
    cases (chunksOf l).foldlM stepE [] <;> rfl
  · rw [if_pos (by omega), if_neg h]
    rfl
theorem fold_ok (l : List Int) (hu : u8s l) : ∀ (ps : List (List Int)) (acc out : List S28), (∀ p ∈ ps, p.length = 32 ∧ u8s p) → (∀ x ∈ acc, EntOk x) → ps.foldlM stepE acc = some out → ∀ x ∈ out, EntOk x
  | [], acc, out, _, ha, h => by injection h with h; subst h; exact ha
  | p :: ps, acc, out, hps, ha, h => by
    rw [List.foldlM_cons] at h
    obtain ⟨c, h1, h2⟩ := Option.bind_eq_some_iff.mp h
    have hp := hps p (List.mem_cons_self ..)
    exact fold_ok l hu ps c out (fun q hq => hps q (List.mem_cons_of_mem _ hq)) (stepE_ok hp.1 hp.2 ha h1).1 h2
theorem chunks_mem (l : List Int) (hu : u8s l) : ∀ p ∈ chunksOf l, p.length = 32 ∧ u8s p := by
  intro p hp
  unfold chunksOf at hp
  obtain ⟨i, hi, rfl⟩ := List.mem_map.mp hp
  have := List.mem_range.mp hi
  exact ⟨pcOf_length l i (by omega), pc_u8s hu i⟩
theorem readV_ok (l : List Int) (hu : u8s l) : (∀ x ∈ (readV l).1, EntOk x) ∧ 32 * (readV l).1.length ≤ l.length := by
  unfold readV
  split
  · unfold readM
    split
    · rename_i out h
      refine ⟨fold_ok l hu _ [] out (chunks_mem l hu) (fun x hx => by cases hx) h, ?_⟩
      have := readGo_length _ _ h
      have hcl : (chunksOf l).length = l.length / 32 := by unfold chunksOf; rw [List.length_map, List.length_range]
      show 32 * out.length ≤ _
      omega
    · exact ⟨fun x hx => (by cases hx), Nat.zero_le _⟩
  · exact ⟨fun x hx => (by cases hx), Nat.zero_le _⟩
theorem eread_eq (l : List Int) (hu : u8s l) (hl : l.length ≤ 1000000) : entries_read.f l = some (readV l) := by unfold entries_read.f; rw [if_pos ⟨by omega, hu⟩]
theorem eat_eq (l : List S28) (nm : ByteArray) : entries_at.f l nm = some (findAt (hitE nm) 0 l) := rfl

end Go.Proofs.Ytkkflgdobgbmmaa.Pure
end
section
/- What is done with directories' bytes: by the program and by the reference, in one form. -/
namespace Go.Proofs.Ytkkflgdobgbmmaa.Pure
open Go.RowKit Go.Proofs.Ytkkflgdobgbmmaa.Q Go.Proofs.YtkkflgdobgbmmaaW.PrintWords Go.Proofs.YtkkflgdobgbmmaaW.PrintLast Go.Proofs.YtkkflgdobgbmmaaW.PrintMore
set_option linter.unusedVariables false
set_option linter.unusedSimpArgs false

theorem findAt_bd (p : S28 → Bool) : ∀ (l : List S28) (i : Nat), findAt p i l = -1 ∨ ((i : Int) ≤ findAt p i l ∧ findAt p i l < (i : Int) + l.length)
  | [], i => Or.inl rfl
  | x :: l, i => by
    rw [findAt, List.length_cons]
    by_cases h : p x = true
    · rw [if_pos h]; right; omega
    · rw [if_neg h]
      rcases findAt_bd p l (i + 1) with h | h
      · exact Or.inl h
      · right; omega
/-! Find -/
def findV (l : List Int) (nm : ByteArray) : Int × Int :=
  if (readV l).2 ≠ 0 then (0, (readV l).2) else if findAt (hitE nm) 0 (readV l).1 < 0 then (0, 21) else ((rd_T28 (readV l).1 (findAt (hitE nm) 0 (readV l).1)).f1, 0)
theorem found_eq (l : List Int) (nm : ByteArray) (hu : u8s l) (hl : l.length ≤ 1000000) : entries_found.f l nm = some (if (readV l).2 ≠ 0 then ([], 0, (readV l).2) else if findAt (hitE nm) 0 (readV l).1 < 0 then ([], 0, 21) else ((readV l).1, findAt (hitE nm) 0 (readV l).1, 0)) := by
  unfold entries_found.f
  rw [eread_eq l hu hl, Option.bind_some]
  by_cases h : (readV l).2 = 0
  · rw [if_pos h, eat_eq, Option.bind_some, if_neg (fun e : (readV l).2 ≠ 0 => e h)]
    by_cases h2 : findAt (hitE nm) 0 (readV l).1 < 0
    · rw [if_pos h2, if_pos h2]
    · rw [if_neg h2, if_neg h2]
  · rw [if_neg h, if_pos h]
theorem find_eq (l : List Int) (nm : ByteArray) (hu : u8s l) (hl : l.length ≤ 1000000) : entries_Find.f l nm = some (findV l nm) := by
  unfold entries_Find.f findV
  rw [found_eq l nm hu hl, Option.bind_some]
  by_cases h : (readV l).2 = 0
  · rw [if_neg (fun e : (readV l).2 ≠ 0 => e h), if_neg (fun e : (readV l).2 ≠ 0 => e h)]
    have hb := findAt_bd (hitE nm) (readV l).1 0
    by_cases h2 : findAt (hitE nm) 0 (readV l).1 < 0
    · rw [if_pos h2, if_pos h2, if_neg (by decide)]
    · rw [if_neg h2, if_neg h2]
      show (if (0 : Int) = 0 then (if 0 ≤ findAt (hitE nm) 0 (readV l).1 then (if findAt (hitE nm) 0 (readV l).1 < ((readV l).1.length : Int) then _ else none) else none) else _) = _
      rw [if_pos rfl, if_pos (by omega), if_pos (by omega)]
  · rw [if_pos h, if_pos h]
    show (if (readV l).2 = 0 then _ else _) = _
    rw [if_neg h]
theorem rdm (l : List S28) (i : Int) (h0 : 0 ≤ i) (h1 : i < l.length) : rd_T30 (l.map m30) i = m30 (rd_T28 l i) := by
  obtain ⟨n, rfl⟩ := Int.eq_ofNat_of_zero_le h0
  rw [rd30 _ n (by rw [List.length_map]; omega), List.getElem_map, rd28 l n (by omega)]
/-! Insert -/
def freeAt (l : List S28) : Int := findAt (fun x => x.f1 == 0) 0 l
def putFree (l : List S28) (x : S28) : List S28 := if freeAt l < 0 then l ++ [x] else l.set (freeAt l).toNat x
def insV (l : List Int) (nm : ByteArray) (n : Int) : List Int × Int :=
  if ckV nm ≠ 0 then ([], ckV nm) else if ¬ (1 ≤ n ∧ n < 65536) then ([], 1) else if (readV l).2 ≠ 0 then ([], (readV l).2) else
    if 0 ≤ findAt (hitE nm) 0 (readV l).1 then ([], 22) else (bytesL (putFree (readV l).1 ⟨nm, n⟩), 0)
theorem number_eq (n : Int) : entries_number.f n = some (decide (1 ≤ n ∧ n < 65536)) := by
  unfold entries_number.f
  by_cases h : n ≥ 1
  · rw [if_pos h]; congr 1; simp; omega
  · rw [if_neg h]; congr 1; symm; simp; omega
theorem free_loop (l : List S28) (hl : l.length ≤ 1000000) (d : Nat) : ∀ (k i : Nat), l.length - i = d → i ≤ l.length → d < k →
    entries_Entry_31_at_entries_Insert_lit1.l0 k l (l.length : Int) i = some (findAt (fun x => x.f1 == 0) i (l.drop i)) := by
  induction d with
  | zero =>
    intro k i hd hi hk
    obtain ⟨k, rfl⟩ : ∃ m, k = m + 1 := ⟨k - 1, by omega⟩
    simp only [entries_Entry_31_at_entries_Insert_lit1.l0]
    rw [if_neg (by omega), List.drop_eq_nil_of_le (by omega), findAt]
  | succ d ih =>
    intro k i hd hi hk
    obtain ⟨k, rfl⟩ : ∃ m, k = m + 1 := ⟨k - 1, by omega⟩
    have hil : i < l.length := by omega
    simp only [entries_Entry_31_at_entries_Insert_lit1.l0]
    rw [if_pos (by omega), if_pos (by omega), if_pos (by omega), rd28 l i hil, wrap64_id (by omega) (by omega), List.drop_eq_getElem_cons hil, findAt]
    show (if (l[i].f1 == 0) = true then _ else _) = _
    by_cases c : (l[i].f1 == 0) = true
    · rw [if_pos c, if_pos c]
    · rw [if_neg c, if_neg c]
      exact ih k (i + 1) (by omega) (by omega) (by omega)
theorem free_eq (k : Nat) (l : List S28) (hl : l.length ≤ 1000000) (hk : l.length < k) : entries_Entry_31_at_entries_Insert_lit1.f k l = some (freeAt l) := by
  unfold entries_Entry_31_at_entries_Insert_lit1.f
  exact free_loop l hl l.length k 0 (by omega) (by omega) hk
def Small (l : List S28) : Prop := ∀ x ∈ l, 0 ≤ x.f1 ∧ x.f1 < 65536 ∧ x.f0.size ≤ 24
theorem small_of {l : List S28} (h : ∀ x ∈ l, EntOk x) : Small l := fun x hx => ⟨(h x hx).lo, (h x hx).hi, (h x hx).nm⟩
theorem small_set {l : List S28} (h : Small l) (i : Nat) {x : S28} (hx : 0 ≤ x.f1 ∧ x.f1 < 65536 ∧ x.f0.size ≤ 24) : Small (l.set i x) := fun y hy => by
  rcases List.mem_or_eq_of_mem_set hy with hy | rfl
  · exact h y hy
  · exact hx
theorem small_append {l : List S28} (h : Small l) {x : S28} (hx : 0 ≤ x.f1 ∧ x.f1 < 65536 ∧ x.f0.size ≤ 24) : Small (l ++ [x]) := fun y hy => by
  rcases List.mem_append.mp hy with hy | hy
  · exact h y hy
  · rw [List.mem_singleton.mp hy]; exact hx
theorem insert_eq (k : Nat) (l : List Int) (nm : ByteArray) (n : Int) (hu : u8s l) (hl : l.length ≤ 1000000) (hk : l.length + 200 ≤ k) : entries_Insert.f k l nm n = some (insV l nm n) := by
  unfold entries_Insert.f insV
  rw [check_eq, Option.bind_some]
  by_cases h1 : ckV nm = 0
  · have hnm := ckV_zero h1
    rw [if_pos h1, if_neg (fun e : ckV nm ≠ 0 => e h1), number_eq, Option.bind_some]
    by_cases h2 : 1 ≤ n ∧ n < 65536
    · rw [if_pos (decide_eq_true h2), if_neg (fun e : ¬ (1 ≤ n ∧ n < 65536) => e h2), eread_eq l hu hl, Option.bind_some]
      by_cases h3 : (readV l).2 = 0
      · have hok := readV_ok l hu
        have hsm := small_of hok.1
        rw [if_pos h3, if_neg (fun e : (readV l).2 ≠ 0 => e h3), eat_eq, Option.bind_some]
        by_cases h4 : 0 ≤ findAt (hitE nm) 0 (readV l).1
        · rw [if_pos h4, if_pos h4]
        · rw [if_neg h4, if_neg h4, free_eq k _ (by omega) (by omega), Option.bind_some]
          have hb := findAt_bd (fun x => x.f1 == 0) (readV l).1 0
          unfold putFree
          by_cases h5 : freeAt (readV l).1 < 0
          · rw [if_pos h5, if_pos h5, if_pos (by omega), bytes_eq k _ (by rw [List.length_append]; show _ + 1 ≤ _; omega) (by rw [List.length_append]; show _ + 1 < _; omega) (small_append hsm ⟨by show 0 ≤ n; omega, by show n < _; omega, hnm.2.1⟩), Option.bind_some]
          · rw [if_neg h5, if_neg h5, if_pos (by omega), if_pos (by unfold freeAt at h5 ⊢; omega), bytes_eq k _ (by rw [List.length_set]; omega) (by rw [List.length_set]; omega) (small_set hsm _ ⟨by show 0 ≤ n; omega, by show n < _; omega, hnm.2.1⟩), Option.bind_some]
      · rw [if_neg h3, if_pos h3]
    · rw [if_neg (by rw [decide_eq_false h2]; decide), if_pos h2]
  · rw [if_neg h1, if_pos h1]
/-! Remove -/
/-- The last free ones are cut off. -/
def trim (l : List S28) : List S28 := (l.reverse.dropWhile fun x => x.f1 == 0).reverse
theorem trim_snoc (l : List S28) (x : S28) : trim (l ++ [x]) = if x.f1 = 0 then trim l else l ++ [x] := by
  unfold trim
  rw [List.reverse_append, List.reverse_singleton, List.singleton_append, List.dropWhile_cons]
  by_cases h : x.f1 = 0
  · rw [if_pos (beq_iff_eq.mpr h), if_pos h]
  · rw [if_neg (fun e => h (beq_iff_eq.mp e)), if_neg h, List.reverse_cons, List.reverse_reverse]
theorem trim_take (l : List S28) (i : Nat) (h : i < l.length) : trim (l.take (i + 1)) = if l[i].f1 = 0 then trim (l.take i) else l.take (i + 1) := by
  rw [List.take_succ_eq_append_getElem h, trim_snoc]
def remV (l : List Int) (nm : ByteArray) : List Int × Int :=
  if ckV nm ≠ 0 then ([], ckV nm) else if (readV l).2 ≠ 0 then ([], (readV l).2) else
    if findAt (hitE nm) 0 (readV l).1 < 0 then ([], 21) else (bytesL (trim ((readV l).1.set (findAt (hitE nm) 0 (readV l).1).toNat ⟨⟨#[]⟩, 0⟩)), 0)
theorem rem_loop (l : List S28) (hl : l.length ≤ 100000) (hs : Small l) : ∀ (n k : Nat), n ≤ l.length → n + l.length + 100 < k → entries_Remove.l0 k (l.take n) = some (bytesL (trim (l.take n)), 0) := by
  intro n
  induction n with
  | zero =>
    intro k hn hk
    obtain ⟨k, rfl⟩ : ∃ m, k = m + 1 := ⟨k - 1, by omega⟩
    simp only [entries_Remove.l0]
    rw [List.take_zero, if_neg (by simp), bytes_eq k [] (by simp) (by simp; omega) (fun x hx => by cases hx), Option.bind_some]
    rfl
  | succ n ih =>
    intro k hn hk
    obtain ⟨k, rfl⟩ : ∃ m, k = m + 1 := ⟨k - 1, by omega⟩
    have hlen : (l.take (n + 1)).length = n + 1 := by rw [List.length_take]; omega
    simp only [entries_Remove.l0]
    rw [hlen, if_pos (by omega), wrap64_id (by omega) (by omega), if_pos (by omega), if_pos (by omega), show ((n + 1 : Nat) : Int) - 1 = (n : Int) by omega, rd28 _ n (by omega), List.getElem_take, Int.toNat_natCast, List.take_take, Nat.min_eq_left (by omega), trim_take l n (by omega)]
    by_cases c : (l[n]'(by omega)).f1 = 0
    · rw [if_pos c, if_pos c, if_pos (by omega)]
      exact ih k (by omega) (by omega)
    · rw [if_neg c, if_neg c, bytes_eq k _ (by omega) (by omega) (fun x hx => hs x (List.mem_of_mem_take hx)), Option.bind_some]
theorem remove_eq (k : Nat) (l : List Int) (nm : ByteArray) (hu : u8s l) (hl : l.length ≤ 100000) (hk : 2 * l.length + 200 ≤ k) : entries_Remove.f k l nm = some (remV l nm) := by
  unfold entries_Remove.f remV
  rw [check_eq, Option.bind_some]
  by_cases h1 : ckV nm = 0
  · rw [if_pos h1, if_neg (fun e : ckV nm ≠ 0 => e h1), found_eq l nm hu (by omega), Option.bind_some]
    by_cases h3 : (readV l).2 = 0
    · have hok := readV_ok l hu
      have hsm := small_of hok.1
      have hb := findAt_bd (hitE nm) (readV l).1 0
      rw [if_neg (fun e : (readV l).2 ≠ 0 => e h3), if_neg (fun e : (readV l).2 ≠ 0 => e h3)]
      by_cases h4 : findAt (hitE nm) 0 (readV l).1 < 0
      · rw [if_pos h4, if_pos h4]
        rfl
      · rw [if_neg h4, if_neg h4]
        show (if (0 : Int) = 0 then (if 0 ≤ findAt (hitE nm) 0 (readV l).1 then (if findAt (hitE nm) 0 (readV l).1 < ((readV l).1.length : Int) then entries_Remove.l0 k ((readV l).1.set (findAt (hitE nm) 0 (readV l).1).toNat ⟨⟨#[]⟩, 0⟩) else none) else none) else _) = _
        rw [if_pos rfl, if_pos (by omega), if_pos (by omega)]
        have hx : Small ((readV l).1.set (findAt (hitE nm) 0 (readV l).1).toNat ⟨⟨#[]⟩, 0⟩) := small_set hsm _ ⟨Int.le_refl _, by decide, Nat.zero_le _⟩
        have hlen : ((readV l).1.set (findAt (hitE nm) 0 (readV l).1).toNat ⟨⟨#[]⟩, 0⟩).length = (readV l).1.length := List.length_set
        have := rem_loop _ (by rw [hlen]; omega) hx _ k (Nat.le_refl _) (by rw [hlen]; omega)
        rw [List.take_length] at this
        exact this
    · rw [if_pos h3, if_pos h3]
      show (if (readV l).2 = 0 then _ else _) = _
      rw [if_neg h3]
  · rw [if_neg h1, if_pos h1]
/-! List -/
theorem elist_eq (l : List Int) (hu : u8s l) (hl : l.length ≤ 1000000) : entries_List.f l = some (listV l) := by unfold entries_List.f; rw [if_pos ⟨by omega, hu⟩]
theorem reflist_loop (l : List S28) (hl : l.length ≤ 100000) (hs : Small l) (d : Nat) : ∀ (k i : Nat) (acc : List S28), l.length - i = d → i ≤ l.length → acc.length ≤ i → d < k →
    reliquaryref22_List.l0 k (l.map m30) (acc.map m30) i = some ((acc ++ (l.drop i).filter keepE).map m30, 0) := by
  induction d with
  | zero =>
    intro k i acc hd hi ha hk
    obtain ⟨k, rfl⟩ : ∃ m, k = m + 1 := ⟨k - 1, by omega⟩
    simp only [reliquaryref22_List.l0]
    rw [List.length_map, if_neg (by omega), List.drop_eq_nil_of_le (by omega), List.filter_nil, List.append_nil]
  | succ d ih =>
    intro k i acc hd hi ha hk
    obtain ⟨k, rfl⟩ : ∃ m, k = m + 1 := ⟨k - 1, by omega⟩
    have hil : i < l.length := by omega
    have hx := hs l[i] (List.getElem_mem hil)
    simp only [reliquaryref22_List.l0]
    rw [List.length_map, if_pos (by omega), if_pos (by omega), rdm l i (by omega) (by omega), rd28 l i hil, wrap64_id (by omega) (by omega), List.drop_eq_getElem_cons hil, show (i : Int) + 1 = ((i + 1 : Nat) : Int) by omega]
    by_cases c : l[i].f1 = 0
    · have hke : keepE l[i] = false := by unfold keepE goneE; rw [if_pos c]; rfl
      rw [if_neg (show ¬ (m30 l[i]).f1 > 0 by show ¬ l[i].f1 > 0; omega), List.filter_cons_of_neg (by rw [hke]; decide)]
      exact ih k (i + 1) acc (by omega) (by omega) (by omega) (by omega)
    · rw [if_pos (show (m30 l[i]).f1 > 0 by show l[i].f1 > 0; omega)]
      by_cases c2 : l[i].f0.toList = [46, 46]
      · have hke : keepE l[i] = false := by unfold keepE goneE; rw [if_neg c, beq_iff_eq.mpr c2]; rfl
        rw [if_pos (show (m30 l[i]).f0.toList = [46, 46] from c2), List.filter_cons_of_neg (by rw [hke]; decide)]
        exact ih k (i + 1) acc (by omega) (by omega) (by omega) (by omega)
      · have hke : keepE l[i] = true := by unfold keepE goneE; rw [if_neg c, beq_eq_false_iff_ne.mpr c2]; rfl
        rw [if_neg (show ¬ (m30 l[i]).f0.toList = [46, 46] from c2), List.length_map, if_pos (by omega), List.filter_cons_of_pos hke]
        have := ih k (i + 1) (acc ++ [l[i]]) (by omega) (by omega) (by rw [List.length_append]; show _ + 1 ≤ _; omega) (by omega)
        rw [List.map_append, List.append_assoc] at this
        exact this
theorem reflist_eq (k : Nat) (l : List Int) (hu : u8s l) (hl : l.length ≤ 100000) (hk : 2 * l.length + 400 ≤ k) : reliquaryref22_List.f k (strOfNums l) = some ((listV l).1.map m30, (listV l).2) := by
  unfold reliquaryref22_List.f listV
  have hok := readV_ok l hu
  rw [refread_eq k l hu (by omega) (by omega), Option.bind_some]
  by_cases h : (readV l).2 = 0
  · show (if (readV l).2 = 0 then reliquaryref22_List.l0 k ((readV l).1.map m30) ([] : List S30) 0 else _) = _
    rw [if_pos h, if_pos h]
    have := reflist_loop (readV l).1 (by omega) (small_of hok.1) (readV l).1.length k 0 [] (by omega) (by omega) (by simp) (by omega)
    rw [List.drop_zero, List.nil_append] at this
    exact this
  · show (if (readV l).2 = 0 then reliquaryref22_List.l0 k ((readV l).1.map m30) ([] : List S30) 0 else _) = _
    rw [if_neg h, if_neg h]
    rfl

theorem new_eq (n : Int) (h0 : 0 ≤ n) (h1 : n < 65536) : entries_New.f n = some (pieceOf ⟨⟨#[46, 46]⟩, n⟩) := by
  unfold entries_New.f
  rw [epiece_eq _ n h0 h1 (by decide), Option.bind_some]
  rfl
/-! the example -/
theorem awake22_ok (k : Nat) (hk : 1000 ≤ k) : reliquarylaw22_awake.f k = some true := by
  unfold reliquarylaw22_awake.f
  have hu0 : u8s [] := fun x hx => by cases hx
  have e1 : (insV [] ⟨#[97]⟩ 5) = (bytesL [⟨⟨#[97]⟩, 5⟩], 0) := by decide +kernel
  have hu1 := bytesL_u8s [⟨⟨#[97]⟩, 5⟩]
  have hl1 := bytesL_length [⟨⟨#[97]⟩, 5⟩]
  have e2 : findV (bytesL [⟨⟨#[97]⟩, 5⟩]) ⟨#[97]⟩ = (5, 0) := by decide +kernel
  have e3 : remV (bytesL [⟨⟨#[97]⟩, 5⟩]) ⟨#[97]⟩ = ([], 0) := by decide +kernel
  have e4 : findV (bytesL [⟨⟨#[46, 46]⟩, 7⟩]) ⟨#[46, 46]⟩ = (7, 0) := by decide +kernel
  have e5 : ckV ⟨#[46, 46]⟩ = 26 := by decide +kernel
  have hl2 := bytesL_length [⟨⟨#[46, 46]⟩, 7⟩]
  rw [insert_eq k [] _ _ hu0 (by simp) (by simp; omega), Option.bind_some, e1]
  show ((entries_Find.f (bytesL [⟨⟨#[97]⟩, 5⟩]) (⟨#[97]⟩ : ByteArray)).bind _) = _
  rw [find_eq _ _ hu1 (by rw [hl1]; decide), Option.bind_some, e2]
  show ((entries_Remove.f k (bytesL [⟨⟨#[97]⟩, 5⟩]) (⟨#[97]⟩ : ByteArray)).bind _) = _
  rw [remove_eq k _ _ hu1 (by rw [hl1]; decide) (by rw [hl1]; show 2 * (32 * 1) + 200 ≤ k; omega), Option.bind_some, e3, new_eq 7 (by decide) (by decide), Option.bind_some, ← bytesL_one, find_eq _ _ (bytesL_u8s _) (by rw [hl2]; decide), Option.bind_some, e4, check_eq, e5, Option.bind_some]
  have r0 : rd (bytesL [⟨⟨#[97]⟩, 5⟩]) 0 = 5 := by decide +kernel
  have r2 : rd (bytesL [⟨⟨#[97]⟩, 5⟩]) 2 = 1 := by decide +kernel
  have r3 : rd (bytesL [⟨⟨#[97]⟩, 5⟩]) 3 = 97 := by decide +kernel
  simp only [hl1, r0, r2, r3]
  rfl
end Go.Proofs.Ytkkflgdobgbmmaa.Pure
end
section
/- EntriesLists: the law, over what the walk computes. -/
namespace Go.Proofs.Ytkkflgdobgbmmaa.Pure
open Go.RowKit Go.Proofs.Ytkkflgdobgbmmaa.Q Go.Proofs.YtkkflgdobgbmmaaW.PrintWords Go.Proofs.YtkkflgdobgbmmaaW.PrintLast Go.Proofs.YtkkflgdobgbmmaaW.PrintMore
set_option linter.unusedVariables false
set_option linter.unusedSimpArgs false
theorem lists_loop (l : List S28) (u : Int) (hu0 : 0 ≤ u) (hu1 : u < 65536) (hl : l.length ≤ 100000) (d : Nat) : ∀ (k i : Nat), l.length - i = d → i ≤ l.length → d + 100 < k →
    reliquarylaw22_EntriesLists.l0 k u l (l.map m30) i = some true := by
  induction d with
  | zero =>
    intro k i hd hi hk
    obtain ⟨k, rfl⟩ : ∃ m, k = m + 1 := ⟨k - 1, by omega⟩
    rw [reliquarylaw22_EntriesLists.l0, if_neg (by omega)]
    by_cases c : u = 0
    · rw [if_pos c]
    · rw [if_neg c, wrap64_id (by omega) (by omega), new_eq u hu0 hu1, Option.bind_some, refpiece_eq k (by omega) _ u hu0 hu1 (by decide), Option.bind_some]
      show some ((strOfNums (pieceL (bytesOf ⟨#[46, 46]⟩) u)).toList == (strOfNums (pieceL (bytesOf ⟨#[46, 46]⟩) u)).toList) = _
      rw [beq_self_eq_true]
  | succ d ih =>
    intro k i hd hi hk
    obtain ⟨k, rfl⟩ : ∃ m, k = m + 1 := ⟨k - 1, by omega⟩
    have hil : i < l.length := by omega
    rw [reliquarylaw22_EntriesLists.l0, List.length_map, if_pos (by omega), if_pos (by omega), if_pos (by omega), rdm l i (by omega) (by omega), rd28 l i hil, if_pos (show l[i].f0.toList = (m30 l[i]).f0.toList from rfl), if_pos (show l[i].f1 = (m30 l[i]).f1 from rfl), wrap64_id (by omega) (by omega)]
    exact ih k (i + 1) (by omega) (by omega) (by omega)
theorem EntriesLists : reliquarylaw22_EntriesLists.Pure := by
  intro l u h1 h2 h3 h4
  have hu := wf_u8s h3
  have hw := wf_u16 h4
  refine ⟨20000, ?_⟩
  unfold reliquarylaw22_EntriesLists.f
  rw [awake22_ok 20000 (by decide), Option.bind_some, if_pos rfl]
  by_cases h : (l.length : Int) > 2000
  · rw [if_pos h]
  · have hok := readV_ok l hu
    have hlen : (listV l).1.length ≤ l.length := by
      unfold listV
      split
      · have := List.length_filter_le keepE (readV l).1
        show ((readV l).1.filter keepE).length ≤ _
        omega
      · exact Nat.zero_le _
    rw [if_neg h, elist_eq l hu (by omega), Option.bind_some, reflist_eq 20000 l hu (by omega) (by omega), Option.bind_some, if_pos rfl, List.length_map]
    rw [show (20000 : Nat) = 19999 + 1 from rfl, reliquarylaw22_EntriesLists.j0, if_neg (by simp)]
    exact lists_loop _ u hw.1 hw.2 (by omega) (listV l).1.length 19999 0 (by omega) (by omega) (by omega)
end Go.Proofs.Ytkkflgdobgbmmaa.Pure
end
section
namespace Go.Proofs.Ytkkflgdobgbmmaa.entriesLists
open Go.ChangeShapes Go.WideShapes Go.ChangeAt Go.RowKit
open Go.ChangeMaps (open_string shut_string)
set_option linter.unusedVariables false
theorem own : ownKnob Try.prog.godebug = none := by kernel_rfl
theorem laidOut : laidOutB Try.prog = true := by kernel_rfl
def IsRow (k : IntKind) (w : World) (a : Option Addr) (len cap : Nat) (zs : List Int) : Prop :=
  (a = none ∧ len = 0 ∧ cap = 0 ∧ zs = []) ∨
  ∃ x, a = some x ∧ len ≤ cap ∧ cap ≤ maxLen ∧ zs.length = cap ∧ (∀ i, i < zs.length → w.cell? (x.add i) = some (.int k (zs.getD i 0))) ∧ ∀ n ∈ zs, (Lit.int k n).wf = true
set_option maxRecDepth 100000 in
theorem lifted (os : Os) (started : os.Started) (H : Type) (enc : TypeId × Value → H) :
    ReturnsInHanded {} Try.checked os 5 .any (Rows.entriesListsSpec.pre6 enc Try.prog Try.f5 Rows.entriesListsRow.domain false) (Rows.entriesListsSpec.post enc Try.prog Try.f5 false true false false) := by
  refine returnsInHanded_of_change_sized (C := Try.checked) own started (by kernel_rfl) Try.func5
    (ChangeSpec.witness6 (enc := enc) (C := Try.checked) false ⟨#[], #[.slice none 0 0, .int .u16 0], []⟩ 8 (by kernel_rfl) (by kernel_rfl) (by kernel_rfl) (by kernel_rfl)) ?_
  intro W base args ds gs before hval0 hW hcnd hsz0 _
  have hsz : (DataW.weightsEach Try.prog (Try.f5.params.toList ++ Rows.entriesListsSpec.plain.varTypes Try.prog) (ds ++ gs)).all (· ≤ reachBytes) = true := hsz0
  have hval : ∀ (j : Nat) t v, Try.f5.params[j]? = some t → args[j]? = some v → Value.okWide Try.prog W .any base t v := hval0
  have hW' := hW
  obtain ⟨p, q, hA0, hV, rfl, hfz, hnd⟩ := hW
  have hA : DataW.TrodAll enc Try.prog W 0 (fun _ => true) true Try.f5.params.toList args.toList ds p := hA0
  rw [Try.params5] at hA hval hsz
  obtain ⟨v0, vs0, d0, ds0, p0, q0, hargs, rfl, rfl, h0, r0⟩ := trodAll_cons hA
  obtain ⟨v1, vs1, d1, ds1, p1, q1, rfl, rfl, rfl, h1, r1⟩ := trodAll_cons r0
  obtain ⟨rfl, rfl, rfl⟩ := trodAll_nil r1
  obtain rfl : args = #[v0, v1] := by cases args; simp_all
  obtain ⟨rfl, rfl⟩ := trodVars_none hV
  obtain ⟨a0, len0, cap0, rfl⟩ := okWide_slice Try.underlying23 (hval 0 23 v0 rfl rfl)
  have k0 := h0
  have lt0 : ∀ x ∈ p0, x.block < W.heap.size := by obtain ⟨m, hm⟩ := k0; exact DataW.trod_lt m _ _ _ hm
  obtain ⟨z0, w0⟩ : ∃ zs, IsRow .u8 W a0 len0 cap0 zs := by
    obtain ⟨fuel, hf⟩ := h0
    rcases open_ints Try.underlying23 Try.underlying5 (by kernel_rfl) hf with ⟨hcs, _⟩ | ⟨x, l, c, zs, hcs, _, hl, hm, hz, _, hcell, hwz⟩
    · simp [Value.cells] at hcs
      obtain ⟨rfl, rfl, rfl⟩ := hcs
      exact ⟨[], .inl ⟨rfl, rfl, rfl, rfl⟩⟩
    · simp [Value.cells] at hcs
      obtain ⟨rfl, rfl, rfl⟩ := hcs
      exact ⟨zs, .inr ⟨_, rfl, hl, hm, by simpa using hz, hcell, hwz⟩⟩
  have y0 : len0 * 1 ≤ 140737488351232 := Go.Proofs.YtkkflgdobgbmmaaW.PrintWords.sized_ints hsz (j := 0) (t := 23) rfl rfl Try.underlying23 Try.underlying5 (by kernel_rfl) (by kernel_rfl) h0
  obtain ⟨a1, rfl, rfl, rfl, w1⟩ := open_int Try.underlying41 (hval 1 41 v1 rfl rfl) h1
  clear hA0 hval0 hsz0 hsz
  refine (Q.reliquarylaw22_EntriesLists.walk Pure.EntriesLists a0 len0 cap0 z0 a1 W w0 y0 w1).mono fun e W' ⟨he, bel⟩ => ?_
  subst he
  exact ⟨_, rfl, _, _, _, [], _, [], hW', trodAll_mk1 (shut_bool Try.underlying4 _), (trodAll_cons_mk (Below.trod laidOut (by kernel_rfl) (of_decide_eq_true (by kernel_rfl)) k0 bel lt0) (trodAll_cons_mk (shut_int Try.underlying41 w1) trodAll_mk0)), rfl, bel.frame _, fun h => by cases h⟩
theorem over : Rows.entriesListsRow.holds Try.pinned (OpenSpec.ofChange Rows.entriesListsSpec) :=
  OpenClaim.holds_of_wide 5 Try.f5 rfl rfl rfl rfl rfl rfl rfl ⟨rfl, rfl, rfl, rfl, rfl⟩ rfl rfl rfl rfl rfl (by kernel_rfl) Try.func5 (by kernel_rfl)
    (of_decide_eq_true (by kernel_rfl)) (by unfold Func.isWrapper; first | (rw [if_pos (by decide +kernel)]; kernel_rfl) | (rw [if_neg (by decide +kernel)]; exact ⟨rfl, rfl⟩))
    (fun os started H enc _ => lifted os started H enc)
theorem proved : Rows.EntriesListsSaid := over
#print axioms proved
end Go.Proofs.Ytkkflgdobgbmmaa.entriesLists
namespace Go.Proofs.Ytkkflgdobgbmmaa
/-- The row, under a short name, for the claim. -/
theorem entriesLists_holds : Rows.EntriesListsSaid := entriesLists.proved
end Go.Proofs.Ytkkflgdobgbmmaa
end
