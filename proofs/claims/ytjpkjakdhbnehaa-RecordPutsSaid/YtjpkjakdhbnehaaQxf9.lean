-- Written by this session's own program (ext_print.py) over the kit's print.py, hand proofs among it. Not trusted: Lean checks it.
import Derived.Test.YtjpkjakdhbnehaaQx0
namespace Go.Proofs.Ytjpkjakdhbnehaa.Q
open Go.RowKit Go.Proofs.YtjpkjakdhbnehaaW.PrintWords Go.Proofs.YtjpkjakdhbnehaaW.PrintLast Go.Proofs.YtjpkjakdhbnehaaW.PrintMore
attribute [local go_sem] max2_int min2_int max_two min_two max_three min_three max_four min_four   -- for this text's walks alone
set_option linter.unusedVariables false
set_option linter.unusedSimpArgs false

/-! ### reliquarylaw12_images: function 9 -/
mutual
def reliquarylaw12_images.l0 : Nat → List (S25) → Bool → List (S25) → Int → Option ((List (S25)))
  | 0, _, _, _, _ => none
  | k + 1, x0, x1, x5, x6 => if x6 < (x0.length : Int) then (if x1 = true then (reliquarylaw12_images.j1 k x0 x1 x5 x6 160 (x6 == 1)) else (reliquarylaw12_images.j1 k x0 x1 x5 x6 160 false)) else (some x5)
def reliquarylaw12_images.j1 : Nat → List (S25) → Bool → List (S25) → Int → Int → Bool → Option ((List (S25)))
  | 0, _, _, _, _, _, _ => none
  | k + 1, x0, x1, x5, x6, x7, x20 => if x20 = true then (reliquarylaw12_images.j2 k x0 x1 x5 x6 159) else (reliquarylaw12_images.j2 k x0 x1 x5 x6 x7)
def reliquarylaw12_images.j2 : Nat → List (S25) → Bool → List (S25) → Int → Int → Option ((List (S25)))
  | 0, _, _, _, _, _ => none
  | k + 1, x0, x1, x5, x6, x7 => if 0 ≤ x7 then (if (x7 : Int).toNat ≤ 281474976710656 then (reliquarylaw12_images.l1 k x0 x1 x5 x6 x7 (List.replicate (x7 : Int).toNat 0) 0) else (none)) else (none)
def reliquarylaw12_images.l1 : Nat → List (S25) → Bool → List (S25) → Int → Int → List Int → Int → Option ((List (S25)))
  | 0, _, _, _, _, _, _, _ => none
  | k + 1, x0, x1, x5, x6, x7, x8, x9 => if 0 ≤ x6 then (if x6 < (x0.length : Int) then (if x9 < (((rd_T25 x0 x6).f1).length : Int) then (if x9 < x7 then (if 0 ≤ x9 then (if x9 < (x8.length : Int) then (reliquarylaw12_images.l1 k x0 x1 x5 x6 x7 (x8.set (x9 : Int).toNat (rd ((rd_T25 x0 x6).f1) x9)) (wrap64 (x9 + 1))) else (none)) else (none)) else (if x5.length < 4398046511104 then (reliquarylaw12_images.l0 k x0 x1 (x5 ++ [(⟨(rd_T25 x0 x6).f0, x8⟩ : S25)]) (wrap64 (x6 + 1))) else (none))) else (if x5.length < 4398046511104 then (reliquarylaw12_images.l0 k x0 x1 (x5 ++ [(⟨(rd_T25 x0 x6).f0, x8⟩ : S25)]) (wrap64 (x6 + 1))) else (none))) else (none)) else (none)
end
def reliquarylaw12_images.f (k : Nat) (l0 : List (S25)) (a1 : Bool) : Option ((List (S25))) := reliquarylaw12_images.l0 k l0 a1 ([] : List (S25)) 0
theorem reliquarylaw12_images.mono_l : ∀ k, (∀ y0 y1 y2 y3, LeO (reliquarylaw12_images.l0 k y0 y1 y2 y3) (reliquarylaw12_images.l0 (k + 1) y0 y1 y2 y3)) ∧ (∀ y0 y1 y2 y3 y4 y5, LeO (reliquarylaw12_images.j1 k y0 y1 y2 y3 y4 y5) (reliquarylaw12_images.j1 (k + 1) y0 y1 y2 y3 y4 y5)) ∧ (∀ y0 y1 y2 y3 y4, LeO (reliquarylaw12_images.j2 k y0 y1 y2 y3 y4) (reliquarylaw12_images.j2 (k + 1) y0 y1 y2 y3 y4)) ∧ (∀ y0 y1 y2 y3 y4 y5 y6, LeO (reliquarylaw12_images.l1 k y0 y1 y2 y3 y4 y5 y6) (reliquarylaw12_images.l1 (k + 1) y0 y1 y2 y3 y4 y5 y6))
  | 0 => ⟨fun _ _ _ _ r h => by simp [reliquarylaw12_images.l0] at h, fun _ _ _ _ _ _ r h => by simp [reliquarylaw12_images.j1] at h, fun _ _ _ _ _ r h => by simp [reliquarylaw12_images.j2] at h, fun _ _ _ _ _ _ _ r h => by simp [reliquarylaw12_images.l1] at h⟩
  | k + 1 => by
    obtain ⟨ih0, ih1, ih2, ih3⟩ := reliquarylaw12_images.mono_l k
    refine ⟨?_, ?_, ?_, ?_⟩
    · intro y0 y1 y2 y3
      unfold reliquarylaw12_images.l0
      repeat' first
      | (with_reducible exact ih0 _ _ _ _)
      | (with_reducible exact ih1 _ _ _ _ _ _)
      | (with_reducible exact ih2 _ _ _ _ _)
      | (with_reducible exact ih3 _ _ _ _ _ _ _)
      | (with_reducible exact LeO.refl _)
      | (with_reducible exact LeO.none _)
      | (with_reducible refine LeO.ite ?_ ?_)
      | (with_reducible refine LeO.bind ?_ (fun _ => ?_))
      | exact ih0 _ _ _ _
      | exact ih1 _ _ _ _ _ _
      | exact ih2 _ _ _ _ _
      | exact ih3 _ _ _ _ _ _ _
      | exact LeO.none _
      | refine LeO.ite ?_ ?_
      | refine LeO.bind ?_ (fun _ => ?_)
    · intro y0 y1 y2 y3 y4 y5
      unfold reliquarylaw12_images.j1
      repeat' first
      | (with_reducible exact ih0 _ _ _ _)
      | (with_reducible exact ih1 _ _ _ _ _ _)
      | (with_reducible exact ih2 _ _ _ _ _)
      | (with_reducible exact ih3 _ _ _ _ _ _ _)
      | (with_reducible exact LeO.refl _)
      | (with_reducible exact LeO.none _)
      | (with_reducible refine LeO.ite ?_ ?_)
      | (with_reducible refine LeO.bind ?_ (fun _ => ?_))
      | exact ih0 _ _ _ _
      | exact ih1 _ _ _ _ _ _
      | exact ih2 _ _ _ _ _
      | exact ih3 _ _ _ _ _ _ _
      | exact LeO.none _
      | refine LeO.ite ?_ ?_
      | refine LeO.bind ?_ (fun _ => ?_)
    · intro y0 y1 y2 y3 y4
      unfold reliquarylaw12_images.j2
      repeat' first
      | (with_reducible exact ih0 _ _ _ _)
      | (with_reducible exact ih1 _ _ _ _ _ _)
      | (with_reducible exact ih2 _ _ _ _ _)
      | (with_reducible exact ih3 _ _ _ _ _ _ _)
      | (with_reducible exact LeO.refl _)
      | (with_reducible exact LeO.none _)
      | (with_reducible refine LeO.ite ?_ ?_)
      | (with_reducible refine LeO.bind ?_ (fun _ => ?_))
      | exact ih0 _ _ _ _
      | exact ih1 _ _ _ _ _ _
      | exact ih2 _ _ _ _ _
      | exact ih3 _ _ _ _ _ _ _
      | exact LeO.none _
      | refine LeO.ite ?_ ?_
      | refine LeO.bind ?_ (fun _ => ?_)
    · intro y0 y1 y2 y3 y4 y5 y6
      unfold reliquarylaw12_images.l1
      repeat' first
      | (with_reducible exact ih0 _ _ _ _)
      | (with_reducible exact ih1 _ _ _ _ _ _)
      | (with_reducible exact ih2 _ _ _ _ _)
      | (with_reducible exact ih3 _ _ _ _ _ _ _)
      | (with_reducible exact LeO.refl _)
      | (with_reducible exact LeO.none _)
      | (with_reducible refine LeO.ite ?_ ?_)
      | (with_reducible refine LeO.bind ?_ (fun _ => ?_))
      | exact ih0 _ _ _ _
      | exact ih1 _ _ _ _ _ _
      | exact ih2 _ _ _ _ _
      | exact ih3 _ _ _ _ _ _ _
      | exact LeO.none _
      | refine LeO.ite ?_ ?_
      | refine LeO.bind ?_ (fun _ => ?_)
theorem reliquarylaw12_images.mono : ∀ a0 a1 k, LeO (reliquarylaw12_images.f k a0 a1) (reliquarylaw12_images.f (k + 1) a0 a1) := by
  intro a0 a1 k
  obtain ⟨ih0, ih1, ih2, ih3⟩ := reliquarylaw12_images.mono_l k
  unfold reliquarylaw12_images.f
  repeat' first
      | (with_reducible exact ih0 _ _ _ _)
      | (with_reducible exact ih1 _ _ _ _ _ _)
      | (with_reducible exact ih2 _ _ _ _ _)
      | (with_reducible exact ih3 _ _ _ _ _ _ _)
      | (with_reducible exact LeO.refl _)
      | (with_reducible exact LeO.none _)
      | (with_reducible refine LeO.ite ?_ ?_)
      | (with_reducible refine LeO.bind ?_ (fun _ => ?_))
      | exact ih0 _ _ _ _
      | exact ih1 _ _ _ _ _ _
      | exact ih2 _ _ _ _ _
      | exact ih3 _ _ _ _ _ _ _
      | exact LeO.none _
      | refine LeO.ite ?_ ?_
      | refine LeO.bind ?_ (fun _ => ?_)
set_option maxHeartbeats 8000000 in
set_option maxRecDepth 100000 in
theorem reliquarylaw12_images.calls (k : Nat) (A0 : Option Addr) (c0 : Nat) (l0 : List (S25)) (a1 : Bool) (r : List (S25)) (w : World) (hr0 : Kd.C k25 w A0 l0.length l0) (hc0 : l0.length ≤ c0) (h : reliquarylaw12_images.f k l0 a1 = some r) :
    Calls Try.prog 9 #[.slice A0 l0.length c0, .bool a1] w fun e w' => ∃ v0_ : Value, e = .returned (v0_) ∧ Kd.S k25 25 w' w.heap.size (fun _ => True) v0_ r ∧ Below w.heap.size w w' := by
  have hu25 := Try.underlying25
  have HR0 := Aside0.mk hr0
  have HC0 := Aside0.mk hc0
  clear hr0 hc0
  have HB := Aside0.mk (Below.refl w.heap.size w)
  have H : (reliquarylaw12_images.l0 k l0 a1 ([] : List (S25)) 0) = some r := h
  clear h
  have H' := Aside0.mk H
  clear H
  go_enter Try.func9, Try.ntmps9
  go_wp2
  go_loopg [5, 6] k (fun kq v5 v6 w' => ∃ (x5_1 : List (S25)) (x6_1 : Int), v6 = .int .i64 x6_1 ∧ Aside0 (reliquarylaw12_images.l0 kq l0 a1 x5_1 x6_1 = some r) ∧ Aside0 (kq ≤ k) ∧ Aside0 (Kd.S k25 25 w' w.heap.size (fun _ => True) v5 x5_1) ∧ Aside0 (Below w.heap.size w w'))
  case atStart => exact ⟨(([] : List (S25))), (0), (by first | rfl | (simp; done) | (simp [*]; done)), H', ⟨Nat.le_refl _⟩, ⟨by first | exact Kd.S_nil _ _ _ _ _ | exact Kd.N_nil _ _ _ _ _ | exact Kd.V_nil _ _ _ _ _ | exact Kd.Q_nil _ _ _ _ _ | exact Kd.R_nil _ _ _ _ _⟩, ⟨by repeat (first | (with_reducible first | exact HB.out | apply below_alloc | apply pw_below_drewN | apply below_drew1) | exact HB.out)⟩⟩
  case round =>
    clear H'
    try clear p2
    obtain ⟨x5_1, x6_1, rfl, HA, HK1, HO_5, HB⟩ := hrel
    cases gk with
    | zero => exact absurd HA.out (by simp [reliquarylaw12_images.l0])
    | succ k1 =>
      have H := HA.out
      clear HA
      simp only [reliquarylaw12_images.l0] at H
      by_cases c3 : x6_1 < (l0.length : Int)
      · rw [if_pos c3] at H
        have c3b0 : decide (x6_1 < (l0.length : Int)) = true := decide_eq_true c3
        clear c3
        have HC4 := Aside0.mk H
        clear H
        go_upto_region 6 with (fail)
        go_cut [20] (fun v20 wc => ∃ (kq : Nat) (x20_3 : Bool), v20 = .bool x20_3 ∧ Aside0 (reliquarylaw12_images.j1 kq l0 a1 x5_1 x6_1 160 x20_3 = some r) ∧ Aside0 (kq ≤ k1) ∧ Aside0 (Kd.S k25 25 wc w.heap.size (fun _ => True) u5 x5_1) ∧ Aside0 (Below w.heap.size w wc))
        case first =>
          have H := HC4.out
          clear HC4
          by_cases c5 : a1 = true
          · subst c5
            have H1 : (reliquarylaw12_images.j1 k1 l0 true x5_1 x6_1 160 (x6_1 == 1)) = some r := by rw [if_pos rfl] at H; exact H
            clear H
            have H := H1
            clear H1
            have H' := Aside0.mk H
            clear H
            go_wp2
            go_meet
            case rel => exact ⟨_, ((x6_1 == 1)), (by first | rfl | (simp; done) | (simp [*]; done)), H', ⟨by have := HK1.out; first | omega | exact Nat.le_refl _⟩, ⟨by (with_reducible repeat (first | apply Kd.S_alloc | apply Kd.S_drewN | apply Kd.S_drew)); exact HO_5.out⟩, ⟨by repeat (first | (with_reducible first | exact HB.out | apply below_alloc | apply pw_below_drewN | apply below_drew1) | exact HB.out)⟩⟩
          · replace c5 := Bool.eq_false_iff.mpr c5
            subst c5
            have H1 : (reliquarylaw12_images.j1 k1 l0 false x5_1 x6_1 160 false) = some r := by rw [if_neg (show ¬ (false = true) by decide)] at H; exact H
            clear H
            have H := H1
            clear H1
            have H' := Aside0.mk H
            clear H
            go_wp2
            go_meet
            case rel => exact ⟨_, (false), (by first | rfl | (simp; done) | (simp [*]; done)), H', ⟨by have := HK1.out; first | omega | exact Nat.le_refl _⟩, ⟨by (with_reducible repeat (first | apply Kd.S_alloc | apply Kd.S_drewN | apply Kd.S_drew)); exact HO_5.out⟩, ⟨by repeat (first | (with_reducible first | exact HB.out | apply below_alloc | apply pw_below_drewN | apply below_drew1) | exact HB.out)⟩⟩
        case rest =>
          clear HC4
          try clear p2
          try clear c3
          try clear c3b0
          try clear c5
          try clear p2
          obtain ⟨kq, x20_3, rfl, HA, HJ3, HO_5, HB⟩ := hcut
          cases kq with
          | zero => exact absurd HA.out (by simp [reliquarylaw12_images.j1])
          | succ kj3 =>
            have H := HA.out
            clear HA
            simp only [reliquarylaw12_images.j1] at H
            have HC6 := Aside0.mk H
            clear H
            go_upto_if 20 with (fail)
            go_cut [7] (fun v7 wc => ∃ (kq : Nat) (x7_5 : Int), v7 = .int .i64 x7_5 ∧ Aside0 (reliquarylaw12_images.j2 kq l0 a1 x5_1 x6_1 x7_5 = some r) ∧ Aside0 (kq ≤ kj3) ∧ Aside0 (Kd.S k25 25 wc w.heap.size (fun _ => True) u5 x5_1) ∧ Aside0 (Below w.heap.size w wc))
            case first =>
              have H := HC6.out
              clear HC6
              by_cases c7 : x20_3 = true
              · subst c7
                have H1 : (reliquarylaw12_images.j2 kj3 l0 a1 x5_1 x6_1 159) = some r := by rw [if_pos rfl] at H; exact H
                clear H
                have H := H1
                clear H1
                have H' := Aside0.mk H
                clear H
                go_wp2
                go_meet
                case rel => exact ⟨_, (159), (by first | rfl | (simp; done) | (simp [*]; done)), H', ⟨by have := HK1.out; have := HJ3.out; first | omega | exact Nat.le_refl _⟩, ⟨by (with_reducible repeat (first | apply Kd.S_alloc | apply Kd.S_drewN | apply Kd.S_drew)); exact HO_5.out⟩, ⟨by repeat (first | (with_reducible first | exact HB.out | apply below_alloc | apply pw_below_drewN | apply below_drew1) | exact HB.out)⟩⟩
              · replace c7 := Bool.eq_false_iff.mpr c7
                subst c7
                have H1 : (reliquarylaw12_images.j2 kj3 l0 a1 x5_1 x6_1 160) = some r := by rw [if_neg (show ¬ (false = true) by decide)] at H; exact H
                clear H
                have H := H1
                clear H1
                have H' := Aside0.mk H
                clear H
                go_wp2
                go_meet
                case rel => exact ⟨_, (160), (by first | rfl | (simp; done) | (simp [*]; done)), H', ⟨by have := HK1.out; have := HJ3.out; first | omega | exact Nat.le_refl _⟩, ⟨by (with_reducible repeat (first | apply Kd.S_alloc | apply Kd.S_drewN | apply Kd.S_drew)); exact HO_5.out⟩, ⟨by repeat (first | (with_reducible first | exact HB.out | apply below_alloc | apply pw_below_drewN | apply below_drew1) | exact HB.out)⟩⟩
            case rest =>
              clear HC6
              try clear p2
              try clear c3
              try clear c3b0
              try clear c5
              try clear c7
              try clear p2
              obtain ⟨kq, x7_5, rfl, HA, HJ5, HO_5, HB⟩ := hcut
              cases kq with
              | zero => exact absurd HA.out (by simp [reliquarylaw12_images.j2])
              | succ kj5 =>
                have H := HA.out
                clear HA
                simp only [reliquarylaw12_images.j2] at H
                by_cases c8 : 0 ≤ x7_5
                · rw [if_pos c8] at H
                  have c8b0 := eq_true c8
                  have c8b1 : decide (0 ≤ x7_5) = true := decide_eq_true c8
                  clear c8
                  by_cases c9 : (x7_5 : Int).toNat ≤ 281474976710656
                  · rw [if_pos c9] at H
                    have c9b0 := eq_true c9
                    have c9b1 : decide ((x7_5 : Int).toNat ≤ 281474976710656) = true := decide_eq_true c9
                    clear c9
                    obtain ⟨y184, hy184⟩ : ∃ y_ : List Int, y_ = (List.replicate (x7_5 : Int).toNat 0) := ⟨_, rfl⟩
                    replace H : (reliquarylaw12_images.l1 kj5 l0 a1 x5_1 x6_1 x7_5 y184 0) = some r := by first | (rw [hy184]; with_reducible exact H) | (have H2_ := (Option.bind_some _ _).symm.trans H; rw [hy184]; with_reducible exact H2_) | (have H2_ := (Option.bind_some _ _).symm.trans H; with_reducible exact H2_) | with_reducible exact H | (rw [hy184]; exact H) | exact H
                    have Ny184 := Aside0.mk hy184
                    clear hy184
                    have H' := Aside0.mk H
                    clear H
                    go_wp2_with (first | ((with_reducible refine gate_dst (N := 22) rfl ?_); refine Kd.R_make (Kd.int .u8) _ 5 rfl (N := 22) rfl 23 _ _ rfl x7_5 rfl rfl Try.underlying23 (.int .u8 0) 1 info5 rfl (by decide) (by omega) 0 (ok := fun _ => True) (okp := fun _ => True) rfl (fun _ hk => hk) trivial (of_decide_eq_true (by first | (with_reducible assumption) | assumption)) (Nat.le_trans (Nat.mul_le_mul_right _ (of_decide_eq_true (by first | (with_reducible assumption) | assumption) : x7_5.toNat ≤ 281474976710656)) (by omega)) (Below.refl _ _) (Nat.le_refl _) ?_; intro v185 w10 ho11 hb hg_ hnew_; clear hg_ hnew_; (first | rw [← Ny184.out] at ho11 | (simp only [Int.reduceToNat] at ho11; rw [← Ny184.out] at ho11)); have n0_ := Aside0.mk (Kd.S_elder' (by (with_reducible repeat (first | apply Kd.S_alloc | apply Kd.S_drewN | apply Kd.S_drew)); exact HO_5.out) (Kd.R_base ho11) hb); have n1_ := Aside0.mk (Kd.R_lower ho11 (below_size (by repeat (first | (with_reducible first | exact HB.out | apply below_alloc | apply pw_below_drewN | apply below_drew1) | exact HB.out)))); have n2_ := Aside0.mk (below_step (by repeat (first | (with_reducible first | exact HB.out | apply below_alloc | apply pw_below_drewN | apply below_drew1) | exact HB.out)) hb); clear HO_5; clear HB; have HO_5 := n0_; have HO186 := n1_; have HB := n2_; clear n0_ n1_ n2_; clear hb ho11))
                    go_loopg [9] kj5 (fun kq v9 w' => ∃ (x8_4 : List Int) (x9_4 : Int), v9 = .int .i64 x9_4 ∧ Aside0 (reliquarylaw12_images.l1 kq l0 a1 x5_1 x6_1 x7_5 x8_4 x9_4 = some r) ∧ Aside0 (kq ≤ kj5) ∧ Aside0 (Kd.S k25 25 w' w.heap.size (fun k_ => some k_ ≠ (v185 : Value).ownBlock) u5 x5_1) ∧ Aside0 (Kd.R (Kd.int .u8) 5 w' w.heap.size (fun _ => True) v185 x8_4) ∧ Aside0 (Below w.heap.size w w'))
                    case atStart => exact ⟨(y184), (0), (by first | rfl | (simp; done) | (simp [*]; done)), H', ⟨Nat.le_refl _⟩, ⟨by (with_reducible repeat (first | apply Kd.S_alloc | apply Kd.S_drewN | apply Kd.S_drew)); exact Kd.S_mono HO_5.out (fun _ hk => hk.2)⟩, ⟨by (with_reducible repeat (first | apply Kd.R_alloc | apply Kd.R_drewN | apply Kd.R_drew)); exact HO186.out⟩, ⟨by repeat (first | (with_reducible first | exact HB.out | apply below_alloc | apply pw_below_drewN | apply below_drew1) | exact HB.out)⟩⟩
                    case round =>
                      clear H'
                      try clear p2
                      try clear c3
                      try clear c3b0
                      try clear c5
                      try clear c7
                      try clear c8
                      try clear c8b0
                      try clear c8b1
                      try clear c9
                      try clear c9b0
                      try clear c9b1
                      try clear p2
                      obtain ⟨x8_4, x9_4, rfl, HA, HK4, HO_5, HO_8, HB⟩ := hrel
                      cases gk with
                      | zero => exact absurd HA.out (by simp [reliquarylaw12_images.l1])
                      | succ k4 =>
                        have H := HA.out
                        clear HA
                        simp only [reliquarylaw12_images.l1] at H
                        by_cases c12 : 0 ≤ x6_1
                        · rw [if_pos c12] at H
                          have c12b0 : decide (0 ≤ x6_1) = true := decide_eq_true c12
                          clear c12
                          by_cases c13 : x6_1 < (l0.length : Int)
                          · rw [if_pos c13] at H
                            have c13b0 : decide (x6_1 < (l0.length : Int)) = true := decide_eq_true c13
                            clear c13
                            by_cases c14 : x9_4 < (((rd_T25 l0 x6_1).f1).length : Int)
                            · rw [if_pos c14] at H
                              have c14b0 : decide (x9_4 < (((rd_T25 l0 x6_1).f1).length : Int)) = true := decide_eq_true c14
                              clear c14
                              by_cases c15 : x9_4 < x7_5
                              · rw [if_pos c15] at H
                                have c15b0 : decide (x9_4 < x7_5) = true := decide_eq_true c15
                                clear c15
                                by_cases c16 : 0 ≤ x9_4
                                · rw [if_pos c16] at H
                                  have c16b0 : decide (0 ≤ x9_4) = true := decide_eq_true c16
                                  clear c16
                                  by_cases c17 : x9_4 < (x8_4.length : Int)
                                  · rw [if_pos c17] at H
                                    have c17b0 : decide (x9_4 < (x8_4.length : Int)) = true := decide_eq_true c17
                                    clear c17
                                    obtain ⟨y190, hy190⟩ : ∃ y_ : List Int, y_ = (x8_4.set (x9_4 : Int).toNat (rd ((rd_T25 l0 x6_1).f1) x9_4)) := ⟨_, rfl⟩
                                    replace H : (reliquarylaw12_images.l1 k4 l0 a1 x5_1 x6_1 x7_5 y190 (wrap64 (x9_4 + 1))) = some r := by first | (rw [hy190]; with_reducible exact H) | (have H2_ := (Option.bind_some _ _).symm.trans H; rw [hy190]; with_reducible exact H2_) | (have H2_ := (Option.bind_some _ _).symm.trans H; with_reducible exact H2_) | with_reducible exact H | (rw [hy190]; exact H) | exact H
                                    have Ny190 := Aside0.mk hy190
                                    clear hy190
                                    have H' := Aside0.mk H
                                    clear H
                                    have p187 : 0 ≤ (x6_1 : Int) := of_decide_eq_true (by first | (with_reducible assumption) | assumption)
                                    have q187 : x6_1 < (l0.length : Int) := of_decide_eq_true (by first | (with_reducible assumption) | assumption)
                                    obtain ⟨ad187, A187_1, c187_1, e187, hx187_0, hx187_1, hl187_1, hi187_1⟩ := at_T25 HR0.out x6_1 p187 q187
                                    cases e187
                                    replace hx187_0 := (HB.out.cell (World.block_lt_of_cell? w _ hx187_0)).trans hx187_0
                                    replace hx187_1 := (HB.out.cell (World.block_lt_of_cell? w _ hx187_1)).trans hx187_1
                                    have HR187_1 := Aside0.mk hi187_1
                                    have HC187_1 := Aside0.mk hl187_1
                                    clear hi187_1 hl187_1
                                    replace p187 := eq_true p187
                                    replace q187 := eq_true q187
                                    have p188 : 0 ≤ (x6_1 : Int) := of_decide_eq_true (by first | (with_reducible assumption) | assumption)
                                    have q188 : x6_1 < (l0.length : Int) := of_decide_eq_true (by first | (with_reducible assumption) | assumption)
                                    obtain ⟨ad188, A188_1, c188_1, e188, hx188_0, hx188_1, hl188_1, hi188_1⟩ := at_T25 HR0.out x6_1 p188 q188
                                    obtain rfl : ad187 = ad188 := (by injection e188)
                                    replace hx188_0 := (HB.out.cell (World.block_lt_of_cell? w _ hx188_0)).trans hx188_0
                                    replace hx188_1 := (HB.out.cell (World.block_lt_of_cell? w _ hx188_1)).trans hx188_1
                                    have HR188_1 := Aside0.mk hi188_1
                                    have HC188_1 := Aside0.mk hl188_1
                                    clear hi188_1 hl188_1
                                    replace p188 := eq_true p188
                                    replace q188 := eq_true q188
                                    have ea_ := Option.some.inj (hx187_1.symm.trans hx188_1)
                                    injection ea_ with ea_ en_ ec_
                                    subst ea_
                                    subst ec_
                                    clear en_
                                    have p189 : 0 ≤ (x9_4 : Int) := of_decide_eq_true (by first | (with_reducible assumption) | assumption)
                                    have q189 : x9_4 < (((rd_T25 l0 x6_1).f1).length : Int) := of_decide_eq_true (by first | (with_reducible assumption) | assumption)
                                    obtain ⟨ad189, e189, hx189_0⟩ := Kd.at_int HR188_1.out x9_4 p189 q189
                                    cases e189
                                    replace hx189_0 := (HB.out.cell (World.block_lt_of_cell? w _ hx189_0)).trans hx189_0
                                    replace p189 := eq_true p189
                                    replace q189 := eq_true q189
                                    have p18 : 0 ≤ (x9_4 : Int) := of_decide_eq_true (by first | (with_reducible assumption) | assumption)
                                    have q18 : (x9_4 : Int) < ((x8_4.length : Int) : Int) := of_decide_eq_true (by first | (with_reducible assumption) | assumption)
                                    obtain ⟨go18, co18, eo18, gb18, gl18, cl18, HG18⟩ := Kd.R_form HO_8.out (by omega)
                                    (first | cases eo18 | (injection eo18 with ea_ en_ ec_; (first | subst ea_ | (injection ea_ with ea_; subst ea_)); subst ec_; clear en_))
                                    have GB18 := Aside0.mk gb18
                                    have GG18 := Aside0.mk HG18
                                    clear gb18 gl18 HG18
                                    obtain ⟨hx18_0, hf18_0⟩ := Kd.R_celln 0 HO_8.out (x9_4 : Int) p18 q18
                                    replace p18 := eq_true p18
                                    replace q18 := eq_true q18
                                    have HP19 := Kd.R_putg HO_8.out (x9_4 : Int) (rd ((rd_T25 l0 x6_1).f1) x9_4)
                                    go_wp2_with (first | ((with_reducible refine gate_store (t := 5) (p := 48) rfl ?_); refine store_event (t := 5) (p := 48) (v := ?vo_w20) (w1 := (wr.setCell ⟨go18, (x9_4 : Int).toNat, none⟩ (.int .u8 (rd ((rd_T25 l0 x6_1).f1) x9_4)))) ?hg ?ho ?hn ?hr ?_; (case ho => rfl); (case hg => rfl); (case hn => rfl); (case hr => first | (go_simp; done) | (go_simp; rfl)); intro w20 hw; have hg : wr.grownBy w20 (some go18) := (by rw [hw]; exact HP19.2); have hp_ : Kd.R (Kd.int .u8) 5 w20 w.heap.size (fun _ => True) (.slice (some ⟨go18, 0, none⟩) x8_4.length co18) y190 := (by rw [hw, Ny190.out]; exact HP19.1); clear HP19; have n0_ := Aside0.mk (Kd.S_after (v := (.slice (some ⟨go18, 0, none⟩) x8_4.length co18)) (v1 := (.slice (some ⟨go18, 0, none⟩) x8_4.length co18)) (ok := (fun _ => True)) (by (with_reducible repeat (first | apply Kd.S_alloc | apply Kd.S_drewN | apply Kd.S_drew)); exact Kd.S_mono HO_5.out (fun _ hk => ⟨trivial, hk⟩)) hg (.inl rfl)); have n1_ := Aside0.mk (hp_); have n2_ := Aside0.mk ((by rw [hw]; exact below_set (HB.out) GB18.out : Below w.heap.size w w20)); clear HO_5; clear HO_8; clear HB; have HO_5 := n0_; have HO_8 := n1_; have HB := n2_; clear n0_ n1_ n2_; clear hg hw hp_))
                                    go_roundg k4
                                    case measure => have := HK1.out; have := HJ3.out; have := HJ5.out; have := HK4.out; omega
                                    case rel => exact ⟨(y190), (wrap64 (x9_4 + 1)), (by first | rfl | (simp; done) | (simp [*]; done)), H', ⟨by have := HK1.out; have := HJ3.out; have := HJ5.out; have := HK4.out; omega⟩, ⟨by (with_reducible repeat (first | apply Kd.S_alloc | apply Kd.S_drewN | apply Kd.S_drew)); exact Kd.S_mono HO_5.out (fun _ hk => hk.2)⟩, ⟨by (with_reducible repeat (first | apply Kd.R_alloc | apply Kd.R_drewN | apply Kd.R_drew)); exact HO_8.out⟩, ⟨by repeat (first | (with_reducible first | exact HB.out | apply below_alloc | apply pw_below_drewN | apply below_drew1) | exact HB.out)⟩⟩
                                  · rw [if_neg c17] at H
                                    exact absurd H (by simp)
                                · rw [if_neg c16] at H
                                  exact absurd H (by simp)
                              · rw [if_neg c15] at H
                                have c15b0 : decide (x9_4 < x7_5) = false := decide_eq_false c15
                                clear c15
                                by_cases c21 : x5_1.length < 4398046511104
                                · rw [if_pos c21] at H
                                  have LMc21 := Aside0.mk c21
                                  clear c21
                                  obtain ⟨y192, hy192⟩ : ∃ y_ : List (S25), y_ = (x5_1 ++ [(⟨(rd_T25 l0 x6_1).f0, x8_4⟩ : S25)]) := ⟨_, rfl⟩
                                  replace H : (reliquarylaw12_images.l0 k4 l0 a1 y192 (wrap64 (x6_1 + 1))) = some r := by first | (rw [hy192]; with_reducible exact H) | (have H2_ := (Option.bind_some _ _).symm.trans H; rw [hy192]; with_reducible exact H2_) | (have H2_ := (Option.bind_some _ _).symm.trans H; with_reducible exact H2_) | with_reducible exact H | (rw [hy192]; exact H) | exact H
                                  have Ny192 := Aside0.mk hy192
                                  clear hy192
                                  have H' := Aside0.mk H
                                  clear H
                                  have p187 : 0 ≤ (x6_1 : Int) := of_decide_eq_true (by first | (with_reducible assumption) | assumption)
                                  have q187 : x6_1 < (l0.length : Int) := of_decide_eq_true (by first | (with_reducible assumption) | assumption)
                                  obtain ⟨ad187, A187_1, c187_1, e187, hx187_0, hx187_1, hl187_1, hi187_1⟩ := at_T25 HR0.out x6_1 p187 q187
                                  cases e187
                                  replace hx187_0 := (HB.out.cell (World.block_lt_of_cell? w _ hx187_0)).trans hx187_0
                                  replace hx187_1 := (HB.out.cell (World.block_lt_of_cell? w _ hx187_1)).trans hx187_1
                                  have HR187_1 := Aside0.mk hi187_1
                                  have HC187_1 := Aside0.mk hl187_1
                                  clear hi187_1 hl187_1
                                  replace p187 := eq_true p187
                                  replace q187 := eq_true q187
                                  have p191 : 0 ≤ (x6_1 : Int) := of_decide_eq_true (by first | (with_reducible assumption) | assumption)
                                  have q191 : x6_1 < (l0.length : Int) := of_decide_eq_true (by first | (with_reducible assumption) | assumption)
                                  obtain ⟨ad191, A191_1, c191_1, e191, hx191_0, hx191_1, hl191_1, hi191_1⟩ := at_T25 HR0.out x6_1 p191 q191
                                  obtain rfl : ad187 = ad191 := (by injection e191)
                                  replace hx191_0 := (HB.out.cell (World.block_lt_of_cell? w _ hx191_0)).trans hx191_0
                                  replace hx191_1 := (HB.out.cell (World.block_lt_of_cell? w _ hx191_1)).trans hx191_1
                                  have HR191_1 := Aside0.mk hi191_1
                                  have HC191_1 := Aside0.mk hl191_1
                                  clear hi191_1 hl191_1
                                  replace p191 := eq_true p191
                                  replace q191 := eq_true q191
                                  have ea_ := Option.some.inj (hx187_1.symm.trans hx191_1)
                                  injection ea_ with ea_ en_ ec_
                                  subst ea_
                                  subst ec_
                                  clear en_
                                  obtain ⟨Ao22, co22, eo22⟩ := Kd.R_slice HO_8.out
                                  subst eo22
                                  go_wp2_with (first | ((with_reducible refine gate_builtin (b := .append) (xs := #[.tmp 49, .tmp 57]) rfl ?_); at_builtin; refine Kd.S_append k25 (w0 := w) w.heap.size rfl (.tmp 49) (.tmp 57) 27 25 (.agg #[(.int .u64 0), (.slice none 0 0)]) 32 rfl Try.underlying27 info25 rfl (by decide) (by omega) u5 x5_1 (⟨(rd_T25 l0 x6_1).f0, x8_4⟩ : S25) [.int .u64 ((rd_T25 l0 x6_1).f0), .slice Ao22 x8_4.length co22] (fun _ => True) (fun k_ => some k_ = (.slice Ao22 x8_4.length co22 : Value).ownBlock) rfl rfl ?aP (fun k_ hk_ => ((Kd.R_mono (ok' := fun k_ => ((fun _ => True)) k_ ∧ some k_ ≠ (u5 : Value).ownBlock) (Kd.R_apart' (HO_8.out) (Kd.S_typed HO_5.out) (by decide)) (fun k_ hk => ⟨trivial, hk.2⟩))).1 k_ hk_.symm) ?aF ?aO ?aB ?aS ?aL ?_; (case aP => exact k25_mkM _ _ _ (⟨(rd_T25 l0 x6_1).f0, x8_4⟩ : S25) (Kd.R_mono (Kd.R_tight rfl (Kd.R_mono (ok' := fun k_ => ((fun _ => True)) k_ ∧ some k_ ≠ (u5 : Value).ownBlock) (Kd.R_apart' (HO_8.out) (Kd.S_typed HO_5.out) (by decide)) (fun k_ hk => ⟨trivial, hk.2⟩))) (fun _ h_ => h_))); (case aB => exact (by repeat (first | (with_reducible first | exact HB.out | apply below_alloc | apply pw_below_drewN | apply below_drew1) | exact HB.out))); (case aF => exact (fun _ _ => trivial)); (case aO => exact (by (with_reducible repeat (first | apply Kd.S_alloc | apply Kd.S_drewN | apply Kd.S_drew)); exact Kd.S_mono HO_5.out (fun k_ hk => ⟨trivial, fun e_ => hk e_⟩))); (case aS => exact (below_size (by repeat (first | (with_reducible first | exact HB.out | apply below_alloc | apply pw_below_drewN | apply below_drew1) | exact HB.out)))); (case aL => have := LMc21.out; omega); intro v193 w23 ho hb hg hat; rw [← Ny192.out] at ho; have n0_ := Aside0.mk (hb); have n1_ := Aside0.mk (ho); clear HB; clear HO_5; clear HO_8; have HB := n0_; have HO194 := n1_; clear n0_ n1_; clear ho hb hg hat))
                                  go_roundg k4
                                  case measure => have := HK1.out; have := HJ3.out; have := HJ5.out; have := HK4.out; omega
                                  case rel => exact ⟨(y192), (wrap64 (x6_1 + 1)), (by first | rfl | (simp; done) | (simp [*]; done)), H', ⟨by have := HK1.out; have := HJ3.out; have := HJ5.out; have := HK4.out; omega⟩, ⟨by (with_reducible repeat (first | apply Kd.S_alloc | apply Kd.S_drewN | apply Kd.S_drew)); exact HO194.out⟩, ⟨by repeat (first | (with_reducible first | exact HB.out | apply below_alloc | apply pw_below_drewN | apply below_drew1) | exact HB.out)⟩⟩
                                · rw [if_neg c21] at H
                                  exact absurd H (by simp)
                            · rw [if_neg c14] at H
                              have c14b0 : decide (x9_4 < (((rd_T25 l0 x6_1).f1).length : Int)) = false := decide_eq_false c14
                              clear c14
                              by_cases c24 : x5_1.length < 4398046511104
                              · rw [if_pos c24] at H
                                have LMc24 := Aside0.mk c24
                                clear c24
                                obtain ⟨y196, hy196⟩ : ∃ y_ : List (S25), y_ = (x5_1 ++ [(⟨(rd_T25 l0 x6_1).f0, x8_4⟩ : S25)]) := ⟨_, rfl⟩
                                replace H : (reliquarylaw12_images.l0 k4 l0 a1 y196 (wrap64 (x6_1 + 1))) = some r := by first | (rw [hy196]; with_reducible exact H) | (have H2_ := (Option.bind_some _ _).symm.trans H; rw [hy196]; with_reducible exact H2_) | (have H2_ := (Option.bind_some _ _).symm.trans H; with_reducible exact H2_) | with_reducible exact H | (rw [hy196]; exact H) | exact H
                                have Ny196 := Aside0.mk hy196
                                clear hy196
                                have H' := Aside0.mk H
                                clear H
                                have p187 : 0 ≤ (x6_1 : Int) := of_decide_eq_true (by first | (with_reducible assumption) | assumption)
                                have q187 : x6_1 < (l0.length : Int) := of_decide_eq_true (by first | (with_reducible assumption) | assumption)
                                obtain ⟨ad187, A187_1, c187_1, e187, hx187_0, hx187_1, hl187_1, hi187_1⟩ := at_T25 HR0.out x6_1 p187 q187
                                cases e187
                                replace hx187_0 := (HB.out.cell (World.block_lt_of_cell? w _ hx187_0)).trans hx187_0
                                replace hx187_1 := (HB.out.cell (World.block_lt_of_cell? w _ hx187_1)).trans hx187_1
                                have HR187_1 := Aside0.mk hi187_1
                                have HC187_1 := Aside0.mk hl187_1
                                clear hi187_1 hl187_1
                                replace p187 := eq_true p187
                                replace q187 := eq_true q187
                                have p195 : 0 ≤ (x6_1 : Int) := of_decide_eq_true (by first | (with_reducible assumption) | assumption)
                                have q195 : x6_1 < (l0.length : Int) := of_decide_eq_true (by first | (with_reducible assumption) | assumption)
                                obtain ⟨ad195, A195_1, c195_1, e195, hx195_0, hx195_1, hl195_1, hi195_1⟩ := at_T25 HR0.out x6_1 p195 q195
                                obtain rfl : ad187 = ad195 := (by injection e195)
                                replace hx195_0 := (HB.out.cell (World.block_lt_of_cell? w _ hx195_0)).trans hx195_0
                                replace hx195_1 := (HB.out.cell (World.block_lt_of_cell? w _ hx195_1)).trans hx195_1
                                have HR195_1 := Aside0.mk hi195_1
                                have HC195_1 := Aside0.mk hl195_1
                                clear hi195_1 hl195_1
                                replace p195 := eq_true p195
                                replace q195 := eq_true q195
                                have ea_ := Option.some.inj (hx187_1.symm.trans hx195_1)
                                injection ea_ with ea_ en_ ec_
                                subst ea_
                                subst ec_
                                clear en_
                                obtain ⟨Ao25, co25, eo25⟩ := Kd.R_slice HO_8.out
                                subst eo25
                                go_wp2_with (first | ((with_reducible refine gate_builtin (b := .append) (xs := #[.tmp 49, .tmp 57]) rfl ?_); at_builtin; refine Kd.S_append k25 (w0 := w) w.heap.size rfl (.tmp 49) (.tmp 57) 27 25 (.agg #[(.int .u64 0), (.slice none 0 0)]) 32 rfl Try.underlying27 info25 rfl (by decide) (by omega) u5 x5_1 (⟨(rd_T25 l0 x6_1).f0, x8_4⟩ : S25) [.int .u64 ((rd_T25 l0 x6_1).f0), .slice Ao25 x8_4.length co25] (fun _ => True) (fun k_ => some k_ = (.slice Ao25 x8_4.length co25 : Value).ownBlock) rfl rfl ?aP (fun k_ hk_ => ((Kd.R_mono (ok' := fun k_ => ((fun _ => True)) k_ ∧ some k_ ≠ (u5 : Value).ownBlock) (Kd.R_apart' (HO_8.out) (Kd.S_typed HO_5.out) (by decide)) (fun k_ hk => ⟨trivial, hk.2⟩))).1 k_ hk_.symm) ?aF ?aO ?aB ?aS ?aL ?_; (case aP => exact k25_mkM _ _ _ (⟨(rd_T25 l0 x6_1).f0, x8_4⟩ : S25) (Kd.R_mono (Kd.R_tight rfl (Kd.R_mono (ok' := fun k_ => ((fun _ => True)) k_ ∧ some k_ ≠ (u5 : Value).ownBlock) (Kd.R_apart' (HO_8.out) (Kd.S_typed HO_5.out) (by decide)) (fun k_ hk => ⟨trivial, hk.2⟩))) (fun _ h_ => h_))); (case aB => exact (by repeat (first | (with_reducible first | exact HB.out | apply below_alloc | apply pw_below_drewN | apply below_drew1) | exact HB.out))); (case aF => exact (fun _ _ => trivial)); (case aO => exact (by (with_reducible repeat (first | apply Kd.S_alloc | apply Kd.S_drewN | apply Kd.S_drew)); exact Kd.S_mono HO_5.out (fun k_ hk => ⟨trivial, fun e_ => hk e_⟩))); (case aS => exact (below_size (by repeat (first | (with_reducible first | exact HB.out | apply below_alloc | apply pw_below_drewN | apply below_drew1) | exact HB.out)))); (case aL => have := LMc24.out; omega); intro v197 w26 ho hb hg hat; rw [← Ny196.out] at ho; have n0_ := Aside0.mk (hb); have n1_ := Aside0.mk (ho); clear HB; clear HO_5; clear HO_8; have HB := n0_; have HO198 := n1_; clear n0_ n1_; clear ho hb hg hat))
                                go_roundg k4
                                case measure => have := HK1.out; have := HJ3.out; have := HJ5.out; have := HK4.out; omega
                                case rel => exact ⟨(y196), (wrap64 (x6_1 + 1)), (by first | rfl | (simp; done) | (simp [*]; done)), H', ⟨by have := HK1.out; have := HJ3.out; have := HJ5.out; have := HK4.out; omega⟩, ⟨by (with_reducible repeat (first | apply Kd.S_alloc | apply Kd.S_drewN | apply Kd.S_drew)); exact HO198.out⟩, ⟨by repeat (first | (with_reducible first | exact HB.out | apply below_alloc | apply pw_below_drewN | apply below_drew1) | exact HB.out)⟩⟩
                              · rw [if_neg c24] at H
                                exact absurd H (by simp)
                          · rw [if_neg c13] at H
                            exact absurd H (by simp)
                        · rw [if_neg c12] at H
                          exact absurd H (by simp)
                  · rw [if_neg c9] at H
                    exact absurd H (by simp)
                · rw [if_neg c8] at H
                  exact absurd H (by simp)
      · rw [if_neg c3] at H
        have c3b0 : decide (x6_1 < (l0.length : Int)) = false := decide_eq_false c3
        clear c3
        obtain rfl := Option.some.inj H
        go_wp2
        go_ret
        exact ⟨_, by first | rfl | (simp [errW_none, errW_some] <;> rfl) | (simp [*, errW_none, errW_some] <;> rfl), by (with_reducible repeat (first | apply Kd.S_alloc | apply Kd.S_drewN | apply Kd.S_drew)); exact HO_5.out, by repeat (first | (with_reducible first | exact HB.out | apply below_alloc | apply pw_below_drewN | apply below_drew1) | exact HB.out)⟩

def lit2_reliquarylaw12_images.f (k : Nat) (y0_0 : Int) (y0_1 : List Int) (y1_0 : Int) (y1_1 : List Int) (x1 : Bool) := reliquarylaw12_images.f k [(⟨y0_0, y0_1⟩ : S25), (⟨y1_0, y1_1⟩ : S25)] x1
theorem lit2_reliquarylaw12_images.mono : ∀ (y0_0 : Int) (y0_1 : List Int) (y1_0 : Int) (y1_1 : List Int) (x1 : Bool) (k : Nat), LeO (lit2_reliquarylaw12_images.f k y0_0 y0_1 y1_0 y1_1 x1) (lit2_reliquarylaw12_images.f (k + 1) y0_0 y0_1 y1_0 y1_1 x1) := fun y0_0 y0_1 y1_0 y1_1 x1 k => reliquarylaw12_images.mono [(⟨y0_0, y0_1⟩ : S25), (⟨y1_0, y1_1⟩ : S25)] x1 k
theorem lit2_reliquarylaw12_images.of {k : Nat} {y0_0 : Int} {y0_1 : List Int} {y1_0 : Int} {y1_1 : List Int} {x1 : Bool} {r} (h : lit2_reliquarylaw12_images.f k y0_0 y0_1 y1_0 y1_1 x1 = some r) : reliquarylaw12_images.f k [(⟨y0_0, y0_1⟩ : S25), (⟨y1_0, y1_1⟩ : S25)] x1 = some r := h
theorem lit_at : ∀ (css : List (List Value)) (s : Nat), (∀ cs ∈ css, cs.length = s) → ∀ (j : Nat) (cs : List Value), css[j]? = some cs → ∀ (i : Nat) (u : Value), cs[i]? = some u → css.flatten[j * s + i]? = some u
  | [], s, _, j, cs, hj, i, u, hu => by simp at hj
  | c :: css, s, hs, 0, cs, hj, i, u, hu => by
    simp only [List.getElem?_cons_zero, Option.some.injEq] at hj
    subst hj
    have hi := (List.getElem?_eq_some_iff.1 hu).1
    rw [List.flatten_cons, Nat.zero_mul, Nat.zero_add, List.getElem?_append_left hi]
    exact hu
  | c :: css, s, hs, j + 1, cs, hj, i, u, hu => by
    have hc := hs c (List.mem_cons_self ..)
    rw [List.flatten_cons, List.getElem?_append_right (by rw [hc, Nat.succ_mul]; omega), hc, show (j + 1) * s + i - s = j * s + i by rw [Nat.succ_mul]; omega]
    exact lit_at css s (fun x hx => hs x (List.mem_cons_of_mem _ hx)) j cs (by simpa using hj) i u hu
/-- A literal of records, as it is laid. -/
theorem lit_C {α : Type} (d : Kd α) {E : TypeId} (W : World) (css : List (List Value)) (xs : List α) (hl : css.length = xs.length) (hn : xs.length ≤ 9223372036854775807)
    (h : ∀ (j : Nat) (cs : List Value) (x : α), css[j]? = some cs → xs[j]? = some x → d.K W x cs) :
    d.C (W.alloc (.cells css.flatten.toArray E)) (some ⟨W.heap.size, 0, none⟩) xs.length xs := by
  have hs : ∀ cs ∈ css, cs.length = d.sz := by
    intro cs hcs
    obtain ⟨j, hj⟩ := List.mem_iff_getElem?.1 hcs
    have hjl := (List.getElem?_eq_some_iff.1 hj).1
    exact d.K_len (h j cs xs[j] hj (List.getElem?_eq_getElem (by omega)))
  refine ⟨rfl, hn, fun h0 => ⟨_, rfl, fun j p hj => ?_⟩⟩
  have hjl : j < xs.length := (List.getElem?_eq_some_iff.1 hj).1
  have hc : css[j]? = some css[j] := List.getElem?_eq_getElem (by omega)
  have hk := h j css[j] p hc hj
  refine ⟨css[j], d.K_len hk, d.K_below (below_alloc (Below.refl _ _) _) hk, fun i u hu => ?_⟩
  have hf := lit_at css d.sz hs j css[j] hc i u hu
  rw [add_plain]
  have hh : (W.alloc (.cells css.flatten.toArray E)).heap[W.heap.size]? = some (.cells css.flatten.toArray E (0, 0)) := by simpa using heap_alloc_new W _
  simp only [World.cell?, hh]
  simpa using hf
theorem lit_event {α : Type} (d : Kd α) {P : Program} {a : Act} {o : Oper} {ops : Array Oper} {rest : List Oper} {Q : Exit → Act → World → Prop} {W : World} {E : TypeId} {n : Nat} (hgd : o.guard = none) {N : Tmp} (hd : o.dst = some N) (css : List (List Value)) (xs : List α) (hl : css.length = xs.length) (hx : xs.length = n) (hn : xs.length ≤ 9223372036854775807)
    (hK : ∀ (j : Nat) (cs : List Value) (x : α), css[j]? = some cs → xs[j]? = some x → d.K W x cs)
    (hrun : (execOp a.eval o).run P W = .ok (.value (.slice (some ⟨W.heap.size, 0, none⟩) n n)) (W.alloc (.cells css.flatten.toArray E)))
    (h : ∀ (W1 : World) (A : Option Addr), Below W.heap.size W W1 → d.C W1 A xs.length xs → wpList P ops Q rest (a.put (some N) (.slice A xs.length n)) W1) : wpList P ops Q (o :: rest) a W := by
  refine Kd.event_run hgd hrun ?_
  rw [hd]
  have := h (W.alloc (.cells css.flatten.toArray E)) _ (below_alloc (Below.refl _ _) _) (lit_C (E := E) d W css xs hl hn hK)
  rw [hx] at this
  exact this

def lit1_reliquarylaw12_images.f (k : Nat) (y0_0 : Int) (y0_1 : List Int) (x1 : Bool) := reliquarylaw12_images.f k [(⟨y0_0, y0_1⟩ : S25)] x1
theorem lit1_reliquarylaw12_images.mono : ∀ (y0_0 : Int) (y0_1 : List Int) (x1 : Bool) (k : Nat), LeO (lit1_reliquarylaw12_images.f k y0_0 y0_1 x1) (lit1_reliquarylaw12_images.f (k + 1) y0_0 y0_1 x1) := fun y0_0 y0_1 x1 k => reliquarylaw12_images.mono [(⟨y0_0, y0_1⟩ : S25)] x1 k
theorem lit1_reliquarylaw12_images.of {k : Nat} {y0_0 : Int} {y0_1 : List Int} {x1 : Bool} {r} (h : lit1_reliquarylaw12_images.f k y0_0 y0_1 x1 = some r) : reliquarylaw12_images.f k [(⟨y0_0, y0_1⟩ : S25)] x1 = some r := h

end Go.Proofs.Ytjpkjakdhbnehaa.Q
