/- Roads, in plain words; the statement InodeRoads. -/
import Derived.Test.YtpdobinpndfgfaaHAwake
import Derived.Test.YtpdobinpndfgfaaQxf14
import Derived.Test.YtpdobinpndfgfaaQxf15
namespace Go.Proofs.Ytpdobinpndfgfaa.Q
open Go.RowKit Go.Proofs.YtpdobinpndfgfaaW.PrintWords Go.Proofs.YtpdobinpndfgfaaW.PrintLast Go.Proofs.YtpdobinpndfgfaaW.PrintMore Go.Proofs.Ytpdobinpndfgfaa.Pure
attribute [local go_sem] max2_int min2_int max_two min_two max_three min_three max_four min_four
set_option linter.unusedVariables false
set_option linter.unusedSimpArgs false
def roadV (i : Int) : Int × List Int × Int :=
  if i < 0 ∨ 6483 ≤ i then (0, [], 27) else if i < 3 then (i, [], 0) else if i < 83 then (3, [i - 3], 0) else (4, [(i - 83) / 80, (i - 83) % 80], 0)
theorem road_eq (i : Int) : inode_Road.f 9 i = some (roadV i) := by
  have h : ∀ b : Bool, (b = true ↔ (i < 0 ∨ 6483 ≤ i)) → inode_Road.j0 9 i b = some (roadV i) := by
    intro b hb
    simp only [inode_Road.j0]
    unfold roadV
    by_cases h : b = true
    · rw [if_pos h, if_pos (hb.1 h)]
    · have h2 : ¬ (i < 0 ∨ 6483 ≤ i) := fun h3 => h (hb.2 h3)
      rw [if_neg h, if_neg h2]
      by_cases h3 : i < 3
      · rw [if_pos h3, if_pos h3]
      · rw [if_neg h3, if_neg h3]
        by_cases h83 : i < 83
        · rw [if_pos h83, if_pos h83, wrap64_id (by omega) (by omega)]
        · rw [if_neg h83, if_neg h83, wrap64_id (n := i - 83) (by omega) (by omega), Int.tdiv_eq_ediv_of_nonneg (by omega), Int.tmod_eq_emod_of_nonneg (by omega), wrap64_id (by omega) (by omega)]
  unfold inode_Road.f
  by_cases h0 : i < 0
  · rw [if_pos h0]
    exact h true (by simp [h0])
  · rw [if_neg h0]
    exact h _ (by simp only [decide_eq_true_eq, ge_iff_le]; omega)
theorem ref_loop : ∀ (n : Nat) (x5 x6 : Int) (k : Nat), 0 ≤ x5 → x5 < 80 * ((n : Int) + 1) → 0 ≤ x6 → x6 + n ≤ 1000 → n < k → reliquaryref19_Road.l0 k x5 x6 = some (4, [x6 + x5 / 80, x5 % 80], 0) := by
  intro n
  induction n with
  | zero =>
    intro x5 x6 k h0 h1 h6 h7 hk
    obtain ⟨k, rfl⟩ : ∃ m, k = m + 1 := ⟨k - 1, by omega⟩
    simp only [reliquaryref19_Road.l0]
    rw [if_neg (by omega), show x6 + x5 / 80 = x6 by omega, show x5 % 80 = x5 by omega]
  | succ n ih =>
    intro x5 x6 k h0 h1 h6 h7 hk
    obtain ⟨k, rfl⟩ : ∃ m, k = m + 1 := ⟨k - 1, by omega⟩
    simp only [reliquaryref19_Road.l0]
    by_cases h : x5 ≥ 80
    · rw [if_pos h, wrap64_id (by omega) (by omega), wrap64_id (by omega) (by omega)]
      rw [ih (x5 - 80) (x6 + 1) k (by omega) (by omega) (by omega) (by omega) (by omega), show x6 + 1 + (x5 - 80) / 80 = x6 + x5 / 80 by omega, show (x5 - 80) % 80 = x5 % 80 by omega]
    · rw [if_neg h, show x6 + x5 / 80 = x6 by omega, show x5 % 80 = x5 by omega]
theorem refroad_eq (i : Int) : reliquaryref19_Road.f 100 i = some (roadV i) := by
  have h : ∀ b : Bool, (b = true ↔ (i < 0 ∨ 6483 ≤ i)) → reliquaryref19_Road.j0 100 i b = some (roadV i) := by
    intro b hb
    rw [show (100 : Nat) = 99 + 1 from rfl]
    simp only [reliquaryref19_Road.j0]
    unfold roadV
    by_cases h : b = true
    · rw [if_pos h, if_pos (hb.1 h)]
    · have h2 : ¬ (i < 0 ∨ 6483 ≤ i) := fun h3 => h (hb.2 h3)
      rw [if_neg h, if_neg h2]
      by_cases h3 : i < 3
      · rw [if_pos h3, if_pos h3]
      · rw [if_neg h3, if_neg h3]
        by_cases h83 : i < 83
        · rw [if_pos h83, if_pos h83, wrap64_id (by omega) (by omega)]
        · rw [if_neg h83, if_neg h83, wrap64_id (n := i - 83) (by omega) (by omega), ref_loop 80 (i - 83) 0 99 (by omega) (by omega) (by omega) (by omega) (by omega), Int.zero_add]
  unfold reliquaryref19_Road.f
  by_cases h0 : i < 0
  · rw [if_pos h0]
    exact h true (by simp [h0])
  · rw [if_neg h0]
    exact h _ (by simp only [decide_eq_true_eq, gt_iff_lt]; omega)
/-- What stays through the roads' loops. -/
structure IR (w w' : World) (A : Option Addr) (l : List Int) (B : Option Addr) (m : List Int) : Prop where
  below : Below w.heap.size w w'
  a : Kd.C (Kd.int .i64) w' A l.length l
  b : Kd.C (Kd.int .i64) w' B m.length m
theorem IR.go {w w1 w2 : World} {A B : Option Addr} {l m : List Int} (h : IR w w1 A l B m) (hb : Below w1.heap.size w1 w2) : IR w w2 A l B m :=
  ⟨h.below.trans (hb.mono h.below.size), Kd.C_below h.a hb, Kd.C_below h.b hb⟩
set_option maxHeartbeats 4000000 in
set_option maxRecDepth 100000 in
theorem InodeRoads.walk (w : World) (i0 : Int) (hi0 : (Lit.int .i64 i0).wf = true) :
    Calls Try.prog 4 #[.int .i64 i0] w fun e w' => e = .returned (.bool true) ∧ Below w.heap.size w w' := by
  clear hi0
  obtain ⟨k, l, e, hr⟩ : ∃ k l e, roadV i0 = (k, l, e) := ⟨_, _, _, rfl⟩
  have H1 := Aside0.mk (show inode_Road.f 9 i0 = some (k, l, e) from by rw [road_eq, hr])
  have H2 := Aside0.mk (show reliquaryref19_Road.f 100 i0 = some (k, l, e) from by rw [refroad_eq, hr])
  have hl2 : l.length ≤ 2 := by
    have h1 : l = (roadV i0).2.1 := by rw [hr]
    rw [h1]
    unfold roadV
    split
    · exact Nat.zero_le _
    · split
      · exact Nat.zero_le _
      · split
        · exact Nat.le_succ _
        · exact Nat.le_refl _
  have HL2 := Aside0.mk hl2
  clear hr hl2
  go_enter Try.func4, Try.ntmps4
  go_wp2_with (first | (go_at_call 8; (with_reducible refine (awake19.calls _).mono ?_); rintro e w3 ⟨rfl, hb⟩; have HB := Aside0.mk hb; clear hb) | (go_at_call 14; (with_reducible refine (inode_Road.calls 9 i0 k l e _ H1.out).mono ?_); rintro e9 w1 ⟨v1, rfl, ho, hb⟩; obtain ⟨A1, c1, rfl, hl1, hc1⟩ := Kd.R_reads ho; have HC1 := Aside0.mk hc1; have n2_ := Aside0.mk (HB.out.trans (hb.mono HB.out.size)); clear ho hb hl1 hc1 HB; have HB := n2_; clear n2_) | (go_at_call 15; (with_reducible refine (reliquaryref19_Road.calls 100 i0 k l e _ H2.out).mono ?_); rintro e9 w2 ⟨v2, rfl, ho, hb⟩; obtain ⟨A2, c2, rfl, hl1, hc1⟩ := Kd.R_reads ho; have HI := Aside0.mk (show IR w w2 A1 l A2 l from ⟨HB.out.trans (hb.mono HB.out.size), Kd.C_below HC1.out hb, hc1⟩); clear ho hb hl1 hc1 HB HC1))
  go_loopg [10] l.length (fun gk v10 w' => ∃ i : Nat, v10 = .int .i64 i ∧ Aside0 (gk + i = l.length) ∧ Aside0 (IR w w' A1 l A2 l))
  case atStart => exact ⟨0, rfl, ⟨rfl⟩, HI⟩
  case round =>
    clear HI
    obtain ⟨i, rfl, HN, HI⟩ := hrel
    by_cases hi : i < l.length
    · have hil : (i : Int) < (l.length : Int) := by omega
      have hit : (i < l.length) = True := eq_true hi
      have HIL := Aside0.mk hi
      obtain ⟨ad1, rfl, hcell1⟩ := reads_some HI.out.a (by omega)
      obtain ⟨ad2, rfl, hcell2⟩ := reads_some HI.out.b (by omega)
      have HX1 := Aside0.mk (hcell1 i hi)
      have HX2 := Aside0.mk (hcell2 i hi)
      have hwi : wrap64 ((i : Int) + 1) = (i : Int) + 1 := wrap64_id (by omega) (by have := HL2.out; omega)
      clear hi hcell1 hcell2
      go_wp2
      refine mono_region (T := _) (B := [0, 0, 3, 7, 0, 0, 48, 112, 255]) (n := 9) [(0, 47, VP.is (Value.slice (some ad1) l.length c1)), (1, 48, VP.is (Value.int .i64 i)), (2, 49, VP.is (Value.pointer (some (ad1.add i)))), (3, 50, VP.is (Value.int .i64 (l.getD i 0))), (4, 51, VP.is (Value.slice (some ad2) l.length c2)), (5, 52, VP.is (Value.int .i64 i)), (6, 53, VP.is (Value.pointer (some (ad2.add i)))), (7, 54, VP.is (Value.int .i64 (l.getD i 0))), (8, 55, VP.is (Value.bool false))] rfl (by kernel_rfl) (by kernel_rfl) rfl (by kernel_rfl) (by kernel_rfl) (by kernel_rfl) (by kernel_rfl) (by kernel_rfl) ?_ ?_
      · refine ms_cons ?_ <| ms_cons ?_ <| ms_cons ?_ <| ms_cons ?_ <| ms_cons ?_ <| ms_cons ?_ <| ms_cons ?_ <| ms_cons ?_ <| ms_cons ?_ <| ms_nil
        · intro act_ w' H
          have e5 := H.tmp (t := 5) rfl (by kernel_rfl)
          have ev5 := eval_of e5
          refine ms_val rfl rfl rfl (Value.slice (some ad1) l.length c1) w' ?_ (Below.refl _ _) rfl
          · go_simp
            try rfl
        · intro act_ w' H
          have e10 := H.tmp (t := 10) rfl (by kernel_rfl)
          have ev10 := eval_of e10
          refine ms_val rfl rfl rfl (Value.int .i64 i) w' ?_ (Below.refl _ _) rfl
          · go_simp
            try rfl
        · intro act_ w' H
          obtain ⟨_, e47, rfl⟩ := H.on 0 rfl (by kernel_rfl)
          have ev47 := eval_of e47
          obtain ⟨_, e48, rfl⟩ := H.on 1 rfl (by kernel_rfl)
          have ev48 := eval_of e48
          refine ms_val rfl rfl rfl (Value.pointer (some (ad1.add i))) w' ?_ (Below.refl _ _) rfl
          · go_simp
            try rfl
        · intro act_ w' H
          obtain ⟨_, e49, rfl⟩ := H.on 2 rfl (by kernel_rfl)
          have ev49 := eval_of e49
          have hcc := pw_cell_below H.below HX1.out
          refine ms_val rfl rfl rfl (Value.int .i64 (l.getD i 0)) w' ?_ (Below.refl _ _) rfl
          · go_simp
            try rfl
        · intro act_ w' H
          have e8 := H.tmp (t := 8) rfl (by kernel_rfl)
          have ev8 := eval_of e8
          refine ms_val rfl rfl rfl (Value.slice (some ad2) l.length c2) w' ?_ (Below.refl _ _) rfl
          · go_simp
            try rfl
        · intro act_ w' H
          have e10 := H.tmp (t := 10) rfl (by kernel_rfl)
          have ev10 := eval_of e10
          refine ms_val rfl rfl rfl (Value.int .i64 i) w' ?_ (Below.refl _ _) rfl
          · go_simp
            try rfl
        · intro act_ w' H
          obtain ⟨_, e51, rfl⟩ := H.on 4 rfl (by kernel_rfl)
          have ev51 := eval_of e51
          obtain ⟨_, e52, rfl⟩ := H.on 5 rfl (by kernel_rfl)
          have ev52 := eval_of e52
          refine ms_val rfl rfl rfl (Value.pointer (some (ad2.add i))) w' ?_ (Below.refl _ _) rfl
          · go_simp
            try rfl
        · intro act_ w' H
          obtain ⟨_, e53, rfl⟩ := H.on 6 rfl (by kernel_rfl)
          have ev53 := eval_of e53
          have hcc := pw_cell_below H.below HX2.out
          refine ms_val rfl rfl rfl (Value.int .i64 (l.getD i 0)) w' ?_ (Below.refl _ _) rfl
          · go_simp
            try rfl
        · intro act_ w' H
          obtain ⟨_, e50, rfl⟩ := H.on 3 rfl (by kernel_rfl)
          have ev50 := eval_of e50
          obtain ⟨_, e54, rfl⟩ := H.on 7 rfl (by kernel_rfl)
          have ev54 := eval_of e54
          refine ms_val rfl rfl rfl (Value.bool false) w' ?_ (Below.refl _ _) rfl
          · go_simp
            try rfl
      intro w6 hb6
      rintro _ rfl _ rfl _ rfl _ rfl _ rfl _ rfl _ rfl _ rfl _ rfl
      simp only [Ends, Act.put, List.setIfInBounds_toArray, List.set_cons_zero, List.set_cons_succ]
      have n0_ := Aside0.mk (HI.out.go hb6)
      clear hb6 HI HX1 HX2
      have HI := n0_
      clear n0_
      go_wp2
      go_roundg (gk - 1)
      case measure => have := HN.out; have := HIL.out; omega
      case rel => exact ⟨i + 1, by go_num, ⟨by have := HN.out; have := HIL.out; omega⟩, HI⟩
    · have hil : ¬ ((i : Int) < (l.length : Int)) := by omega
      have hid : decide ((i : Int) < (l.length : Int)) = false := decide_eq_false hil
      have hif : (i < l.length) = False := eq_false hi
      clear hi
      go_wp2
      go_ret
      exact ⟨rfl, HI.out.below⟩
end Go.Proofs.Ytpdobinpndfgfaa.Q
