/- The statement InodeApart, walked. -/
import Derived.Test.YtpdobinpndfgfaaHRoads
namespace Go.Proofs.Ytpdobinpndfgfaa.Q
open Go.RowKit Go.Proofs.YtpdobinpndfgfaaW.PrintWords Go.Proofs.YtpdobinpndfgfaaW.PrintLast Go.Proofs.YtpdobinpndfgfaaW.PrintMore Go.Proofs.Ytpdobinpndfgfaa.Pure
attribute [local go_sem] max2_int min2_int max_two min_two max_three min_three max_four min_four
set_option linter.unusedVariables false
set_option linter.unusedSimpArgs false
/-- The shape of a road. -/
theorem roadV_form (x : Int) (h0 : 0 ≤ x) (h1 : x < 6483) : (roadV x).2.2 = 0 ∧ 0 ≤ (roadV x).1 ∧ (roadV x).1 ≤ 4 ∧ ((roadV x).2.1.length : Int) = max ((roadV x).1 - 2) 0 ∧ ∀ v ∈ (roadV x).2.1, 0 ≤ v ∧ v < 80 := by
  unfold roadV
  rw [if_neg (by omega)]
  by_cases h3 : x < 3
  · rw [if_pos h3]
    refine ⟨rfl, h0, by show x ≤ 4; omega, ?_, fun v hv => by cases hv⟩
    show (0 : Int) = max (x - 2) 0
    omega
  · rw [if_neg h3]
    by_cases h83 : x < 83
    · rw [if_pos h83]
      refine ⟨rfl, show (0 : Int) ≤ 3 by decide, show (3 : Int) ≤ 4 by decide, show (1 : Int) = max (3 - 2) 0 by decide, fun v hv => ?_⟩
      rcases List.mem_cons.1 hv with rfl | hv
      · omega
      · cases hv
    · rw [if_neg h83]
      refine ⟨rfl, show (0 : Int) ≤ 4 by decide, show (4 : Int) ≤ 4 by decide, show (2 : Int) = max (4 - 2) 0 by decide, fun v hv => ?_⟩
      rcases List.mem_cons.1 hv with rfl | hv
      · omega
      · rcases List.mem_cons.1 hv with rfl | hv
        · omega
        · cases hv
theorem roadV_inj (x y : Int) (hx0 : 0 ≤ x) (hx1 : x < 6483) (hy0 : 0 ≤ y) (hy1 : y < 6483) (h1 : (roadV x).1 = (roadV y).1) (h2 : (roadV x).2.1 = (roadV y).2.1) : x = y := by
  have key : ∀ z : Int, 0 ≤ z → z < 6483 → (z < 3 ∧ roadV z = (z, [], 0)) ∨ (3 ≤ z ∧ z < 83 ∧ roadV z = (3, [z - 3], 0)) ∨ (83 ≤ z ∧ roadV z = (4, [(z - 83) / 80, (z - 83) % 80], 0)) := by
    intro z hz0 hz1
    unfold roadV
    rw [if_neg (by omega)]
    by_cases h3 : z < 3
    · exact .inl ⟨h3, by rw [if_pos h3]⟩
    · by_cases h83 : z < 83
      · exact .inr (.inl ⟨by omega, h83, by rw [if_neg h3, if_pos h83]⟩)
      · exact .inr (.inr ⟨by omega, by rw [if_neg h3, if_neg h83]⟩)
  rcases key x hx0 hx1 with ⟨a, e⟩ | ⟨a, b, e⟩ | ⟨a, e⟩ <;> rcases key y hy0 hy1 with ⟨c, f⟩ | ⟨c, d, f⟩ | ⟨c, f⟩ <;> rw [e, f] at h1 h2
  · exact h1
  · replace h1 : x = 3 := h1; omega
  · replace h1 : x = 4 := h1; omega
  · replace h1 : 3 = y := h1; omega
  · injection h2 with h2; omega
  · exact absurd (show (3 : Int) = 4 from h1) (by decide)
  · replace h1 : 4 = y := h1; omega
  · exact absurd (show (4 : Int) = 3 from h1) (by decide)
  · injection h2 with h2 h3
    injection h3 with h3
    omega
/-- Are two roads one, as far as this? -/
def sameV (k j : Int) (l m : List Int) (i : Nat) : Bool := decide (k = j ∧ l.length = m.length ∧ l.take i = m.take i)
theorem sameV_zero (k j : Int) (l m : List Int) : sameV k j l m 0 = (k == j && ((l.length : Int) == (m.length : Int))) := by
  unfold sameV
  by_cases h : k = j
  · by_cases h2 : l.length = m.length
    · simp [h, h2]
    · have : ¬ ((l.length : Int) = (m.length : Int)) := by omega
      simp [h, h2, this]
  · simp [h]
theorem sameV_succ (k j : Int) (l m : List Int) (i : Nat) (hi : i < l.length) (h : sameV k j l m i = true) : sameV k j l m (i + 1) = (l.getD i 0 == m.getD i 0) := by
  unfold sameV at h ⊢
  obtain ⟨h1, h2, h3⟩ := of_decide_eq_true h
  have him : i < m.length := by omega
  rw [List.take_succ_eq_append_getElem hi, List.take_succ_eq_append_getElem him, h3]
  have g1 : l.getD i 0 = l[i] := by rw [List.getD_eq_getElem?_getD, List.getElem?_eq_getElem hi]; rfl
  have g2 : m.getD i 0 = m[i] := by rw [List.getD_eq_getElem?_getD, List.getElem?_eq_getElem him]; rfl
  rw [g1, g2]
  by_cases e : l[i] = m[i]
  · simp [h1, h2, e]
  · rw [show (l[i] == m[i]) = false by simpa using e]
    refine decide_eq_false fun ⟨_, _, c⟩ => e ?_
    have := List.append_cancel_left c
    simpa using this
theorem sameV_false (k j : Int) (l m : List Int) (i : Nat) (h : sameV k j l m i = false) : sameV k j l m (i + 1) = false := by
  unfold sameV at h ⊢
  have h1 := of_decide_eq_false h
  refine decide_eq_false fun ⟨a, b, c⟩ => h1 ⟨a, b, ?_⟩
  have := congrArg (List.take i) c
  rw [List.take_take, List.take_take] at this
  simpa [Nat.min_eq_left (Nat.le_succ i)] using this
theorem sameV_end (x y : Int) (hx0 : 0 ≤ x) (hx1 : x < 6483) (hy0 : 0 ≤ y) (hy1 : y < 6483) : sameV (roadV x).1 (roadV y).1 (roadV x).2.1 (roadV y).2.1 (roadV x).2.1.length = (x == y) := by
  by_cases h : x = y
  · subst h
    simp [sameV]
  · have h1 : sameV (roadV x).1 (roadV y).1 (roadV x).2.1 (roadV y).2.1 (roadV x).2.1.length = false := by
      refine decide_eq_false fun ⟨a, b, c⟩ => h (roadV_inj x y hx0 hx1 hy0 hy1 a ?_)
      rw [List.take_of_length_le (Nat.le_refl _), List.take_of_length_le (Nat.le_of_eq b.symm)] at c
      exact c
    rw [h1]
    simp [h]
set_option maxHeartbeats 4000000 in
set_option maxRecDepth 100000 in
theorem InodeApart.walk (w : World) (a : Int) (ha : (Lit.int .u16 a).wf = true) (b : Int) (hb : (Lit.int .u16 b).wf = true) :
    Calls Try.prog 5 #[.int .u16 a, .int .u16 b] w fun e w' => e = .returned (.bool true) ∧ Below w.heap.size w w' := by
  have wu : ∀ {z : Int}, (Lit.int .u16 z).wf = true → 0 ≤ z ∧ z < 65536 := fun {z} h => by simp [Lit.wf, IntKind.min, IntKind.max, IntKind.bits, IntKind.signed] at h; omega
  obtain ⟨ha0, ha1⟩ := wu ha
  obtain ⟨hb0, hb1⟩ := wu hb
  clear ha hb wu
  have hw1 : IntKind.i64.wrap a = a := by simp [IntKind.wrap, IntKind.bits, IntKind.signed]; omega
  have hw2 : IntKind.i64.wrap b = b := by simp [IntKind.wrap, IntKind.bits, IntKind.signed]; omega
  obtain ⟨x, hx⟩ : ∃ x, a.tmod 6483 = x := ⟨_, rfl⟩
  obtain ⟨y, hy⟩ : ∃ y, b.tmod 6483 = y := ⟨_, rfl⟩
  have hx0 : 0 ≤ x := by rw [← hx]; exact Int.tmod_nonneg _ ha0
  have hy0 : 0 ≤ y := by rw [← hy]; exact Int.tmod_nonneg _ hb0
  have hx1 : x < 6483 := by rw [← hx]; exact Int.tmod_lt_of_pos _ (by decide)
  have hy1 : y < 6483 := by rw [← hy]; exact Int.tmod_lt_of_pos _ (by decide)
  obtain ⟨f1, f2, f3, f4, f5⟩ := roadV_form x hx0 hx1
  obtain ⟨e1, -, -, -, -⟩ := roadV_form y hy0 hy1
  have hend := sameV_end x y hx0 hx1 hy0 hy1
  have hrx := road_eq x
  have hry := road_eq y
  obtain ⟨k, l, e, hr⟩ : ∃ k l e, roadV x = (k, l, e) := ⟨_, _, _, rfl⟩
  obtain ⟨j, m, g, hs⟩ : ∃ k l e, roadV y = (k, l, e) := ⟨_, _, _, rfl⟩
  rw [hr] at f1 f2 f3 f4 f5 hend hrx
  rw [hs] at e1 hend hry
  replace f1 : e = 0 := f1
  replace e1 : g = 0 := e1
  subst f1
  subst e1
  replace f2 : 0 ≤ k := f2
  replace f3 : k ≤ 4 := f3
  replace f4 : (l.length : Int) = max (k - 2) 0 := f4
  replace f5 : ∀ v ∈ l, 0 ≤ v ∧ v < 80 := f5
  replace hend : sameV k j l m l.length = (x == y) := hend
  have H1 := Aside0.mk hrx
  have H2 := Aside0.mk hry
  have HEND := Aside0.mk hend
  have H5 := Aside0.mk f5
  have HL2 := Aside0.mk (show l.length ≤ 2 by omega)
  have HS0 := Aside0.mk (sameV_zero k j l m)
  have hk4 : decide (4 < k) = false := decide_eq_false (by omega)
  have hk0 : decide (k < 0) = false := decide_eq_false (by omega)
  have hk4' : (4 < k) = False := eq_false (by omega)
  have hk0' : (k < 0) = False := eq_false (by omega)
  have hws : wrap64 (k - 2) = k - 2 := wrap64_id (by omega) (by omega)
  clear hx0 hx1 hy0 hy1 hr hs hrx hry hend f5 ha0 ha1 hb0 hb1
  have HF4 := Aside0.mk f4
  by_cases hkj : k = j
  · subst hkj
    by_cases hk2 : k - 2 < 0
    · have q1 : decide (k - 2 < 0) = true := decide_eq_true hk2
      have c3 : (l.length : Int) = 0 := by omega
      have HC3 := Aside0.mk c3
      clear f2 f3 f4
      go_enter Try.func5, Try.ntmps5
      go_wp2_with (first | (go_at_call 8; (with_reducible refine (awake19.calls _).mono ?_); rintro e w3 ⟨rfl, hb⟩; have HB := Aside0.mk hb; clear hb; have tokA : True := trivial) | (go_at_call 14; have _t := tokA; (with_reducible refine (inode_Road.calls 9 x k l 0 _ H1.out).mono ?_); rintro e9 w1 ⟨v1, rfl, ho, hb⟩; obtain ⟨A1, c1, rfl, hl1, hc1⟩ := Kd.R_reads ho; have HC1 := Aside0.mk hc1; have n2_ := Aside0.mk (HB.out.trans (hb.mono HB.out.size)); clear ho hb hl1 hc1 HB tokA; have HB := n2_; clear n2_; have tokB : True := trivial) | (go_at_call 14; have _t := tokB; (with_reducible refine (inode_Road.calls 9 y k m 0 _ H2.out).mono ?_); rintro e9 w2 ⟨v2, rfl, ho, hb⟩; obtain ⟨A2, c2, rfl, hl1, hc1⟩ := Kd.R_reads ho; have HI := Aside0.mk (show IR w w2 A1 l A2 m from ⟨HB.out.trans (hb.mono HB.out.size), Kd.C_below HC1.out hb, hc1⟩); clear ho hb hl1 hc1 HB HC1 tokB))
      clear c3 hx hy hw1 hw2 hws hk4 hk0 hk4' hk0' hk2 q1
      go_loopg [15, 16] l.length (fun gk v15 v16 w' => ∃ i : Nat, v15 = .bool (sameV k k l m i) ∧ v16 = .int .i64 i ∧ Aside0 (gk + i = l.length) ∧ Aside0 (IR w w' A1 l A2 m))
      case atStart => exact ⟨0, (by rw [HS0.out, beq_self_eq_true, Bool.true_and, HC3.out]), rfl, ⟨rfl⟩, HI⟩
      case round =>
        clear HI
        obtain ⟨i, rfl, rfl, HN, HI⟩ := hrel
        by_cases hi : i < l.length
        · exfalso
          have := HC3.out
          omega
        · have hil : ¬ ((i : Int) < (l.length : Int)) := by omega
          have hid : decide ((i : Int) < (l.length : Int)) = false := decide_eq_false hil
          have hif : (i < l.length) = False := eq_false hi
          have hie : i = l.length := by have := HN.out; omega
          have hself : ((x == y) == (x == y)) = true := by simp
          have hst : sameV k k l m i = (x == y) := by rw [hie]; exact HEND.out
          clear hi hie
          rw [hst]
          go_wp2
          go_ret
          exact ⟨rfl, HI.out.below⟩
    · have q1 : decide (k - 2 < 0) = false := decide_eq_false hk2
      have c3 : (l.length : Int) = k - 2 := by omega
      have HC3 := Aside0.mk c3
      clear f2 f3 f4
      go_enter Try.func5, Try.ntmps5
      go_wp2_with (first | (go_at_call 8; (with_reducible refine (awake19.calls _).mono ?_); rintro e w3 ⟨rfl, hb⟩; have HB := Aside0.mk hb; clear hb; have tokA : True := trivial) | (go_at_call 14; have _t := tokA; (with_reducible refine (inode_Road.calls 9 x k l 0 _ H1.out).mono ?_); rintro e9 w1 ⟨v1, rfl, ho, hb⟩; obtain ⟨A1, c1, rfl, hl1, hc1⟩ := Kd.R_reads ho; have HC1 := Aside0.mk hc1; have n2_ := Aside0.mk (HB.out.trans (hb.mono HB.out.size)); clear ho hb hl1 hc1 HB tokA; have HB := n2_; clear n2_; have tokB : True := trivial) | (go_at_call 14; have _t := tokB; (with_reducible refine (inode_Road.calls 9 y k m 0 _ H2.out).mono ?_); rintro e9 w2 ⟨v2, rfl, ho, hb⟩; obtain ⟨A2, c2, rfl, hl1, hc1⟩ := Kd.R_reads ho; have HI := Aside0.mk (show IR w w2 A1 l A2 m from ⟨HB.out.trans (hb.mono HB.out.size), Kd.C_below HC1.out hb, hc1⟩); clear ho hb hl1 hc1 HB HC1 tokB))
      clear c3 hx hy hw1 hw2 hws hk4 hk0 hk4' hk0' hk2 q1
      go_loopg [15, 16] l.length (fun gk v15 v16 w' => ∃ i : Nat, v15 = .bool (sameV k k l m i) ∧ v16 = .int .i64 i ∧ Aside0 (gk + i = l.length) ∧ Aside0 (IR w w' A1 l A2 m))
      case atStart => exact ⟨0, (by rw [HS0.out, beq_self_eq_true, Bool.true_and, HC3.out]), rfl, ⟨rfl⟩, HI⟩
      case round =>
        clear HI
        obtain ⟨i, rfl, rfl, HN, HI⟩ := hrel
        by_cases hi : i < l.length
        · have hil : (i : Int) < (l.length : Int) := by omega
          have hit : (i < l.length) = True := eq_true hi
          have HIL := Aside0.mk hi
          have hwi : wrap64 ((i : Int) + 1) = (i : Int) + 1 := wrap64_id (by omega) (by have := HL2.out; omega)
          obtain ⟨ad1, rfl, hcell1⟩ := reads_some HI.out.a (by omega)
          obtain ⟨v, hv⟩ : ∃ v, l.getD i 0 = v := ⟨_, rfl⟩
          have hvr : 0 ≤ v ∧ v < 80 := by
            refine H5.out v ?_
            rw [← hv, List.getD_eq_getElem?_getD, List.getElem?_eq_getElem hi]
            exact List.getElem_mem _
          have hcc := hcell1 i hi
          rw [hv] at hcc
          have HX1 := Aside0.mk hcc
          have v1 : decide (v < 0) = false := decide_eq_false (by omega)
          have v2 : decide (80 ≤ v) = false := decide_eq_false (by omega)
          have v3 : (v < 0) = False := eq_false (by omega)
          have v4 : (80 ≤ v) = False := eq_false (by omega)
          have HV := Aside0.mk hv
          clear hv hvr hcell1
          obtain ⟨s, hs⟩ : ∃ s, sameV k k l m i = s := ⟨_, rfl⟩
          have HSI := Aside0.mk hs
          cases s with
          | true =>
            have hml : m.length = l.length := (of_decide_eq_true (show decide (k = k ∧ l.length = m.length ∧ l.take i = m.take i) = true from hs)).2.1.symm
            obtain ⟨ad2, rfl, hcell2⟩ := reads_some HI.out.b (by omega)
            have HX2 := Aside0.mk (hcell2 i (by omega))
            have him : (i < m.length) = True := eq_true (by omega)
            have himl : (i : Int) < (m.length : Int) := by omega
            have HSU := Aside0.mk ((sameV_succ k k l m i hi hs).trans (by rw [HV.out]))
            clear hi hcell2 hml
            rw [hs]
            go_wp2
            refine mono_region (T := _) (B := [0, 0, 3, 7, 0, 0, 48, 112, 255, 511]) (n := 10) [(0, 91, VP.is (Value.slice (some ad1) l.length c1)), (1, 92, VP.is (Value.int .i64 i)), (2, 93, VP.is (Value.pointer (some (ad1.add i)))), (3, 94, VP.is (Value.int .i64 v)), (4, 95, VP.is (Value.slice (some ad2) m.length c2)), (5, 96, VP.is (Value.int .i64 i)), (6, 97, VP.is (Value.pointer (some (ad2.add i)))), (7, 98, VP.is (Value.int .i64 (m.getD i 0))), (8, 99, VP.is (Value.bool (v == m.getD i 0))), (9, 15, VP.is (Value.bool (v == m.getD i 0)))] rfl (by kernel_rfl) (by kernel_rfl) rfl (by kernel_rfl) (by kernel_rfl) (by kernel_rfl) (by kernel_rfl) (by kernel_rfl) ?_ ?_
            · refine ms_cons ?_ <| ms_cons ?_ <| ms_cons ?_ <| ms_cons ?_ <| ms_cons ?_ <| ms_cons ?_ <| ms_cons ?_ <| ms_cons ?_ <| ms_cons ?_ <| ms_cons ?_ <| ms_nil
              · intro act_ w' H
                have e9 := H.tmp (t := 9) rfl (by kernel_rfl)
                have ev9 := eval_of e9
                refine ms_val rfl rfl rfl (Value.slice (some ad1) l.length c1) w' ?_ (Below.refl _ _) rfl
                · go_simp
                  try rfl
              · intro act_ w' H
                have e16 := H.tmp (t := 16) rfl (by kernel_rfl)
                have ev16 := eval_of e16
                refine ms_val rfl rfl rfl (Value.int .i64 i) w' ?_ (Below.refl _ _) rfl
                · go_simp
                  try rfl
              · intro act_ w' H
                obtain ⟨_, e91, rfl⟩ := H.on 0 rfl (by kernel_rfl)
                have ev91 := eval_of e91
                obtain ⟨_, e92, rfl⟩ := H.on 1 rfl (by kernel_rfl)
                have ev92 := eval_of e92
                refine ms_val rfl rfl rfl (Value.pointer (some (ad1.add i))) w' ?_ (Below.refl _ _) rfl
                · go_simp
                  try rfl
              · intro act_ w' H
                obtain ⟨_, e93, rfl⟩ := H.on 2 rfl (by kernel_rfl)
                have ev93 := eval_of e93
                have hcc2 := pw_cell_below H.below HX1.out
                refine ms_val rfl rfl rfl (Value.int .i64 v) w' ?_ (Below.refl _ _) rfl
                · go_simp
                  try rfl
              · intro act_ w' H
                have e12 := H.tmp (t := 12) rfl (by kernel_rfl)
                have ev12 := eval_of e12
                refine ms_val rfl rfl rfl (Value.slice (some ad2) m.length c2) w' ?_ (Below.refl _ _) rfl
                · go_simp
                  try rfl
              · intro act_ w' H
                have e16 := H.tmp (t := 16) rfl (by kernel_rfl)
                have ev16 := eval_of e16
                refine ms_val rfl rfl rfl (Value.int .i64 i) w' ?_ (Below.refl _ _) rfl
                · go_simp
                  try rfl
              · intro act_ w' H
                obtain ⟨_, e95, rfl⟩ := H.on 4 rfl (by kernel_rfl)
                have ev95 := eval_of e95
                obtain ⟨_, e96, rfl⟩ := H.on 5 rfl (by kernel_rfl)
                have ev96 := eval_of e96
                refine ms_val rfl rfl rfl (Value.pointer (some (ad2.add i))) w' ?_ (Below.refl _ _) rfl
                · go_simp
                  try rfl
              · intro act_ w' H
                obtain ⟨_, e97, rfl⟩ := H.on 6 rfl (by kernel_rfl)
                have ev97 := eval_of e97
                have hcc2 := pw_cell_below H.below HX2.out
                refine ms_val rfl rfl rfl (Value.int .i64 (m.getD i 0)) w' ?_ (Below.refl _ _) rfl
                · go_simp
                  try rfl
              · intro act_ w' H
                obtain ⟨_, e94, rfl⟩ := H.on 3 rfl (by kernel_rfl)
                have ev94 := eval_of e94
                obtain ⟨_, e98, rfl⟩ := H.on 7 rfl (by kernel_rfl)
                have ev98 := eval_of e98
                refine ms_val rfl rfl rfl (Value.bool (v == m.getD i 0)) w' ?_ (Below.refl _ _) rfl
                · go_simp
                  try rfl
              · intro act_ w' H
                obtain ⟨_, e99, rfl⟩ := H.on 8 rfl (by kernel_rfl)
                have ev99 := eval_of e99
                refine ms_val rfl rfl rfl (Value.bool (v == m.getD i 0)) w' ?_ (Below.refl _ _) rfl
                · go_simp
                  try rfl
            intro w6 hb6
            rintro _ rfl _ rfl _ rfl _ rfl _ rfl _ rfl _ rfl _ rfl _ rfl _ rfl
            simp only [Ends, Act.put, List.setIfInBounds_toArray, List.set_cons_zero, List.set_cons_succ]
            have n0_ := Aside0.mk (HI.out.go hb6)
            clear hb6 HI HX1 HX2 hcc
            have HI := n0_
            clear n0_
            go_wp2
            go_roundg (gk - 1)
            case measure => have := HN.out; have := HIL.out; omega
            case rel => exact ⟨i + 1, by rw [HSU.out], by go_num, ⟨by have := HN.out; have := HIL.out; omega⟩, HI⟩
          | false =>
            have HSU := Aside0.mk (sameV_false k k l m i hs)
            clear hi
            rw [hs]
            go_wp2
            go_roundg (gk - 1)
            case measure => have := HN.out; have := HIL.out; omega
            case rel => exact ⟨i + 1, by rw [HSU.out], by go_num, ⟨by have := HN.out; have := HIL.out; omega⟩, HI⟩
        · have hil : ¬ ((i : Int) < (l.length : Int)) := by omega
          have hid : decide ((i : Int) < (l.length : Int)) = false := decide_eq_false hil
          have hif : (i < l.length) = False := eq_false hi
          have hie : i = l.length := by have := HN.out; omega
          have hself : ((x == y) == (x == y)) = true := by simp
          have hst : sameV k k l m i = (x == y) := by rw [hie]; exact HEND.out
          clear hi hie
          rw [hst]
          go_wp2
          go_ret
          exact ⟨rfl, HI.out.below⟩
  · have d1 : (k == j) = false := by simpa using hkj
    have d2 : (k = j) = False := eq_false hkj
    have HSF := Aside0.mk (show sameV k j l m 0 = false from decide_eq_false fun h => hkj h.1)
    clear hkj
    by_cases hk2 : k - 2 < 0
    · have q1 : decide (k - 2 < 0) = true := decide_eq_true hk2
      have c3 : (l.length : Int) = 0 := by omega
      have HC3 := Aside0.mk c3
      clear f2 f3 f4
      go_enter Try.func5, Try.ntmps5
      go_wp2_with (first | (go_at_call 8; (with_reducible refine (awake19.calls _).mono ?_); rintro e w3 ⟨rfl, hb⟩; have HB := Aside0.mk hb; clear hb; have tokA : True := trivial) | (go_at_call 14; have _t := tokA; (with_reducible refine (inode_Road.calls 9 x k l 0 _ H1.out).mono ?_); rintro e9 w1 ⟨v1, rfl, ho, hb⟩; obtain ⟨A1, c1, rfl, hl1, hc1⟩ := Kd.R_reads ho; have HC1 := Aside0.mk hc1; have n2_ := Aside0.mk (HB.out.trans (hb.mono HB.out.size)); clear ho hb hl1 hc1 HB tokA; have HB := n2_; clear n2_; have tokB : True := trivial) | (go_at_call 14; have _t := tokB; (with_reducible refine (inode_Road.calls 9 y j m 0 _ H2.out).mono ?_); rintro e9 w2 ⟨v2, rfl, ho, hb⟩; obtain ⟨A2, c2, rfl, hl1, hc1⟩ := Kd.R_reads ho; have HI := Aside0.mk (show IR w w2 A1 l A2 m from ⟨HB.out.trans (hb.mono HB.out.size), Kd.C_below HC1.out hb, hc1⟩); clear ho hb hl1 hc1 HB HC1 tokB))
      clear c3 hx hy hw1 hw2 hws hk4 hk0 hk4' hk0' hk2 q1
      go_loopg [15, 16] l.length (fun gk v15 v16 w' => ∃ i : Nat, v15 = .bool (sameV k j l m i) ∧ v16 = .int .i64 i ∧ Aside0 (gk + i = l.length) ∧ Aside0 (IR w w' A1 l A2 m))
      case atStart => exact ⟨0, by rw [HSF.out], rfl, ⟨rfl⟩, HI⟩
      case round =>
        clear HI
        obtain ⟨i, rfl, rfl, HN, HI⟩ := hrel
        by_cases hi : i < l.length
        · exfalso
          have := HC3.out
          omega
        · have hil : ¬ ((i : Int) < (l.length : Int)) := by omega
          have hid : decide ((i : Int) < (l.length : Int)) = false := decide_eq_false hil
          have hif : (i < l.length) = False := eq_false hi
          have hie : i = l.length := by have := HN.out; omega
          have hself : ((x == y) == (x == y)) = true := by simp
          have hst : sameV k j l m i = (x == y) := by rw [hie]; exact HEND.out
          clear hi hie
          rw [hst]
          go_wp2
          go_ret
          exact ⟨rfl, HI.out.below⟩
    · have q1 : decide (k - 2 < 0) = false := decide_eq_false hk2
      have c3 : (l.length : Int) = k - 2 := by omega
      have HC3 := Aside0.mk c3
      clear f2 f3 f4
      go_enter Try.func5, Try.ntmps5
      go_wp2_with (first | (go_at_call 8; (with_reducible refine (awake19.calls _).mono ?_); rintro e w3 ⟨rfl, hb⟩; have HB := Aside0.mk hb; clear hb; have tokA : True := trivial) | (go_at_call 14; have _t := tokA; (with_reducible refine (inode_Road.calls 9 x k l 0 _ H1.out).mono ?_); rintro e9 w1 ⟨v1, rfl, ho, hb⟩; obtain ⟨A1, c1, rfl, hl1, hc1⟩ := Kd.R_reads ho; have HC1 := Aside0.mk hc1; have n2_ := Aside0.mk (HB.out.trans (hb.mono HB.out.size)); clear ho hb hl1 hc1 HB tokA; have HB := n2_; clear n2_; have tokB : True := trivial) | (go_at_call 14; have _t := tokB; (with_reducible refine (inode_Road.calls 9 y j m 0 _ H2.out).mono ?_); rintro e9 w2 ⟨v2, rfl, ho, hb⟩; obtain ⟨A2, c2, rfl, hl1, hc1⟩ := Kd.R_reads ho; have HI := Aside0.mk (show IR w w2 A1 l A2 m from ⟨HB.out.trans (hb.mono HB.out.size), Kd.C_below HC1.out hb, hc1⟩); clear ho hb hl1 hc1 HB HC1 tokB))
      clear c3 hx hy hw1 hw2 hws hk4 hk0 hk4' hk0' hk2 q1
      go_loopg [15, 16] l.length (fun gk v15 v16 w' => ∃ i : Nat, v15 = .bool (sameV k j l m i) ∧ v16 = .int .i64 i ∧ Aside0 (gk + i = l.length) ∧ Aside0 (IR w w' A1 l A2 m))
      case atStart => exact ⟨0, by rw [HSF.out], rfl, ⟨rfl⟩, HI⟩
      case round =>
        clear HI
        obtain ⟨i, rfl, rfl, HN, HI⟩ := hrel
        by_cases hi : i < l.length
        · have hil : (i : Int) < (l.length : Int) := by omega
          have hit : (i < l.length) = True := eq_true hi
          have HIL := Aside0.mk hi
          have hwi : wrap64 ((i : Int) + 1) = (i : Int) + 1 := wrap64_id (by omega) (by have := HL2.out; omega)
          obtain ⟨ad1, rfl, hcell1⟩ := reads_some HI.out.a (by omega)
          obtain ⟨v, hv⟩ : ∃ v, l.getD i 0 = v := ⟨_, rfl⟩
          have hvr : 0 ≤ v ∧ v < 80 := by
            refine H5.out v ?_
            rw [← hv, List.getD_eq_getElem?_getD, List.getElem?_eq_getElem hi]
            exact List.getElem_mem _
          have hcc := hcell1 i hi
          rw [hv] at hcc
          have HX1 := Aside0.mk hcc
          have v1 : decide (v < 0) = false := decide_eq_false (by omega)
          have v2 : decide (80 ≤ v) = false := decide_eq_false (by omega)
          have v3 : (v < 0) = False := eq_false (by omega)
          have v4 : (80 ≤ v) = False := eq_false (by omega)
          have HV := Aside0.mk hv
          clear hv hvr hcell1
          obtain ⟨s, hs⟩ : ∃ s, sameV k j l m i = s := ⟨_, rfl⟩
          have HSI := Aside0.mk hs
          cases s with
          | true =>
            have hml : m.length = l.length := (of_decide_eq_true (show decide (k = j ∧ l.length = m.length ∧ l.take i = m.take i) = true from hs)).2.1.symm
            obtain ⟨ad2, rfl, hcell2⟩ := reads_some HI.out.b (by omega)
            have HX2 := Aside0.mk (hcell2 i (by omega))
            have him : (i < m.length) = True := eq_true (by omega)
            have himl : (i : Int) < (m.length : Int) := by omega
            have HSU := Aside0.mk ((sameV_succ k j l m i hi hs).trans (by rw [HV.out]))
            clear hi hcell2 hml
            rw [hs]
            go_wp2
            refine mono_region (T := _) (B := [0, 0, 3, 7, 0, 0, 48, 112, 255, 511]) (n := 10) [(0, 91, VP.is (Value.slice (some ad1) l.length c1)), (1, 92, VP.is (Value.int .i64 i)), (2, 93, VP.is (Value.pointer (some (ad1.add i)))), (3, 94, VP.is (Value.int .i64 v)), (4, 95, VP.is (Value.slice (some ad2) m.length c2)), (5, 96, VP.is (Value.int .i64 i)), (6, 97, VP.is (Value.pointer (some (ad2.add i)))), (7, 98, VP.is (Value.int .i64 (m.getD i 0))), (8, 99, VP.is (Value.bool (v == m.getD i 0))), (9, 15, VP.is (Value.bool (v == m.getD i 0)))] rfl (by kernel_rfl) (by kernel_rfl) rfl (by kernel_rfl) (by kernel_rfl) (by kernel_rfl) (by kernel_rfl) (by kernel_rfl) ?_ ?_
            · refine ms_cons ?_ <| ms_cons ?_ <| ms_cons ?_ <| ms_cons ?_ <| ms_cons ?_ <| ms_cons ?_ <| ms_cons ?_ <| ms_cons ?_ <| ms_cons ?_ <| ms_cons ?_ <| ms_nil
              · intro act_ w' H
                have e9 := H.tmp (t := 9) rfl (by kernel_rfl)
                have ev9 := eval_of e9
                refine ms_val rfl rfl rfl (Value.slice (some ad1) l.length c1) w' ?_ (Below.refl _ _) rfl
                · go_simp
                  try rfl
              · intro act_ w' H
                have e16 := H.tmp (t := 16) rfl (by kernel_rfl)
                have ev16 := eval_of e16
                refine ms_val rfl rfl rfl (Value.int .i64 i) w' ?_ (Below.refl _ _) rfl
                · go_simp
                  try rfl
              · intro act_ w' H
                obtain ⟨_, e91, rfl⟩ := H.on 0 rfl (by kernel_rfl)
                have ev91 := eval_of e91
                obtain ⟨_, e92, rfl⟩ := H.on 1 rfl (by kernel_rfl)
                have ev92 := eval_of e92
                refine ms_val rfl rfl rfl (Value.pointer (some (ad1.add i))) w' ?_ (Below.refl _ _) rfl
                · go_simp
                  try rfl
              · intro act_ w' H
                obtain ⟨_, e93, rfl⟩ := H.on 2 rfl (by kernel_rfl)
                have ev93 := eval_of e93
                have hcc2 := pw_cell_below H.below HX1.out
                refine ms_val rfl rfl rfl (Value.int .i64 v) w' ?_ (Below.refl _ _) rfl
                · go_simp
                  try rfl
              · intro act_ w' H
                have e12 := H.tmp (t := 12) rfl (by kernel_rfl)
                have ev12 := eval_of e12
                refine ms_val rfl rfl rfl (Value.slice (some ad2) m.length c2) w' ?_ (Below.refl _ _) rfl
                · go_simp
                  try rfl
              · intro act_ w' H
                have e16 := H.tmp (t := 16) rfl (by kernel_rfl)
                have ev16 := eval_of e16
                refine ms_val rfl rfl rfl (Value.int .i64 i) w' ?_ (Below.refl _ _) rfl
                · go_simp
                  try rfl
              · intro act_ w' H
                obtain ⟨_, e95, rfl⟩ := H.on 4 rfl (by kernel_rfl)
                have ev95 := eval_of e95
                obtain ⟨_, e96, rfl⟩ := H.on 5 rfl (by kernel_rfl)
                have ev96 := eval_of e96
                refine ms_val rfl rfl rfl (Value.pointer (some (ad2.add i))) w' ?_ (Below.refl _ _) rfl
                · go_simp
                  try rfl
              · intro act_ w' H
                obtain ⟨_, e97, rfl⟩ := H.on 6 rfl (by kernel_rfl)
                have ev97 := eval_of e97
                have hcc2 := pw_cell_below H.below HX2.out
                refine ms_val rfl rfl rfl (Value.int .i64 (m.getD i 0)) w' ?_ (Below.refl _ _) rfl
                · go_simp
                  try rfl
              · intro act_ w' H
                obtain ⟨_, e94, rfl⟩ := H.on 3 rfl (by kernel_rfl)
                have ev94 := eval_of e94
                obtain ⟨_, e98, rfl⟩ := H.on 7 rfl (by kernel_rfl)
                have ev98 := eval_of e98
                refine ms_val rfl rfl rfl (Value.bool (v == m.getD i 0)) w' ?_ (Below.refl _ _) rfl
                · go_simp
                  try rfl
              · intro act_ w' H
                obtain ⟨_, e99, rfl⟩ := H.on 8 rfl (by kernel_rfl)
                have ev99 := eval_of e99
                refine ms_val rfl rfl rfl (Value.bool (v == m.getD i 0)) w' ?_ (Below.refl _ _) rfl
                · go_simp
                  try rfl
            intro w6 hb6
            rintro _ rfl _ rfl _ rfl _ rfl _ rfl _ rfl _ rfl _ rfl _ rfl _ rfl
            simp only [Ends, Act.put, List.setIfInBounds_toArray, List.set_cons_zero, List.set_cons_succ]
            have n0_ := Aside0.mk (HI.out.go hb6)
            clear hb6 HI HX1 HX2 hcc
            have HI := n0_
            clear n0_
            go_wp2
            go_roundg (gk - 1)
            case measure => have := HN.out; have := HIL.out; omega
            case rel => exact ⟨i + 1, by rw [HSU.out], by go_num, ⟨by have := HN.out; have := HIL.out; omega⟩, HI⟩
          | false =>
            have HSU := Aside0.mk (sameV_false k j l m i hs)
            clear hi
            rw [hs]
            go_wp2
            go_roundg (gk - 1)
            case measure => have := HN.out; have := HIL.out; omega
            case rel => exact ⟨i + 1, by rw [HSU.out], by go_num, ⟨by have := HN.out; have := HIL.out; omega⟩, HI⟩
        · have hil : ¬ ((i : Int) < (l.length : Int)) := by omega
          have hid : decide ((i : Int) < (l.length : Int)) = false := decide_eq_false hil
          have hif : (i < l.length) = False := eq_false hi
          have hie : i = l.length := by have := HN.out; omega
          have hself : ((x == y) == (x == y)) = true := by simp
          have hst : sameV k j l m i = (x == y) := by rw [hie]; exact HEND.out
          clear hi hie
          rw [hst]
          go_wp2
          go_ret
          exact ⟨rfl, HI.out.below⟩
end Go.Proofs.Ytpdobinpndfgfaa.Q
