-- Written by this session's own program (ext_print.py) over the kit's print.py, hand proofs among it. Not trusted: Lean checks it.
import Derived.Test.YtllbgccdcibopaaQx0
import Derived.Test.YtllbgccdcibopaaQxf18
import Derived.Test.YtllbgccdcibopaaQxf19
import Derived.Test.YtllbgccdcibopaaQxf20
import Derived.Test.YtllbgccdcibopaaQxw
namespace Go.Proofs.Ytllbgccdcibopaa.Q
open Go.RowKit Go.Proofs.YtllbgccdcibopaaW.PrintWords Go.Proofs.YtllbgccdcibopaaW.PrintLast Go.Proofs.YtllbgccdcibopaaW.PrintMore
attribute [local go_sem] max2_int min2_int max_two min_two max_three min_three max_four min_four   -- for this text's walks alone
set_option linter.unusedVariables false
set_option linter.unusedSimpArgs false

-- EXT layout_Put: function 14
/-! ### layout_Put: function 14 -/
def layout_Put.f (a0_0 : Int) (a0_1 : Int) (a0_2 : Int) (a0_3 : Int) : Option (List Int) := (word_Put.f 9 (IntKind.u64.wrap a0_0) 4).bind fun p1 => (word_Put.f 9 (IntKind.u64.wrap a0_1) 4).bind fun p2 => (slices_Concat_byte_byte.f [[82, 76, 81, 49], p1, p2]).bind fun q => word_Pad.f q 160
def layout_Put.T1 : Bool × List (List Nat × List Nat) := (true, [([], []), ([0], [0]), ([], []), ([2], [2]), ([3], [3]), ([4], [4]), ([], []), ([6], [6]), ([7], [7]), ([8, 5], [8]), ([1, 5, 9], [1, 5, 9]), ([10, 9], [10]), ([11, 11], [11]), ([12, 12, 0, 1, 2, 3, 4, 5, 6, 7, 8, 9, 10, 11, 12], [12])])
def layout_Put.B1 : List Nat := [0, 1, 0, 4, 12, 28, 0, 64, 192, 508, 1023, 2047, 4095, 8191]
theorem layout_Put.tab1 : rtab .any (opsOf Try.f14 1) = layout_Put.T1 := by kernel_rfl
theorem layout_Put.bits1 : waitsOk layout_Put.T1.2 layout_Put.B1 = true := by kernel_rfl
set_option maxHeartbeats 8000000 in
set_option maxRecDepth 100000 in
theorem layout_Put.calls (a0_0 : Int) (a0_1 : Int) (a0_2 : Int) (a0_3 : Int) (r : List Int) (w : World) (h : layout_Put.f a0_0 a0_1 a0_2 a0_3 = some r) :
    Calls Try.prog 14 #[.agg #[.int .i64 a0_0, .int .i64 a0_1, .int .i64 a0_2, .int .i64 a0_3]] w fun e w' => ∃ v0_ : Value, e = .returned (v0_) ∧ Kd.R (Kd.int .u8) 5 w' w.heap.size (fun _ => True) v0_ r ∧ Below w.heap.size w w' := by
  have hu := Try.underlying24
  have HB := Aside0.mk (Below.refl w.heap.size w)
  unfold layout_Put.f at h
  obtain ⟨p1, hp1, h⟩ := Option.bind_eq_some_iff.mp h
  obtain ⟨p2, hp2, h⟩ := Option.bind_eq_some_iff.mp h
  obtain ⟨q, hq, h⟩ := Option.bind_eq_some_iff.mp h
  obtain ⟨lit, hlit⟩ : ∃ l : List Int, l = [82, 76, 81, 49] := ⟨_, rfl⟩
  rw [← hlit] at hq
  have HLIT := Aside0.mk hlit
  have HP1 := Aside0.mk hp1
  have HP2 := Aside0.mk hp2
  have HP3 := Aside0.mk hq
  have HP4 := Aside0.mk h
  clear hlit hp1 hp2 hq h
  go_enter Try.func14, Try.ntmps14
  try go_wp2_with (first | ((with_reducible refine gate_dst (N := 1) rfl ?_); refine box_event ?hg (N := 1) ?hd (cs := #[.int .i64 a0_0, .int .i64 a0_1, .int .i64 a0_2, .int .i64 a0_3]) (t := 24) ?hr ?_; (case hd => rfl); (case hg => rfl); (case hr => first | (go_simp; done) | (go_simp; rfl)); intro gb hg w6 hbox hb; have n0_ := Aside0.mk (below_step HB.out hb); have n1_ := Aside0.mk hbox; clear HB; have HB := n0_; have BK := n1_; clear n0_ n1_; clear hb hbox hg))
  replace BK := Aside0.mk (blk_drew BK.out)
  replace HB := Aside0.mk (below_drew1 HB.out)
  refine start_ (n := 14) (S := fun w' => True) (ds := []) #[false, false, false, false, false, false, false, false, false, false, false, false, false, false] (by kernel_rfl) rfl rfl trivial (fun hHeld => ?_); refine with_tabW layout_Put.tab1 layout_Put.bits1 (fun HT_ HW_ => ?_)
  generalize w6.drew = w7 at BK HB hHeld ⊢
  refine inv_at [0, 1, 2, 3, 4, 5, 6, 7, 8, 9, 10, 11, 12, 13] (fun a0_ b a w' => ∃ (v3 : Value) (m1 : Value) (v8 : Value) (v12 : Value) (v13 : Value) (v14 : Value) (v15 : Value) (m2 : Value), a = putSel a0_ b [(0, 3, v3), (1, 4, m1), (2, 5, .pointer (some ⟨gb, 0, none⟩)), (3, 6, .int .i64 a0_0), (4, 7, .int .u64 (IntKind.u64.wrap a0_0)), (5, 8, v8), (6, 9, .pointer (some ⟨gb, 1, none⟩)), (7, 10, .int .i64 a0_1), (8, 11, .int .u64 (IntKind.u64.wrap a0_1)), (9, 12, v12), (10, 13, v13), (11, 14, v14), (12, 15, v15), (13, 2, m2)] ∧ (w'.heap[gb]? = some (.cells #[.int .i64 a0_0, .int .i64 a0_1, .int .i64 a0_2, .int .i64 a0_3] 24 (0, 0))) ∧ (Below w.heap.size w w') ∧ (b 0 = true → SeenRow w' w.heap.size 5 lit v3) ∧ (b 1 = true → m1 = v3) ∧ (b 5 = true → Kd.R (Kd.int .u8) 5 w' w.heap.size (fun k_ => b 0 = true → some k_ ≠ v3.ownBlock) v8 p1) ∧ (b 9 = true → Kd.R (Kd.int .u8) 5 w' w.heap.size (fun k_ => b 0 = true → some k_ ≠ v3.ownBlock) v12 p2) ∧ (b 10 = true → ∃ A, v13 = .slice A 3 3 ∧ Kd.C (Kd.slice 5 (Kd.int .u8)) w' A 3 [lit, p1, p2]) ∧ (b 11 = true → Kd.R (Kd.int .u8) 5 w' w.heap.size (fun _ => True) v14 q) ∧ (b 12 = true → Kd.R (Kd.int .u8) 5 w' w.heap.size (fun _ => True) v15 r) ∧ (b 13 = true → m2 = v15)) HT_.out HW_.out (by kernel_rfl) (by kernel_rfl) ?_ ?_ ?_
  · exact ⟨.bool false, .bool false, .bool false, .bool false, .bool false, .bool false, .bool false, .bool false, by simp only [putSel, Bool.false_eq_true, if_false], BK.out, HB.out, fun h_ => absurd h_ (by decide), fun h_ => absurd h_ (by decide), fun h_ => absurd h_ (by decide), fun h_ => absurd h_ (by decide), fun h_ => absurd h_ (by decide), fun h_ => absurd h_ (by decide), fun h_ => absurd h_ (by decide), fun h_ => absurd h_ (by decide)⟩
  · skip
    clear BK HB
    refine steps_cons ?_ ?_
    · rintro b a w' ⟨v3, m1, v8, v12, v13, v14, v15, m2, ha, Q_BK, Q_HB, Q_L, Q_X1, Q_R8, Q_R12, Q_C13, Q_R14, Q_R15, Q_X13⟩ hb_ hon hoff
      refine ⟨_, rfl, fun K hK => ?_⟩
      replace ha := Aside0.mk ha
      have hb : Below w'.heap.size w' (w'.alloc (.cells (encs (Value.int .u8) lit).toArray 5)) := below_alloc (Below.refl _ _) _
      have hl := SeenRow.lit w' w.heap.size 5 lit Q_HB.size (by rw [HLIT.out]; decide)
      refine value_ (w1 := w'.alloc (.cells (encs (Value.int .u8) lit).toArray 5)) (v := .slice (some ⟨w'.heap.size, 0, none⟩) lit.length lit.length) (by rfl) rfl ?_ ?_
      · rw [HLIT.out]
        go_simp
        try rfl
      refine hK.out _ _ ⟨.slice (some ⟨w'.heap.size, 0, none⟩) lit.length lit.length, m1, v8, v12, v13, v14, v15, m2, (by rw [ha.out]; exact putSel_upk 0 hb_ rfl rfl rfl), blk_below Q_BK hb, below_step Q_HB hb, fun _ => hl, fun h_ => absurd ((hoff 1 (by kernel_rfl)).symm.trans h_) (by decide), fun h_ => ext_R_fresh (Q_R8 h_) hb, fun h_ => ext_R_fresh (Q_R12 h_) hb, fun h_ => (Q_C13 h_).imp (fun _ z_ => ⟨z_.1, Kd.C_below z_.2 hb⟩), fun h_ => Kd.R_below (Q_R14 h_) hb, fun h_ => Kd.R_below (Q_R15 h_) hb, Q_X13⟩
    refine steps_cons ?_ ?_
    · rintro b a w' ⟨v3, m1, v8, v12, v13, v14, v15, m2, ha, Q_BK, Q_HB, Q_L, Q_X1, Q_R8, Q_R12, Q_C13, Q_R14, Q_R15, Q_X13⟩ hb_ hon hoff
      refine ⟨_, rfl, fun K hK => ?_⟩
      have e3 : a.tmps[3]? = some (v3) := by rw [ha]; exact putSel_on (e := (0, 3, v3)) 0 rfl rfl (hon 0 (by kernel_rfl)) rfl
      replace ha := Aside0.mk ha
      have HL := Q_L (hon 0 (by kernel_rfl))
      obtain ⟨w9, hrun, hl2, hb2, hsz, hk⟩ := HL.mark (P := Try.prog) Try.underlying35 Try.underlying5 Q_HB
      have hne : some gb ≠ v3.ownBlock := by
        obtain ⟨g_, c_, cells_, fr_, e_, _, _, _, hh_, _⟩ := HL
        intro e2_
        rw [e_] at e2_
        have e3_ : gb = g_ := by simpa [Value.ownBlock] using e2_
        subst e3_
        rw [Q_BK] at hh_
        injection hh_ with hh_
        injection hh_ with _ ht_
        exact absurd ht_ (by decide)
      refine value_ (w1 := w9) (v := v3) (by rfl) rfl ?_ ?_
      · have e_ := eval_of e3
        unfold execOp
        simp [e_, hrun, Result.andThen]
      refine hK.out _ _ ⟨v3, v3, v8, v12, v13, v14, v15, m2, (by rw [ha.out]; exact putSel_upk 1 hb_ rfl rfl rfl), (hk gb hne).trans Q_BK, hb2, fun _ => hl2, fun _ => rfl, fun h_ => Kd.R_move (Q_R8 h_) (fun k_ hk_ => hk k_ (hk_ (hon 0 (by kernel_rfl)))), fun h_ => Kd.R_move (Q_R12 h_) (fun k_ hk_ => hk k_ (hk_ (hon 0 (by kernel_rfl)))), fun h_ => absurd ((hoff 10 (by kernel_rfl)).symm.trans h_) (by decide), fun h_ => absurd ((hoff 11 (by kernel_rfl)).symm.trans h_) (by decide), fun h_ => absurd ((hoff 12 (by kernel_rfl)).symm.trans h_) (by decide), Q_X13⟩
    refine steps_cons ?_ ?_
    · rintro b a w' ⟨v3, m1, v8, v12, v13, v14, v15, m2, ha, Q_BK, Q_HB, Q_L, Q_X1, Q_R8, Q_R12, Q_C13, Q_R14, Q_R15, Q_X13⟩ hb_ hon hoff
      refine ⟨_, rfl, fun K hK => ?_⟩
      have e1 : a.tmps[1]? = some (.pointer (some ⟨gb, 0, none⟩)) := by rw [ha]; exact (putSel_off rfl).trans rfl
      replace ha := Aside0.mk ha
      refine value_ (w1 := w') (v := .pointer (some ⟨gb, 0, none⟩)) (by rfl) rfl ?_ ?_
      · go_simp
        (try simp only [i64_w])
        try rfl
      refine hK.out _ _ ⟨v3, m1, v8, v12, v13, v14, v15, m2, (by rw [ha.out]; exact putSel_upk 2 hb_ rfl rfl rfl), Q_BK, Q_HB, Q_L, Q_X1, Q_R8, Q_R12, Q_C13, Q_R14, Q_R15, Q_X13⟩
    refine steps_cons ?_ ?_
    · rintro b a w' ⟨v3, m1, v8, v12, v13, v14, v15, m2, ha, Q_BK, Q_HB, Q_L, Q_X1, Q_R8, Q_R12, Q_C13, Q_R14, Q_R15, Q_X13⟩ hb_ hon hoff
      refine ⟨_, rfl, fun K hK => ?_⟩
      have e5 : a.tmps[5]? = some (.pointer (some ⟨gb, 0, none⟩)) := by rw [ha]; exact putSel_on (e := (2, 5, .pointer (some ⟨gb, 0, none⟩))) 2 rfl rfl (hon 2 (by kernel_rfl)) rfl
      replace ha := Aside0.mk ha
      have hc_ : w'.cell? ⟨gb, 0, none⟩ = some (.int .i64 a0_0) := (blk_cell Q_BK 0).trans rfl
      refine value_ (w1 := w') (v := .int .i64 a0_0) (by rfl) rfl ?_ ?_
      · go_simp
        (try simp only [i64_w])
        try rfl
      refine hK.out _ _ ⟨v3, m1, v8, v12, v13, v14, v15, m2, (by rw [ha.out]; exact putSel_upk 3 hb_ rfl rfl rfl), Q_BK, Q_HB, Q_L, Q_X1, Q_R8, Q_R12, Q_C13, Q_R14, Q_R15, Q_X13⟩
    refine steps_cons ?_ ?_
    · rintro b a w' ⟨v3, m1, v8, v12, v13, v14, v15, m2, ha, Q_BK, Q_HB, Q_L, Q_X1, Q_R8, Q_R12, Q_C13, Q_R14, Q_R15, Q_X13⟩ hb_ hon hoff
      refine ⟨_, rfl, fun K hK => ?_⟩
      have e6 : a.tmps[6]? = some (.int .i64 a0_0) := by rw [ha]; exact putSel_on (e := (3, 6, .int .i64 a0_0)) 3 rfl rfl (hon 3 (by kernel_rfl)) rfl
      replace ha := Aside0.mk ha
      refine value_ (w1 := w') (v := .int .u64 (IntKind.u64.wrap a0_0)) (by rfl) rfl ?_ ?_
      · go_simp
        (try simp only [i64_w])
        try rfl
      refine hK.out _ _ ⟨v3, m1, v8, v12, v13, v14, v15, m2, (by rw [ha.out]; exact putSel_upk 4 hb_ rfl rfl rfl), Q_BK, Q_HB, Q_L, Q_X1, Q_R8, Q_R12, Q_C13, Q_R14, Q_R15, Q_X13⟩
    refine steps_cons ?_ ?_
    · rintro b a w' ⟨v3, m1, v8, v12, v13, v14, v15, m2, ha, Q_BK, Q_HB, Q_L, Q_X1, Q_R8, Q_R12, Q_C13, Q_R14, Q_R15, Q_X13⟩ hb_ hon hoff
      refine ⟨_, rfl, fun K hK => ?_⟩
      have e7 : a.tmps[7]? = some (.int .u64 (IntKind.u64.wrap a0_0)) := by rw [ha]; exact putSel_on (e := (4, 7, .int .u64 (IntKind.u64.wrap a0_0))) 4 rfl rfl (hon 4 (by kernel_rfl)) rfl
      replace ha := Aside0.mk ha
      refine goes_ Try.func20 (by kernel_rfl) rfl #[.int .u64 (IntKind.u64.wrap a0_0), .int .i64 4] (by rfl) rfl rfl (by first | (simp only [List.map_toArray, List.map_cons, List.map_nil, Act.eval, Array.getD_eq_getD_getElem?, Option.getD_some, e7]; done) | (simp only [List.map_toArray, List.map_cons, List.map_nil, Act.eval, Array.getD_eq_getD_getElem?, Option.getD_some, e7]; rfl)) ?_
      with_reducible refine (word_Put.calls 9 (IntKind.u64.wrap a0_0) 4 p1 _ HP1.out).mono ?_
      rintro e w9 ⟨u_, rfl, ho, hb⟩
      refine ⟨_, rfl, ?_⟩
      refine hK.out _ _ ⟨v3, m1, u_, v12, v13, v14, v15, m2, (by rw [ha.out]; exact putSel_upk 5 hb_ rfl rfl rfl), blk_below Q_BK hb, below_step Q_HB hb, fun h_ => (Q_L h_).below hb, Q_X1, fun _ => ext_R_new ho (fun h0_ => (Q_L h0_).lt) Q_HB.size, fun h_ => Kd.R_below (Q_R12 h_) hb, fun h_ => (Q_C13 h_).imp (fun _ z_ => ⟨z_.1, Kd.C_below z_.2 hb⟩), fun h_ => Kd.R_below (Q_R14 h_) hb, fun h_ => Kd.R_below (Q_R15 h_) hb, Q_X13⟩
    refine steps_cons ?_ ?_
    · rintro b a w' ⟨v3, m1, v8, v12, v13, v14, v15, m2, ha, Q_BK, Q_HB, Q_L, Q_X1, Q_R8, Q_R12, Q_C13, Q_R14, Q_R15, Q_X13⟩ hb_ hon hoff
      refine ⟨_, rfl, fun K hK => ?_⟩
      have e1 : a.tmps[1]? = some (.pointer (some ⟨gb, 0, none⟩)) := by rw [ha]; exact (putSel_off rfl).trans rfl
      replace ha := Aside0.mk ha
      refine value_ (w1 := w') (v := .pointer (some ⟨gb, 1, none⟩)) (by rfl) rfl ?_ ?_
      · go_simp
        (try simp only [i64_w])
        try rfl
      refine hK.out _ _ ⟨v3, m1, v8, v12, v13, v14, v15, m2, (by rw [ha.out]; exact putSel_upk 6 hb_ rfl rfl rfl), Q_BK, Q_HB, Q_L, Q_X1, Q_R8, Q_R12, Q_C13, Q_R14, Q_R15, Q_X13⟩
    refine steps_cons ?_ ?_
    · rintro b a w' ⟨v3, m1, v8, v12, v13, v14, v15, m2, ha, Q_BK, Q_HB, Q_L, Q_X1, Q_R8, Q_R12, Q_C13, Q_R14, Q_R15, Q_X13⟩ hb_ hon hoff
      refine ⟨_, rfl, fun K hK => ?_⟩
      have e9 : a.tmps[9]? = some (.pointer (some ⟨gb, 1, none⟩)) := by rw [ha]; exact putSel_on (e := (6, 9, .pointer (some ⟨gb, 1, none⟩))) 6 rfl rfl (hon 6 (by kernel_rfl)) rfl
      replace ha := Aside0.mk ha
      have hc_ : w'.cell? ⟨gb, 1, none⟩ = some (.int .i64 a0_1) := (blk_cell Q_BK 1).trans rfl
      refine value_ (w1 := w') (v := .int .i64 a0_1) (by rfl) rfl ?_ ?_
      · go_simp
        (try simp only [i64_w])
        try rfl
      refine hK.out _ _ ⟨v3, m1, v8, v12, v13, v14, v15, m2, (by rw [ha.out]; exact putSel_upk 7 hb_ rfl rfl rfl), Q_BK, Q_HB, Q_L, Q_X1, Q_R8, Q_R12, Q_C13, Q_R14, Q_R15, Q_X13⟩
    refine steps_cons ?_ ?_
    · rintro b a w' ⟨v3, m1, v8, v12, v13, v14, v15, m2, ha, Q_BK, Q_HB, Q_L, Q_X1, Q_R8, Q_R12, Q_C13, Q_R14, Q_R15, Q_X13⟩ hb_ hon hoff
      refine ⟨_, rfl, fun K hK => ?_⟩
      have e10 : a.tmps[10]? = some (.int .i64 a0_1) := by rw [ha]; exact putSel_on (e := (7, 10, .int .i64 a0_1)) 7 rfl rfl (hon 7 (by kernel_rfl)) rfl
      replace ha := Aside0.mk ha
      refine value_ (w1 := w') (v := .int .u64 (IntKind.u64.wrap a0_1)) (by rfl) rfl ?_ ?_
      · go_simp
        (try simp only [i64_w])
        try rfl
      refine hK.out _ _ ⟨v3, m1, v8, v12, v13, v14, v15, m2, (by rw [ha.out]; exact putSel_upk 8 hb_ rfl rfl rfl), Q_BK, Q_HB, Q_L, Q_X1, Q_R8, Q_R12, Q_C13, Q_R14, Q_R15, Q_X13⟩
    refine steps_cons ?_ ?_
    · rintro b a w' ⟨v3, m1, v8, v12, v13, v14, v15, m2, ha, Q_BK, Q_HB, Q_L, Q_X1, Q_R8, Q_R12, Q_C13, Q_R14, Q_R15, Q_X13⟩ hb_ hon hoff
      refine ⟨_, rfl, fun K hK => ?_⟩
      have e11 : a.tmps[11]? = some (.int .u64 (IntKind.u64.wrap a0_1)) := by rw [ha]; exact putSel_on (e := (8, 11, .int .u64 (IntKind.u64.wrap a0_1))) 8 rfl rfl (hon 8 (by kernel_rfl)) rfl
      replace ha := Aside0.mk ha
      refine goes_ Try.func20 (by kernel_rfl) rfl #[.int .u64 (IntKind.u64.wrap a0_1), .int .i64 4] (by rfl) rfl rfl (by first | (simp only [List.map_toArray, List.map_cons, List.map_nil, Act.eval, Array.getD_eq_getD_getElem?, Option.getD_some, e11]; done) | (simp only [List.map_toArray, List.map_cons, List.map_nil, Act.eval, Array.getD_eq_getD_getElem?, Option.getD_some, e11]; rfl)) ?_
      with_reducible refine (word_Put.calls 9 (IntKind.u64.wrap a0_1) 4 p2 _ HP2.out).mono ?_
      rintro e w9 ⟨u_, rfl, ho, hb⟩
      refine ⟨_, rfl, ?_⟩
      refine hK.out _ _ ⟨v3, m1, v8, u_, v13, v14, v15, m2, (by rw [ha.out]; exact putSel_upk 9 hb_ rfl rfl rfl), blk_below Q_BK hb, below_step Q_HB hb, fun h_ => (Q_L h_).below hb, Q_X1, fun h_ => Kd.R_below (Q_R8 h_) hb, fun _ => ext_R_new ho (fun h0_ => (Q_L h0_).lt) Q_HB.size, fun h_ => (Q_C13 h_).imp (fun _ z_ => ⟨z_.1, Kd.C_below z_.2 hb⟩), fun h_ => Kd.R_below (Q_R14 h_) hb, fun h_ => Kd.R_below (Q_R15 h_) hb, Q_X13⟩
    refine steps_cons ?_ ?_
    · rintro b a w' ⟨v3, m1, v8, v12, v13, v14, v15, m2, ha, Q_BK, Q_HB, Q_L, Q_X1, Q_R8, Q_R12, Q_C13, Q_R14, Q_R15, Q_X13⟩ hb_ hon hoff
      refine ⟨_, rfl, fun K hK => ?_⟩
      have e4 : a.tmps[4]? = some (m1) := by rw [ha]; exact putSel_on (e := (1, 4, m1)) 1 rfl rfl (hon 1 (by kernel_rfl)) rfl
      have e8 : a.tmps[8]? = some (v8) := by rw [ha]; exact putSel_on (e := (5, 8, v8)) 5 rfl rfl (hon 5 (by kernel_rfl)) rfl
      have e12 : a.tmps[12]? = some (v12) := by rw [ha]; exact putSel_on (e := (9, 12, v12)) 9 rfl rfl (hon 9 (by kernel_rfl)) rfl
      replace ha := Aside0.mk ha
      rw [Q_X1 (hon 1 (by kernel_rfl))] at e4
      have hb : Below w'.heap.size w' (w'.alloc (.cells #[v3, v8, v12] 35)) := below_alloc (Below.refl _ _) _
      obtain ⟨A3, c3, f3, l3, g3⟩ := (Q_L (hon 0 (by kernel_rfl))).reads
      obtain ⟨A8, c8, f8, l8, g8⟩ := Kd.R_reads (Q_R8 (hon 5 (by kernel_rfl)))
      obtain ⟨A12, c12, f12, l12, g12⟩ := Kd.R_reads (Q_R12 (hon 9 (by kernel_rfl)))
      have hC : Kd.C (Kd.slice 5 (Kd.int .u8)) (w'.alloc (.cells #[v3, v8, v12] 35)) (some ⟨w'.heap.size, 0, none⟩) 3 [lit, p1, p2] := ext_C_rows w' [v3, v8, v12] [lit, p1, p2] rfl (by simp) (fun j v xs h1 h2 => by
        match j, h1, h2 with
        | 0, h1, h2 => obtain rfl := Option.some.inj h1; obtain rfl := Option.some.inj h2; exact ⟨A3, c3, f3, l3, g3⟩
        | 1, h1, h2 => obtain rfl := Option.some.inj h1; obtain rfl := Option.some.inj h2; exact ⟨A8, c8, f8, l8, g8⟩
        | 2, h1, h2 => obtain rfl := Option.some.inj h1; obtain rfl := Option.some.inj h2; exact ⟨A12, c12, f12, l12, g12⟩)
      refine value_ (w1 := w'.alloc (.cells #[v3, v8, v12] 35)) (v := .slice (some ⟨w'.heap.size, 0, none⟩) 3 3) (by rfl) rfl ?_ ?_
      · have e4_ := eval_of e4
        have e8_ := eval_of e8
        have e12_ := eval_of e12
        rw [f3] at e4_ ⊢
        rw [f8] at e8_ ⊢
        rw [f12] at e12_ ⊢
        go_simp
        try rfl
      refine hK.out _ _ ⟨v3, m1, v8, v12, .slice (some ⟨w'.heap.size, 0, none⟩) 3 3, v14, v15, m2, (by rw [ha.out]; exact putSel_upk 10 hb_ rfl rfl rfl), blk_below Q_BK hb, below_step Q_HB hb, fun h_ => (Q_L h_).below hb, Q_X1, fun h_ => Kd.R_below (Q_R8 h_) hb, fun h_ => Kd.R_below (Q_R12 h_) hb, fun _ => ⟨_, rfl, hC⟩, fun h_ => Kd.R_below (Q_R14 h_) hb, fun h_ => Kd.R_below (Q_R15 h_) hb, Q_X13⟩
    refine steps_cons ?_ ?_
    · rintro b a w' ⟨v3, m1, v8, v12, v13, v14, v15, m2, ha, Q_BK, Q_HB, Q_L, Q_X1, Q_R8, Q_R12, Q_C13, Q_R14, Q_R15, Q_X13⟩ hb_ hon hoff
      refine ⟨_, rfl, fun K hK => ?_⟩
      have e13 : a.tmps[13]? = some (v13) := by rw [ha]; exact putSel_on (e := (10, 13, v13)) 10 rfl rfl (hon 10 (by kernel_rfl)) rfl
      replace ha := Aside0.mk ha
      obtain ⟨A13, f13, g13⟩ := Q_C13 (hon 10 (by kernel_rfl))
      rw [f13] at e13
      refine goes_ Try.func19 (by kernel_rfl) rfl #[.slice A13 3 3] (by rfl) rfl rfl (by first | (simp only [List.map_toArray, List.map_cons, List.map_nil, Act.eval, Array.getD_eq_getD_getElem?, Option.getD_some, e13]; done) | (simp only [List.map_toArray, List.map_cons, List.map_nil, Act.eval, Array.getD_eq_getD_getElem?, Option.getD_some, e13]; rfl)) ?_
      have hcc := slices_Concat_byte_byte.calls A13 3 [lit, p1, p2] q w' g13 (by simp) HP3.out
      change Calls Try.prog 19 #[.slice A13 3 3] w' _ at hcc
      with_reducible refine hcc.mono ?_
      rintro e w9 ⟨u_, rfl, ho, hb⟩
      refine ⟨_, rfl, ?_⟩
      refine hK.out _ _ ⟨v3, m1, v8, v12, v13, u_, v15, m2, (by rw [ha.out]; exact putSel_upk 11 hb_ rfl rfl rfl), blk_below Q_BK hb, below_step Q_HB hb, fun h_ => (Q_L h_).below hb, Q_X1, fun h_ => Kd.R_below (Q_R8 h_) hb, fun h_ => Kd.R_below (Q_R12 h_) hb, fun h_ => (Q_C13 h_).imp (fun _ z_ => ⟨z_.1, Kd.C_below z_.2 hb⟩), fun _ => Kd.R_lower ho Q_HB.size, fun h_ => Kd.R_below (Q_R15 h_) hb, Q_X13⟩
    refine steps_cons ?_ ?_
    · rintro b a w' ⟨v3, m1, v8, v12, v13, v14, v15, m2, ha, Q_BK, Q_HB, Q_L, Q_X1, Q_R8, Q_R12, Q_C13, Q_R14, Q_R15, Q_X13⟩ hb_ hon hoff
      refine ⟨_, rfl, fun K hK => ?_⟩
      have e14 : a.tmps[14]? = some (v14) := by rw [ha]; exact putSel_on (e := (11, 14, v14)) 11 rfl rfl (hon 11 (by kernel_rfl)) rfl
      replace ha := Aside0.mk ha
      obtain ⟨A14, c14, f14, l14, g14⟩ := Kd.R_reads (Q_R14 (hon 11 (by kernel_rfl)))
      rw [f14] at e14
      refine goes_ Try.func18 (by kernel_rfl) rfl #[.slice A14 q.length c14, .int .i64 160] (by rfl) rfl rfl (by first | (simp only [List.map_toArray, List.map_cons, List.map_nil, Act.eval, Array.getD_eq_getD_getElem?, Option.getD_some, e14]; done) | (simp only [List.map_toArray, List.map_cons, List.map_nil, Act.eval, Array.getD_eq_getD_getElem?, Option.getD_some, e14]; rfl)) ?_
      with_reducible refine (word_Pad.calls A14 c14 q 160 r _ g14 l14 HP4.out).mono ?_
      rintro e w9 ⟨u_, rfl, ho, hb⟩
      refine ⟨_, rfl, ?_⟩
      refine hK.out _ _ ⟨v3, m1, v8, v12, v13, v14, u_, m2, (by rw [ha.out]; exact putSel_upk 12 hb_ rfl rfl rfl), blk_below Q_BK hb, below_step Q_HB hb, fun h_ => (Q_L h_).below hb, Q_X1, fun h_ => Kd.R_below (Q_R8 h_) hb, fun h_ => Kd.R_below (Q_R12 h_) hb, fun h_ => (Q_C13 h_).imp (fun _ z_ => ⟨z_.1, Kd.C_below z_.2 hb⟩), fun h_ => Kd.R_below (Q_R14 h_) hb, fun _ => Kd.R_lower ho Q_HB.size, fun h_ => absurd ((hoff 13 (by kernel_rfl)).symm.trans h_) (by decide)⟩
    refine steps_cons ?_ ?_
    · rintro b a w' ⟨v3, m1, v8, v12, v13, v14, v15, m2, ha, Q_BK, Q_HB, Q_L, Q_X1, Q_R8, Q_R12, Q_C13, Q_R14, Q_R15, Q_X13⟩ hb_ hon hoff
      refine ⟨_, rfl, fun K hK => ?_⟩
      have e15 : a.tmps[15]? = some (v15) := by rw [ha]; exact putSel_on (e := (12, 15, v15)) 12 rfl rfl (hon 12 (by kernel_rfl)) rfl
      replace ha := Aside0.mk ha
      refine value_ (w1 := w') (v := v15) (by rfl) rfl ?_ ?_
      · go_simp
        (try simp only [i64_w])
        try rfl
      refine hK.out _ _ ⟨v3, m1, v8, v12, v13, v14, v15, v15, (by rw [ha.out]; exact putSel_upk 13 hb_ rfl rfl rfl), Q_BK, Q_HB, Q_L, Q_X1, Q_R8, Q_R12, Q_C13, Q_R14, Q_R15, fun _ => rfl⟩
    exact steps_nil
  · rintro b a w' hall ⟨v3, m1, v8, v12, v13, v14, v15, m2, ha, Q_BK, Q_HB, Q_L, Q_X1, Q_R8, Q_R12, Q_C13, Q_R14, Q_R15, Q_X13⟩
    have hb0_ := hall 0 (by kernel_rfl)
    have hb1_ := hall 1 (by kernel_rfl)
    have hb2_ := hall 2 (by kernel_rfl)
    have hb3_ := hall 3 (by kernel_rfl)
    have hb4_ := hall 4 (by kernel_rfl)
    have hb5_ := hall 5 (by kernel_rfl)
    have hb6_ := hall 6 (by kernel_rfl)
    have hb7_ := hall 7 (by kernel_rfl)
    have hb8_ := hall 8 (by kernel_rfl)
    have hb9_ := hall 9 (by kernel_rfl)
    have hb10_ := hall 10 (by kernel_rfl)
    have hb11_ := hall 11 (by kernel_rfl)
    have hb12_ := hall 12 (by kernel_rfl)
    have hb13_ := hall 13 (by kernel_rfl)
    subst ha
    obtain rfl := Q_X13 hb13_
    have HO := Aside0.mk (Q_R15 hb12_)
    have HB := Aside0.mk Q_HB
    simp only [putSel, hb0_, hb1_, hb2_, hb3_, hb4_, hb5_, hb6_, hb7_, hb8_, hb9_, hb10_, hb11_, hb12_, hb13_, if_true, Act.put, List.setIfInBounds_toArray, List.set_cons_zero, List.set_cons_succ]
    clear hb0_ hb1_ hb2_ hb3_ hb4_ hb5_ hb6_ hb7_ hb8_ hb9_ hb10_ hb11_ hb12_ hb13_ hall Q_L Q_X1 Q_R8 Q_R12 Q_C13 Q_R14 Q_R15 Q_BK Q_HB
    try go_wp2
    go_ret
    exact ⟨_, rfl, HO.out, HB.out⟩

end Go.Proofs.Ytllbgccdcibopaa.Q
