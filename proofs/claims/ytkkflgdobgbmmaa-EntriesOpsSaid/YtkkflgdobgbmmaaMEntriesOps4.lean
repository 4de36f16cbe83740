/- EntriesOps: for every input the statement's function returns true; there is no further condition. Text 5 of 9: this session's texts, and of the words that print.sh has printed those that are needed, laid together by its own program (merge.py). Not trusted: Lean checks them. -/
import Derived.Test.YtkkflgdobgbmmaaMEntriesOps2
import Derived.Test.YtkkflgdobgbmmaaMEntriesOps3
section
namespace Go.Proofs.Ytkkflgdobgbmmaa.Q
open Go.RowKit Go.Proofs.YtkkflgdobgbmmaaW.PrintWords Go.Proofs.YtkkflgdobgbmmaaW.PrintLast Go.Proofs.YtkkflgdobgbmmaaW.PrintMore
attribute [local go_sem] max2_int min2_int max_two min_two max_three min_three max_four min_four   -- for this text's walks alone
set_option linter.unusedVariables false
set_option linter.unusedSimpArgs false

/-! ### reliquaryref22_Read: function 26 -/
mutual
def reliquaryref22_Read.l0 : Nat → ByteArray → List (S30) → Int → Option ((List (S30)) × Int)
  | 0, _, _, _ => none
  | k + 1, x0, x4, x5 => if x5 < (x0.size : Int) then (if 0 ≤ x5 then (if 0 ≤ (wrap64 (x5 + 1)) then (if (wrap64 (x5 + 1)) < (x0.size : Int) then (if 0 ≤ (wrap64 (x5 + 2)) then (if (wrap64 (x5 + 2)) < (x0.size : Int) then (if (wrap64 (bt x0 (wrap64 (x5 + 2)))) > 24 then (reliquaryref22_Read.j1 k x0 x4 x5 (wrap64 ((wrap64 (bt x0 x5)) + (wrap64 (256 * (wrap64 (bt x0 (wrap64 (x5 + 1)))))))) (wrap64 (bt x0 (wrap64 (x5 + 2)))) true) else (if (wrap64 ((wrap64 (bt x0 x5)) + (wrap64 (256 * (wrap64 (bt x0 (wrap64 (x5 + 1)))))))) = 0 then (if (wrap64 (bt x0 (wrap64 (x5 + 2)))) > 0 then (reliquaryref22_Read.j1 k x0 x4 x5 (wrap64 ((wrap64 (bt x0 x5)) + (wrap64 (256 * (wrap64 (bt x0 (wrap64 (x5 + 1)))))))) (wrap64 (bt x0 (wrap64 (x5 + 2)))) true) else (if (wrap64 ((wrap64 (bt x0 x5)) + (wrap64 (256 * (wrap64 (bt x0 (wrap64 (x5 + 1)))))))) > 0 then (reliquaryref22_Read.j1 k x0 x4 x5 (wrap64 ((wrap64 (bt x0 x5)) + (wrap64 (256 * (wrap64 (bt x0 (wrap64 (x5 + 1)))))))) (wrap64 (bt x0 (wrap64 (x5 + 2)))) ((wrap64 (bt x0 (wrap64 (x5 + 2)))) == 0)) else (reliquaryref22_Read.j1 k x0 x4 x5 (wrap64 ((wrap64 (bt x0 x5)) + (wrap64 (256 * (wrap64 (bt x0 (wrap64 (x5 + 1)))))))) (wrap64 (bt x0 (wrap64 (x5 + 2)))) false))) else (if (wrap64 ((wrap64 (bt x0 x5)) + (wrap64 (256 * (wrap64 (bt x0 (wrap64 (x5 + 1)))))))) > 0 then (reliquaryref22_Read.j1 k x0 x4 x5 (wrap64 ((wrap64 (bt x0 x5)) + (wrap64 (256 * (wrap64 (bt x0 (wrap64 (x5 + 1)))))))) (wrap64 (bt x0 (wrap64 (x5 + 2)))) ((wrap64 (bt x0 (wrap64 (x5 + 2)))) == 0)) else (reliquaryref22_Read.j1 k x0 x4 x5 (wrap64 ((wrap64 (bt x0 x5)) + (wrap64 (256 * (wrap64 (bt x0 (wrap64 (x5 + 1)))))))) (wrap64 (bt x0 (wrap64 (x5 + 2)))) false)))) else (none)) else (none)) else (none)) else (none)) else (none)) else (some (x4, 0))
def reliquaryref22_Read.j1 : Nat → ByteArray → List (S30) → Int → Int → Int → Bool → Option ((List (S30)) × Int)
  | 0, _, _, _, _, _, _ => none
  | k + 1, x0, x4, x5, x6, x7, x52 => if x52 = true then (some (([] : List (S30)), 11)) else (if 0 ≤ (wrap64 (x5 + 3)) then (if (wrap64 (x5 + 3)) ≤ (wrap64 ((wrap64 (x5 + 3)) + x7)) then (if (wrap64 ((wrap64 (x5 + 3)) + x7)) ≤ (x0.size : Int) then ((reliquaryref22_Piece.f k (x0.extract ((wrap64 (x5 + 3)) : Int).toNat ((wrap64 ((wrap64 (x5 + 3)) + x7)) : Int).toNat) x6).bind fun t212 => (if 0 ≤ x5 then (if x5 ≤ (wrap64 (x5 + 32)) then (if (wrap64 (x5 + 32)) ≤ (x0.size : Int) then (if t212.toList = (x0.extract (x5 : Int).toNat ((wrap64 (x5 + 32)) : Int).toNat).toList then (if x6 > 0 then ((reliquaryref22_Find.f k x4 (x0.extract ((wrap64 (x5 + 3)) : Int).toNat ((wrap64 ((wrap64 (x5 + 3)) + x7)) : Int).toNat)).bind fun t213 => (if t213 ≥ 0 then (some (([] : List (S30)), 11)) else (if x4.length < 5864062014805 then (reliquaryref22_Read.l0 k x0 (x4 ++ [(⟨x0.extract ((wrap64 (x5 + 3)) : Int).toNat ((wrap64 ((wrap64 (x5 + 3)) + x7)) : Int).toNat, x6⟩ : S30)]) (wrap64 (x5 + 32))) else (none)))) else (if x4.length < 5864062014805 then (reliquaryref22_Read.l0 k x0 (x4 ++ [(⟨x0.extract ((wrap64 (x5 + 3)) : Int).toNat ((wrap64 ((wrap64 (x5 + 3)) + x7)) : Int).toNat, x6⟩ : S30)]) (wrap64 (x5 + 32))) else (none))) else (some (([] : List (S30)), 11))) else (none)) else (none)) else (none))) else (none)) else (none)) else (none))
end
def reliquaryref22_Read.f (k : Nat) (a0 : ByteArray) : Option ((List (S30)) × Int) := if ((a0.size : Int) % 32) > 0 then (some (([] : List (S30)), 11)) else (reliquaryref22_Read.l0 k a0 ([] : List (S30)) 0)
def reliquaryref22_Read.T7 : Bool × List (List Nat × List Nat) := (true, [([], []), ([], []), ([0, 1], [0, 1]), ([2], [2]), ([], []), ([], []), ([5], [5]), ([4, 6], [4, 6]), ([7], [7]), ([8], [8]), ([3, 9], [3, 9]), ([10, 0, 1, 2, 3, 4, 5, 6, 7, 8, 9, 10], [10])])
def reliquaryref22_Read.B7 : List Nat := [0, 0, 3, 7, 0, 0, 32, 112, 240, 496, 1023, 2047]
theorem reliquaryref22_Read.tab7 : rtab .any (opsOf Try.f26 7) = reliquaryref22_Read.T7 := by kernel_rfl
theorem reliquaryref22_Read.bits7 : waitsOk reliquaryref22_Read.T7.2 reliquaryref22_Read.B7 = true := by kernel_rfl
def reliquaryref22_Read.T12 : Bool × List (List Nat × List Nat) := (true, [([], []), ([0], [0]), ([], []), ([], []), ([], []), ([4], [4]), ([2, 3, 5], [2, 3, 5]), ([1, 6], [1, 6])])
def reliquaryref22_Read.B12 : List Nat := [0, 1, 0, 0, 0, 16, 60, 127]
theorem reliquaryref22_Read.tab12 : rtab .any (opsOf Try.f26 12) = reliquaryref22_Read.T12 := by kernel_rfl
theorem reliquaryref22_Read.bits12 : waitsOk reliquaryref22_Read.T12.2 reliquaryref22_Read.B12 = true := by kernel_rfl
set_option maxHeartbeats 8000000 in
set_option maxRecDepth 100000 in
theorem reliquaryref22_Read.calls (k : Nat) (a0 : ByteArray) (r1 : List (S30)) (r2 : Int) (w : World) (h : reliquaryref22_Read.f k a0 = some (r1, r2)) :
    Calls Try.prog 26 #[.string a0] w fun e w' => ∃ v0_ : Value, e = .returned (.tuple #[v0_, .int .i64 r2]) ∧ Kd.R k30 30 w' w.heap.size (fun _ => True) v0_ r1 ∧ Below w.heap.size w w' := by
  have hu30 := Try.underlying30
  have HB := Aside0.mk (Below.refl w.heap.size w)
  have H : (if ((a0.size : Int) % 32) > 0 then (some (([] : List (S30)), 11)) else (reliquaryref22_Read.l0 k a0 ([] : List (S30)) 0)) = some (r1, r2) := h
  clear h
  by_cases c2 : ((a0.size : Int) % 32) > 0
  · rw [if_pos c2] at H
    have c2b0 : decide (0 < ((a0.size : Int) % 32)) = true := decide_eq_true c2
    clear c2
    simp only [Option.some.injEq, Prod.mk.injEq] at H
    obtain ⟨rfl, rfl⟩ := H
    go_enter Try.func26, Try.ntmps26
    go_wp2
    go_ret2
    exact ⟨_, by first | rfl | (simp [errW_none, errW_some] <;> rfl) | (simp [*, errW_none, errW_some] <;> rfl), by first | exact Kd.R_nil _ _ _ _ _ | exact Kd.N_nil _ _ _ _ _ | exact Kd.V_nil _ _ _ _ _ | exact Kd.Q_nil _ _ _ _ _ | exact Kd.S_nil _ _ _ _ _, by repeat (first | (with_reducible first | exact HB.out | apply below_alloc | apply pw_below_drewN | apply below_drew1) | exact HB.out)⟩
  · rw [if_neg c2] at H
    have c2b0 : decide (0 < ((a0.size : Int) % 32)) = false := decide_eq_false c2
    clear c2
    have H' := Aside0.mk H
    clear H
    go_enter Try.func26, Try.ntmps26
    go_wp2
    go_loopg [4, 5] k (fun kq v4 v5 w' => ∃ (x4_1 : List (S30)) (x5_1 : Int), v5 = .int .i64 x5_1 ∧ Aside0 (reliquaryref22_Read.l0 kq a0 x4_1 x5_1 = some (r1, r2)) ∧ Aside0 (kq ≤ k) ∧ Aside0 (Kd.R k30 30 w' w.heap.size (fun _ => True) v4 x4_1) ∧ Aside0 (Below w.heap.size w w'))
    case atStart => exact ⟨(([] : List (S30))), (0), (by first | rfl | (simp; done) | (simp [*]; done)), H', ⟨Nat.le_refl _⟩, ⟨by first | exact Kd.R_nil _ _ _ _ _ | exact Kd.N_nil _ _ _ _ _ | exact Kd.V_nil _ _ _ _ _ | exact Kd.Q_nil _ _ _ _ _ | exact Kd.S_nil _ _ _ _ _⟩, ⟨by repeat (first | (with_reducible first | exact HB.out | apply below_alloc | apply pw_below_drewN | apply below_drew1) | exact HB.out)⟩⟩
    case round =>
      clear H'
      try clear c2
      try clear c2b0
      try clear p2
      obtain ⟨x4_1, x5_1, rfl, HA, HK1, HO_4, HB⟩ := hrel
      cases gk with
      | zero => exact absurd HA.out (by simp [reliquaryref22_Read.l0])
      | succ k1 =>
        have H := HA.out
        clear HA
        simp only [reliquaryref22_Read.l0] at H
        by_cases c3 : x5_1 < (a0.size : Int)
        · rw [if_pos c3] at H
          have c3b0 : decide (x5_1 < (a0.size : Int)) = true := decide_eq_true c3
          clear c3
          by_cases c4 : 0 ≤ x5_1
          · rw [if_pos c4] at H
            have c4b0 : decide (0 ≤ x5_1) = true := decide_eq_true c4
            clear c4
            obtain ⟨ji6, hji6⟩ : ∃ j_ : Int, (wrap64 (x5_1 + 1)) = j_ := ⟨_, rfl⟩
            replace H : (if 0 ≤ (ji6) then (if (ji6) < (a0.size : Int) then (if 0 ≤ (wrap64 (x5_1 + 2)) then (if (wrap64 (x5_1 + 2)) < (a0.size : Int) then (if (wrap64 (bt a0 (wrap64 (x5_1 + 2)))) > 24 then (reliquaryref22_Read.j1 k1 a0 x4_1 x5_1 (wrap64 ((wrap64 (bt a0 x5_1)) + (wrap64 (256 * (wrap64 (bt a0 (ji6))))))) (wrap64 (bt a0 (wrap64 (x5_1 + 2)))) true) else (if (wrap64 ((wrap64 (bt a0 x5_1)) + (wrap64 (256 * (wrap64 (bt a0 (ji6))))))) = 0 then (if (wrap64 (bt a0 (wrap64 (x5_1 + 2)))) > 0 then (reliquaryref22_Read.j1 k1 a0 x4_1 x5_1 (wrap64 ((wrap64 (bt a0 x5_1)) + (wrap64 (256 * (wrap64 (bt a0 (ji6))))))) (wrap64 (bt a0 (wrap64 (x5_1 + 2)))) true) else (if (wrap64 ((wrap64 (bt a0 x5_1)) + (wrap64 (256 * (wrap64 (bt a0 (ji6))))))) > 0 then (reliquaryref22_Read.j1 k1 a0 x4_1 x5_1 (wrap64 ((wrap64 (bt a0 x5_1)) + (wrap64 (256 * (wrap64 (bt a0 (ji6))))))) (wrap64 (bt a0 (wrap64 (x5_1 + 2)))) ((wrap64 (bt a0 (wrap64 (x5_1 + 2)))) == 0)) else (reliquaryref22_Read.j1 k1 a0 x4_1 x5_1 (wrap64 ((wrap64 (bt a0 x5_1)) + (wrap64 (256 * (wrap64 (bt a0 (ji6))))))) (wrap64 (bt a0 (wrap64 (x5_1 + 2)))) false))) else (if (wrap64 ((wrap64 (bt a0 x5_1)) + (wrap64 (256 * (wrap64 (bt a0 (ji6))))))) > 0 then (reliquaryref22_Read.j1 k1 a0 x4_1 x5_1 (wrap64 ((wrap64 (bt a0 x5_1)) + (wrap64 (256 * (wrap64 (bt a0 (ji6))))))) (wrap64 (bt a0 (wrap64 (x5_1 + 2)))) ((wrap64 (bt a0 (wrap64 (x5_1 + 2)))) == 0)) else (reliquaryref22_Read.j1 k1 a0 x4_1 x5_1 (wrap64 ((wrap64 (bt a0 x5_1)) + (wrap64 (256 * (wrap64 (bt a0 (ji6))))))) (wrap64 (bt a0 (wrap64 (x5_1 + 2)))) false)))) else (none)) else (none)) else (none)) else (none)) = some (r1, r2) := by first | (rw [hji6] at H; exact H) | (simp only [hji6] at H ⊢; exact H)
            have hji6w : (IntKind.i64.wrap (x5_1 + 1)) = ji6 := (i64_w _).trans hji6
            by_cases c7 : 0 ≤ (ji6)
            · rw [if_pos c7] at H
              have c7b0 : decide (0 ≤ (ji6)) = true := decide_eq_true c7
              clear c7
              by_cases c8 : (ji6) < (a0.size : Int)
              · rw [if_pos c8] at H
                have c8b0 : decide ((ji6) < (a0.size : Int)) = true := decide_eq_true c8
                clear c8
                obtain ⟨ji10, hji10⟩ : ∃ j_ : Int, (wrap64 (x5_1 + 2)) = j_ := ⟨_, rfl⟩
                replace H : (if 0 ≤ (ji10) then (if (ji10) < (a0.size : Int) then (if (wrap64 (bt a0 (ji10))) > 24 then (reliquaryref22_Read.j1 k1 a0 x4_1 x5_1 (wrap64 ((wrap64 (bt a0 x5_1)) + (wrap64 (256 * (wrap64 (bt a0 (ji6))))))) (wrap64 (bt a0 (ji10))) true) else (if (wrap64 ((wrap64 (bt a0 x5_1)) + (wrap64 (256 * (wrap64 (bt a0 (ji6))))))) = 0 then (if (wrap64 (bt a0 (ji10))) > 0 then (reliquaryref22_Read.j1 k1 a0 x4_1 x5_1 (wrap64 ((wrap64 (bt a0 x5_1)) + (wrap64 (256 * (wrap64 (bt a0 (ji6))))))) (wrap64 (bt a0 (ji10))) true) else (if (wrap64 ((wrap64 (bt a0 x5_1)) + (wrap64 (256 * (wrap64 (bt a0 (ji6))))))) > 0 then (reliquaryref22_Read.j1 k1 a0 x4_1 x5_1 (wrap64 ((wrap64 (bt a0 x5_1)) + (wrap64 (256 * (wrap64 (bt a0 (ji6))))))) (wrap64 (bt a0 (ji10))) ((wrap64 (bt a0 (ji10))) == 0)) else (reliquaryref22_Read.j1 k1 a0 x4_1 x5_1 (wrap64 ((wrap64 (bt a0 x5_1)) + (wrap64 (256 * (wrap64 (bt a0 (ji6))))))) (wrap64 (bt a0 (ji10))) false))) else (if (wrap64 ((wrap64 (bt a0 x5_1)) + (wrap64 (256 * (wrap64 (bt a0 (ji6))))))) > 0 then (reliquaryref22_Read.j1 k1 a0 x4_1 x5_1 (wrap64 ((wrap64 (bt a0 x5_1)) + (wrap64 (256 * (wrap64 (bt a0 (ji6))))))) (wrap64 (bt a0 (ji10))) ((wrap64 (bt a0 (ji10))) == 0)) else (reliquaryref22_Read.j1 k1 a0 x4_1 x5_1 (wrap64 ((wrap64 (bt a0 x5_1)) + (wrap64 (256 * (wrap64 (bt a0 (ji6))))))) (wrap64 (bt a0 (ji10))) false)))) else (none)) else (none)) = some (r1, r2) := by first | (rw [hji10] at H; exact H) | (simp only [hji10] at H ⊢; exact H)
                have hji10w : (IntKind.i64.wrap (x5_1 + 2)) = ji10 := (i64_w _).trans hji10
                by_cases c11 : 0 ≤ (ji10)
                · rw [if_pos c11] at H
                  have c11b0 : decide (0 ≤ (ji10)) = true := decide_eq_true c11
                  clear c11
                  by_cases c12 : (ji10) < (a0.size : Int)
                  · rw [if_pos c12] at H
                    have c12b0 : decide ((ji10) < (a0.size : Int)) = true := decide_eq_true c12
                    clear c12
                    have HC14 := Aside0.mk H
                    clear H
                    try go_wp2
                    have n0_ := Aside0.mk (Kd.R_drew HO_4.out)
                    have n1_ := Aside0.mk (below_drew1 HB.out)
                    clear HO_4
                    clear HB
                    have HO_4 := n0_
                    have HB := n1_
                    clear n0_ n1_
                    have p5 : 0 ≤ (x5_1 : Int) := of_decide_eq_true (by first | (with_reducible assumption) | assumption)
                    have q5 : x5_1 < (a0.size : Int) := of_decide_eq_true (by first | (with_reducible assumption) | assumption)
                    have hx5 := bt_at a0 x5_1
                    replace p5 := eq_true p5
                    replace q5 := eq_true q5
                    have p9 : 0 ≤ ((ji6) : Int) := of_decide_eq_true (by first | (with_reducible assumption) | assumption)
                    have q9 : (ji6) < (a0.size : Int) := of_decide_eq_true (by first | (with_reducible assumption) | assumption)
                    have hx9 := bt_at a0 (ji6)
                    replace p9 := eq_true p9
                    replace q9 := eq_true q9
                    refine start_ (n := 12) (S := fun w' => True) (ds := []) #[false, false, false, false, false, false, false, false, false, false, false, false] (by kernel_rfl) rfl rfl trivial (fun hHeld => ?_); refine with_tabW reliquaryref22_Read.tab7 reliquaryref22_Read.bits7 (fun HT_ HW_ => ?_)
                    generalize wr.drew = w15 at HO_4 HB hHeld ⊢
                    refine pure_ (i := 0) (N := some 19) (v := ?_) (a' := ?_) #[true, false, false, false, false, false, false, false, false, false, false, false] rfl rfl (any_of HT_.out (by kernel_rfl)) (fun _ _ _ h => h) (Or.inl ⟨by rfl, ?_⟩) ?_ ?_
                    rotate_left
                    · intro w'
                      go_simp
                      with_reducible rfl
                    rotate_left
                    · simp only [Act.put, List.setIfInBounds_toArray, List.set_cons_zero, List.set_cons_succ, i64_w, i32_w]
                      rfl
                    refine pure_ (i := 1) (N := some 20) (v := ?_) (a' := ?_) #[true, true, false, false, false, false, false, false, false, false, false, false] rfl rfl (any_of HT_.out (by kernel_rfl)) (fun _ _ _ h => h) (Or.inl ⟨by rfl, ?_⟩) ?_ ?_
                    rotate_left
                    · intro w'
                      go_simp
                      with_reducible rfl
                    rotate_left
                    · simp only [Act.put, List.setIfInBounds_toArray, List.set_cons_zero, List.set_cons_succ, i64_w, i32_w]
                      rfl
                    refine pure_ (i := 4) (N := some 23) (v := ?_) (a' := ?_) #[true, true, false, false, true, false, false, false, false, false, false, false] rfl rfl (any_of HT_.out (by kernel_rfl)) (fun _ _ _ h => h) (Or.inl ⟨by rfl, ?_⟩) ?_ ?_
                    rotate_left
                    · intro w'
                      go_simp
                      with_reducible rfl
                    rotate_left
                    · simp only [Act.put, List.setIfInBounds_toArray, List.set_cons_zero, List.set_cons_succ, i64_w, i32_w]
                      rfl
                    refine pure_ (i := 5) (N := some 24) (v := ?_) (a' := ?_) #[true, true, false, false, true, true, false, false, false, false, false, false] rfl rfl (any_of HT_.out (by kernel_rfl)) (fun _ _ _ h => h) (Or.inl ⟨by rfl, ?_⟩) ?_ ?_
                    rotate_left
                    · intro w'
                      go_simp
                      with_reducible rfl
                    rotate_left
                    · simp only [Act.put, List.setIfInBounds_toArray, List.set_cons_zero, List.set_cons_succ, i64_w, i32_w]
                      rfl
                    refine pure_ (i := 6) (N := some 25) (v := ?_) (a' := ?_) #[true, true, false, false, true, true, true, false, false, false, false, false] rfl rfl (any_of HT_.out (by kernel_rfl)) (fun _ _ _ h => h) (Or.inl ⟨by rfl, ?_⟩) ?_ ?_
                    rotate_left
                    · intro w'
                      go_simp
                      with_reducible rfl
                    rotate_left
                    · simp only [Act.put, List.setIfInBounds_toArray, List.set_cons_zero, List.set_cons_succ, i64_w, i32_w]
                      rfl
                    refine take_ (i := 2) (N := some 21) (v := ?_) (a' := ?_) #[true, true, true, false, true, true, true, false, false, false, false, false] rfl rfl (take_ofW HT_.out HW_.out (by kernel_rfl)) (fun _ _ _ h => h) (Or.inl ⟨by rfl, ?_⟩) hHeld ?_ ?_
                    rotate_left
                    · intro w' _
                      go_simp
                      with_reducible rfl
                    rotate_left
                    · simp only [Act.put, List.setIfInBounds_toArray, List.set_cons_zero, List.set_cons_succ, i64_w, i32_w]
                      rfl
                    refine pure_ (i := 3) (N := some 22) (v := ?_) (a' := ?_) #[true, true, true, true, true, true, true, false, false, false, false, false] rfl rfl (any_of HT_.out (by kernel_rfl)) (fun _ _ _ h => h) (Or.inl ⟨by rfl, ?_⟩) ?_ ?_
                    rotate_left
                    · intro w'
                      go_simp
                      with_reducible rfl
                    rotate_left
                    · simp only [Act.put, List.setIfInBounds_toArray, List.set_cons_zero, List.set_cons_succ, i64_w, i32_w]
                      rfl
                    refine take_ (i := 7) (N := some 26) (v := ?_) (a' := ?_) #[true, true, true, true, true, true, true, true, false, false, false, false] rfl rfl (take_ofW HT_.out HW_.out (by kernel_rfl)) (fun _ _ _ h => h) (Or.inl ⟨by rfl, ?_⟩) hHeld ?_ ?_
                    rotate_left
                    · intro w' _
                      go_simp
                      with_reducible rfl
                    rotate_left
                    · simp only [Act.put, List.setIfInBounds_toArray, List.set_cons_zero, List.set_cons_succ, i64_w, i32_w]
                      rfl
                    refine pure_ (i := 8) (N := some 27) (v := ?_) (a' := ?_) #[true, true, true, true, true, true, true, true, true, false, false, false] rfl rfl (any_of HT_.out (by kernel_rfl)) (fun _ _ _ h => h) (Or.inl ⟨by rfl, ?_⟩) ?_ ?_
                    rotate_left
                    · intro w'
                      go_simp
                      with_reducible rfl
                    rotate_left
                    · simp only [Act.put, List.setIfInBounds_toArray, List.set_cons_zero, List.set_cons_succ, i64_w, i32_w]
                      rfl
                    refine pure_ (i := 9) (N := some 28) (v := ?_) (a' := ?_) #[true, true, true, true, true, true, true, true, true, true, false, false] rfl rfl (any_of HT_.out (by kernel_rfl)) (fun _ _ _ h => h) (Or.inl ⟨by rfl, ?_⟩) ?_ ?_
                    rotate_left
                    · intro w'
                      go_simp
                      with_reducible rfl
                    rotate_left
                    · simp only [Act.put, List.setIfInBounds_toArray, List.set_cons_zero, List.set_cons_succ, i64_w, i32_w]
                      rfl
                    refine pure_ (i := 10) (N := some 29) (v := ?_) (a' := ?_) #[true, true, true, true, true, true, true, true, true, true, true, false] rfl rfl (any_of HT_.out (by kernel_rfl)) (fun _ _ _ h => h) (Or.inl ⟨by rfl, ?_⟩) ?_ ?_
                    rotate_left
                    · intro w'
                      go_simp
                      with_reducible rfl
                    rotate_left
                    · simp only [Act.put, List.setIfInBounds_toArray, List.set_cons_zero, List.set_cons_succ, i64_w, i32_w]
                      rfl
                    refine pure_ (i := 11) (N := some 6) (v := ?_) (a' := ?_) #[true, true, true, true, true, true, true, true, true, true, true, true] rfl rfl (any_of HT_.out (by kernel_rfl)) (fun _ _ _ h => h) (Or.inl ⟨by rfl, ?_⟩) ?_ ?_
                    rotate_left
                    · intro w'
                      go_simp
                      with_reducible rfl
                    rotate_left
                    · simp only [Act.put, List.setIfInBounds_toArray, List.set_cons_zero, List.set_cons_succ, i64_w, i32_w]
                      rfl
                    refine done_ (done_of HT_.out (by kernel_rfl)) ?_
                    have p13 : 0 ≤ ((ji10) : Int) := of_decide_eq_true (by first | (with_reducible assumption) | assumption)
                    have q13 : (ji10) < (a0.size : Int) := of_decide_eq_true (by first | (with_reducible assumption) | assumption)
                    have hx13 := bt_at a0 (ji10)
                    replace p13 := eq_true p13
                    replace q13 := eq_true q13
                    go_upto_region 9 with (fail)
                    go_cut [52] (fun v52 wc => ∃ (kq : Nat) (x52_13 : Bool), v52 = .bool x52_13 ∧ Aside0 (reliquaryref22_Read.j1 kq a0 x4_1 x5_1 (wrap64 ((wrap64 (bt a0 x5_1)) + (wrap64 (256 * (wrap64 (bt a0 (ji6))))))) (wrap64 (bt a0 (ji10))) x52_13 = some (r1, r2)) ∧ Aside0 (kq ≤ k1) ∧ Aside0 (Kd.R k30 30 wc w.heap.size (fun _ => True) u4 x4_1) ∧ Aside0 (Below w.heap.size w wc))
                    case first =>
                      have H := HC14.out
                      clear HC14
                      by_cases c16 : (wrap64 (bt a0 (ji10))) > 24
                      · rw [if_pos c16] at H
                        have c16b0 : decide (24 < (wrap64 (bt a0 (ji10)))) = true := decide_eq_true c16
                        clear c16
                        (first | rw [c16b0] | (simp only [i64_w, i32_w]; rw [c16b0]) | skip)
                        have H' := Aside0.mk H
                        clear H
                        go_wp2
                        go_meet
                        case rel => exact ⟨_, (true), (by first | rfl | (simp; done) | (simp [*]; done)), H', ⟨by have := HK1.out; first | omega | exact Nat.le_refl _⟩, ⟨by (with_reducible repeat (first | apply Kd.R_alloc | apply Kd.R_drewN | apply Kd.R_drew)); exact HO_4.out⟩, ⟨by repeat (first | (with_reducible first | exact HB.out | apply below_alloc | apply pw_below_drewN | apply below_drew1) | exact HB.out)⟩⟩
                      · rw [if_neg c16] at H
                        have c16b0 : decide (24 < (wrap64 (bt a0 (ji10)))) = false := decide_eq_false c16
                        clear c16
                        (first | rw [c16b0] | (simp only [i64_w, i32_w]; rw [c16b0]) | skip)
                        by_cases c17 : (wrap64 ((wrap64 (bt a0 x5_1)) + (wrap64 (256 * (wrap64 (bt a0 (ji6))))))) = 0
                        · rw [if_pos c17] at H
                          have c17b0 : ((wrap64 ((wrap64 (bt a0 x5_1)) + (wrap64 (256 * (wrap64 (bt a0 (ji6))))))) == 0) = true := beq_iff_eq.mpr c17
                          have c17b1 : ((wrap64 ((wrap64 (bt a0 x5_1)) + (wrap64 (256 * (wrap64 (bt a0 (ji6))))))) != 0) = false := bne_eq_false_iff_eq.mpr c17
                          clear c17
                          by_cases c18 : (wrap64 (bt a0 (ji10))) > 0
                          · rw [if_pos c18] at H
                            have c18b0 : decide (0 < (wrap64 (bt a0 (ji10)))) = true := decide_eq_true c18
                            clear c18
                            have H' := Aside0.mk H
                            clear H
                            go_wp2
                            go_meet
                            case rel => exact ⟨_, (true), (by first | rfl | (simp; done) | (simp [*]; done)), H', ⟨by have := HK1.out; first | omega | exact Nat.le_refl _⟩, ⟨by (with_reducible repeat (first | apply Kd.R_alloc | apply Kd.R_drewN | apply Kd.R_drew)); exact HO_4.out⟩, ⟨by repeat (first | (with_reducible first | exact HB.out | apply below_alloc | apply pw_below_drewN | apply below_drew1) | exact HB.out)⟩⟩
                          · rw [if_neg c18] at H
                            have c18b0 : decide (0 < (wrap64 (bt a0 (ji10)))) = false := decide_eq_false c18
                            clear c18
                            by_cases c19 : (wrap64 ((wrap64 (bt a0 x5_1)) + (wrap64 (256 * (wrap64 (bt a0 (ji6))))))) > 0
                            · rw [if_pos c19] at H
                              have c19b0 : decide (0 < (wrap64 ((wrap64 (bt a0 x5_1)) + (wrap64 (256 * (wrap64 (bt a0 (ji6)))))))) = true := decide_eq_true c19
                              clear c19
                              have H' := Aside0.mk H
                              clear H
                              go_wp2
                              go_meet
                              case rel => exact ⟨_, (((wrap64 (bt a0 (ji10))) == 0)), (by first | rfl | (simp; done) | (simp only [← hji10] <;> (first | rfl | simp)) | (simp [*]; done)), H', ⟨by have := HK1.out; first | omega | exact Nat.le_refl _⟩, ⟨by (with_reducible repeat (first | apply Kd.R_alloc | apply Kd.R_drewN | apply Kd.R_drew)); exact HO_4.out⟩, ⟨by repeat (first | (with_reducible first | exact HB.out | apply below_alloc | apply pw_below_drewN | apply below_drew1) | exact HB.out)⟩⟩
                            · rw [if_neg c19] at H
                              have c19b0 : decide (0 < (wrap64 ((wrap64 (bt a0 x5_1)) + (wrap64 (256 * (wrap64 (bt a0 (ji6)))))))) = false := decide_eq_false c19
                              clear c19
                              have H' := Aside0.mk H
                              clear H
                              go_wp2
                              go_meet
                              case rel => exact ⟨_, (false), (by first | rfl | (simp; done) | (simp [*]; done)), H', ⟨by have := HK1.out; first | omega | exact Nat.le_refl _⟩, ⟨by (with_reducible repeat (first | apply Kd.R_alloc | apply Kd.R_drewN | apply Kd.R_drew)); exact HO_4.out⟩, ⟨by repeat (first | (with_reducible first | exact HB.out | apply below_alloc | apply pw_below_drewN | apply below_drew1) | exact HB.out)⟩⟩
                        · rw [if_neg c17] at H
                          have c17b0 : ((wrap64 ((wrap64 (bt a0 x5_1)) + (wrap64 (256 * (wrap64 (bt a0 (ji6))))))) == 0) = false := beq_eq_false_iff_ne.mpr c17
                          have c17b1 : ((wrap64 ((wrap64 (bt a0 x5_1)) + (wrap64 (256 * (wrap64 (bt a0 (ji6))))))) != 0) = true := bne_iff_ne.mpr c17
                          by_cases c20 : (wrap64 ((wrap64 (bt a0 x5_1)) + (wrap64 (256 * (wrap64 (bt a0 (ji6))))))) > 0
                          · rw [if_pos c20] at H
                            have c20b0 : decide (0 < (wrap64 ((wrap64 (bt a0 x5_1)) + (wrap64 (256 * (wrap64 (bt a0 (ji6)))))))) = true := decide_eq_true c20
                            clear c20
                            have H' := Aside0.mk H
                            clear H
                            go_wp2
                            go_meet
                            case rel => exact ⟨_, (((wrap64 (bt a0 (ji10))) == 0)), (by first | rfl | (simp; done) | (simp only [← hji10] <;> (first | rfl | simp)) | (simp [*]; done)), H', ⟨by have := HK1.out; first | omega | exact Nat.le_refl _⟩, ⟨by (with_reducible repeat (first | apply Kd.R_alloc | apply Kd.R_drewN | apply Kd.R_drew)); exact HO_4.out⟩, ⟨by repeat (first | (with_reducible first | exact HB.out | apply below_alloc | apply pw_below_drewN | apply below_drew1) | exact HB.out)⟩⟩
                          · rw [if_neg c20] at H
                            have c20b0 : decide (0 < (wrap64 ((wrap64 (bt a0 x5_1)) + (wrap64 (256 * (wrap64 (bt a0 (ji6)))))))) = false := decide_eq_false c20
                            clear c20
                            have H' := Aside0.mk H
                            clear H
                            go_wp2
                            go_meet
                            case rel => exact ⟨_, (false), (by first | rfl | (simp; done) | (simp [*]; done)), H', ⟨by have := HK1.out; first | omega | exact Nat.le_refl _⟩, ⟨by (with_reducible repeat (first | apply Kd.R_alloc | apply Kd.R_drewN | apply Kd.R_drew)); exact HO_4.out⟩, ⟨by repeat (first | (with_reducible first | exact HB.out | apply below_alloc | apply pw_below_drewN | apply below_drew1) | exact HB.out)⟩⟩
                    case rest =>
                      clear HC14
                      try clear c1
                      try clear p1
                      try clear q1
                      try clear hx1
                      try clear c2
                      try clear c2b0
                      try clear p2
                      try clear c3
                      try clear c3b0
                      try clear c4
                      try clear c4b0
                      try clear p5
                      try clear q5
                      try clear hx5
                      try clear p6
                      try clear c7
                      try clear c7b0
                      try clear c8
                      try clear c8b0
                      try clear p9
                      try clear q9
                      try clear hx9
                      try clear c11
                      try clear c11b0
                      try clear c12
                      try clear c12b0
                      try clear p13
                      try clear q13
                      try clear hx13
                      try clear c16
                      try clear c16b0
                      try clear c17
                      try clear c17b0
                      try clear c17b1
                      try clear c18
                      try clear c18b0
                      try clear c19
                      try clear c19b0
                      try clear c20
                      try clear c20b0
                      try clear p13
                      try clear p2
                      try clear p5
                      try clear p9
                      try clear q13
                      try clear q5
                      try clear q9
                      obtain ⟨kq, x52_13, rfl, HA, HJ13, HO_4, HB⟩ := hcut
                      cases kq with
                      | zero => exact absurd HA.out (by simp [reliquaryref22_Read.j1])
                      | succ kj13 =>
                        have H := HA.out
                        clear HA
                        simp only [reliquaryref22_Read.j1] at H
                        by_cases c21 : x52_13 = true
                        · subst c21
                          have H1 : (some (([] : List (S30)), 11)) = some (r1, r2) := by rw [if_pos rfl] at H; exact H
                          clear H
                          have H := H1
                          clear H1
                          simp only [Option.some.injEq, Prod.mk.injEq] at H
                          obtain ⟨rfl, rfl⟩ := H
                          go_wp2
                          go_ret2
                          exact ⟨_, by first | rfl | (simp [errW_none, errW_some] <;> rfl) | (simp only [← hji6, ← hji10]; first | rfl | (simp [errW_none, errW_some] <;> rfl)) | (simp [*, errW_none, errW_some] <;> rfl), by first | exact Kd.R_nil _ _ _ _ _ | exact Kd.N_nil _ _ _ _ _ | exact Kd.V_nil _ _ _ _ _ | exact Kd.Q_nil _ _ _ _ _ | exact Kd.S_nil _ _ _ _ _, by repeat (first | (with_reducible first | exact HB.out | apply below_alloc | apply pw_below_drewN | apply below_drew1) | exact HB.out)⟩
                        · replace c21 := Bool.eq_false_iff.mpr c21
                          subst c21
                          have H1 : (if 0 ≤ (wrap64 (x5_1 + 3)) then (if (wrap64 (x5_1 + 3)) ≤ (wrap64 ((wrap64 (x5_1 + 3)) + (wrap64 (bt a0 (ji10))))) then (if (wrap64 ((wrap64 (x5_1 + 3)) + (wrap64 (bt a0 (ji10))))) ≤ (a0.size : Int) then ((reliquaryref22_Piece.f kj13 (a0.extract ((wrap64 (x5_1 + 3)) : Int).toNat ((wrap64 ((wrap64 (x5_1 + 3)) + (wrap64 (bt a0 (ji10))))) : Int).toNat) (wrap64 ((wrap64 (bt a0 x5_1)) + (wrap64 (256 * (wrap64 (bt a0 (ji6)))))))).bind fun t212 => (if 0 ≤ x5_1 then (if x5_1 ≤ (wrap64 (x5_1 + 32)) then (if (wrap64 (x5_1 + 32)) ≤ (a0.size : Int) then (if t212.toList = (a0.extract (x5_1 : Int).toNat ((wrap64 (x5_1 + 32)) : Int).toNat).toList then (if (wrap64 ((wrap64 (bt a0 x5_1)) + (wrap64 (256 * (wrap64 (bt a0 (ji6))))))) > 0 then ((reliquaryref22_Find.f kj13 x4_1 (a0.extract ((wrap64 (x5_1 + 3)) : Int).toNat ((wrap64 ((wrap64 (x5_1 + 3)) + (wrap64 (bt a0 (ji10))))) : Int).toNat)).bind fun t213 => (if t213 ≥ 0 then (some (([] : List (S30)), 11)) else (if x4_1.length < 5864062014805 then (reliquaryref22_Read.l0 kj13 a0 (x4_1 ++ [(⟨a0.extract ((wrap64 (x5_1 + 3)) : Int).toNat ((wrap64 ((wrap64 (x5_1 + 3)) + (wrap64 (bt a0 (ji10))))) : Int).toNat, (wrap64 ((wrap64 (bt a0 x5_1)) + (wrap64 (256 * (wrap64 (bt a0 (ji6)))))))⟩ : S30)]) (wrap64 (x5_1 + 32))) else (none)))) else (if x4_1.length < 5864062014805 then (reliquaryref22_Read.l0 kj13 a0 (x4_1 ++ [(⟨a0.extract ((wrap64 (x5_1 + 3)) : Int).toNat ((wrap64 ((wrap64 (x5_1 + 3)) + (wrap64 (bt a0 (ji10))))) : Int).toNat, (wrap64 ((wrap64 (bt a0 x5_1)) + (wrap64 (256 * (wrap64 (bt a0 (ji6)))))))⟩ : S30)]) (wrap64 (x5_1 + 32))) else (none))) else (some (([] : List (S30)), 11))) else (none)) else (none)) else (none))) else (none)) else (none)) else (none)) = some (r1, r2) := by rw [if_neg (show ¬ (false = true) by decide)] at H; exact H
                          clear H
                          have H := H1
                          clear H1
                          obtain ⟨ji22, hji22⟩ : ∃ j_ : Int, (wrap64 (x5_1 + 3)) = j_ := ⟨_, rfl⟩
                          replace H : (if 0 ≤ (ji22) then (if (ji22) ≤ (wrap64 ((ji22) + (wrap64 (bt a0 (ji10))))) then (if (wrap64 ((ji22) + (wrap64 (bt a0 (ji10))))) ≤ (a0.size : Int) then ((reliquaryref22_Piece.f kj13 (a0.extract ((ji22) : Int).toNat ((wrap64 ((ji22) + (wrap64 (bt a0 (ji10))))) : Int).toNat) (wrap64 ((wrap64 (bt a0 x5_1)) + (wrap64 (256 * (wrap64 (bt a0 (ji6)))))))).bind fun t212 => (if 0 ≤ x5_1 then (if x5_1 ≤ (wrap64 (x5_1 + 32)) then (if (wrap64 (x5_1 + 32)) ≤ (a0.size : Int) then (if t212.toList = (a0.extract (x5_1 : Int).toNat ((wrap64 (x5_1 + 32)) : Int).toNat).toList then (if (wrap64 ((wrap64 (bt a0 x5_1)) + (wrap64 (256 * (wrap64 (bt a0 (ji6))))))) > 0 then ((reliquaryref22_Find.f kj13 x4_1 (a0.extract ((ji22) : Int).toNat ((wrap64 ((ji22) + (wrap64 (bt a0 (ji10))))) : Int).toNat)).bind fun t213 => (if t213 ≥ 0 then (some (([] : List (S30)), 11)) else (if x4_1.length < 5864062014805 then (reliquaryref22_Read.l0 kj13 a0 (x4_1 ++ [(⟨a0.extract ((ji22) : Int).toNat ((wrap64 ((ji22) + (wrap64 (bt a0 (ji10))))) : Int).toNat, (wrap64 ((wrap64 (bt a0 x5_1)) + (wrap64 (256 * (wrap64 (bt a0 (ji6)))))))⟩ : S30)]) (wrap64 (x5_1 + 32))) else (none)))) else (if x4_1.length < 5864062014805 then (reliquaryref22_Read.l0 kj13 a0 (x4_1 ++ [(⟨a0.extract ((ji22) : Int).toNat ((wrap64 ((ji22) + (wrap64 (bt a0 (ji10))))) : Int).toNat, (wrap64 ((wrap64 (bt a0 x5_1)) + (wrap64 (256 * (wrap64 (bt a0 (ji6)))))))⟩ : S30)]) (wrap64 (x5_1 + 32))) else (none))) else (some (([] : List (S30)), 11))) else (none)) else (none)) else (none))) else (none)) else (none)) else (none)) = some (r1, r2) := by first | (rw [hji22] at H; exact H) | (simp only [hji22] at H ⊢; exact H)
                          have hji22w : (IntKind.i64.wrap (x5_1 + 3)) = ji22 := (i64_w _).trans hji22
                          by_cases c23 : 0 ≤ (ji22)
                          · rw [if_pos c23] at H
                            have c23b0 := eq_true c23
                            have c23b1 : decide (0 ≤ (ji22)) = true := decide_eq_true c23
                            clear c23
                            by_cases c24 : (ji22) ≤ (wrap64 ((ji22) + (wrap64 (bt a0 (ji10)))))
                            · rw [if_pos c24] at H
                              have c24b0 := eq_true c24
                              have c24b1 : decide ((ji22) ≤ (wrap64 ((ji22) + (wrap64 (bt a0 (ji10)))))) = true := decide_eq_true c24
                              by_cases c25 : (wrap64 ((ji22) + (wrap64 (bt a0 (ji10))))) ≤ (a0.size : Int)
                              · rw [if_pos c25] at H
                                have c25b0 := eq_true c25
                                have c25b1 : decide ((wrap64 ((ji22) + (wrap64 (bt a0 (ji10))))) ≤ (a0.size : Int)) = true := decide_eq_true c25
                                replace H := Option.bind_eq_some_iff.mp H
                                obtain ⟨t212, A260, H⟩ := H
                                replace H : (if 0 ≤ x5_1 then (if x5_1 ≤ (wrap64 (x5_1 + 32)) then (if (wrap64 (x5_1 + 32)) ≤ (a0.size : Int) then (if t212.toList = (a0.extract (x5_1 : Int).toNat ((wrap64 (x5_1 + 32)) : Int).toNat).toList then (if (wrap64 ((wrap64 (bt a0 x5_1)) + (wrap64 (256 * (wrap64 (bt a0 (ji6))))))) > 0 then ((reliquaryref22_Find.f kj13 x4_1 (a0.extract ((ji22) : Int).toNat ((wrap64 ((ji22) + (wrap64 (bt a0 (ji10))))) : Int).toNat)).bind fun t213 => (if t213 ≥ 0 then (some (([] : List (S30)), 11)) else (if x4_1.length < 5864062014805 then (reliquaryref22_Read.l0 kj13 a0 (x4_1 ++ [(⟨a0.extract ((ji22) : Int).toNat ((wrap64 ((ji22) + (wrap64 (bt a0 (ji10))))) : Int).toNat, (wrap64 ((wrap64 (bt a0 x5_1)) + (wrap64 (256 * (wrap64 (bt a0 (ji6)))))))⟩ : S30)]) (wrap64 (x5_1 + 32))) else (none)))) else (if x4_1.length < 5864062014805 then (reliquaryref22_Read.l0 kj13 a0 (x4_1 ++ [(⟨a0.extract ((ji22) : Int).toNat ((wrap64 ((ji22) + (wrap64 (bt a0 (ji10))))) : Int).toNat, (wrap64 ((wrap64 (bt a0 x5_1)) + (wrap64 (256 * (wrap64 (bt a0 (ji6)))))))⟩ : S30)]) (wrap64 (x5_1 + 32))) else (none))) else (some (([] : List (S30)), 11))) else (none)) else (none)) else (none)) = some (r1, r2) := H
                                have A26 := Aside0.mk A260
                                clear A260
                                by_cases c27 : 0 ≤ x5_1
                                · rw [if_pos c27] at H
                                  have c27b0 := eq_true c27
                                  have c27b1 : decide (0 ≤ x5_1) = true := decide_eq_true c27
                                  clear c27
                                  by_cases c28 : x5_1 ≤ (wrap64 (x5_1 + 32))
                                  · rw [if_pos c28] at H
                                    have c28b0 := eq_true c28
                                    have c28b1 : decide (x5_1 ≤ (wrap64 (x5_1 + 32))) = true := decide_eq_true c28
                                    by_cases c29 : (wrap64 (x5_1 + 32)) ≤ (a0.size : Int)
                                    · rw [if_pos c29] at H
                                      have c29b0 := eq_true c29
                                      have c29b1 : decide ((wrap64 (x5_1 + 32)) ≤ (a0.size : Int)) = true := decide_eq_true c29
                                      by_cases c30 : t212.toList = (a0.extract (x5_1 : Int).toNat ((wrap64 (x5_1 + 32)) : Int).toNat).toList
                                      · rw [if_pos c30] at H
                                        have c30b0 : (t212.toList == (a0.extract (x5_1 : Int).toNat ((wrap64 (x5_1 + 32)) : Int).toNat).toList) = true := beq_iff_eq.mpr c30
                                        have c30b1 : (t212.toList != (a0.extract (x5_1 : Int).toNat ((wrap64 (x5_1 + 32)) : Int).toNat).toList) = false := bne_eq_false_iff_eq.mpr c30
                                        clear c30
                                        by_cases c31 : (wrap64 ((wrap64 (bt a0 x5_1)) + (wrap64 (256 * (wrap64 (bt a0 (ji6))))))) > 0
                                        · rw [if_pos c31] at H
                                          have c31b0 : decide (0 < (wrap64 ((wrap64 (bt a0 x5_1)) + (wrap64 (256 * (wrap64 (bt a0 (ji6)))))))) = true := decide_eq_true c31
                                          clear c31
                                          replace H := Option.bind_eq_some_iff.mp H
                                          obtain ⟨t213, A320, H⟩ := H
                                          replace H : (if t213 ≥ 0 then (some (([] : List (S30)), 11)) else (if x4_1.length < 5864062014805 then (reliquaryref22_Read.l0 kj13 a0 (x4_1 ++ [(⟨a0.extract ((ji22) : Int).toNat ((wrap64 ((ji22) + (wrap64 (bt a0 (ji10))))) : Int).toNat, (wrap64 ((wrap64 (bt a0 x5_1)) + (wrap64 (256 * (wrap64 (bt a0 (ji6)))))))⟩ : S30)]) (wrap64 (x5_1 + 32))) else (none))) = some (r1, r2) := H
                                          have A32 := Aside0.mk A320
                                          clear A320
                                          by_cases c33 : t213 ≥ 0
                                          · rw [if_pos c33] at H
                                            have c33b0 : decide (0 ≤ t213) = true := decide_eq_true c33
                                            clear c33
                                            simp only [Option.some.injEq, Prod.mk.injEq] at H
                                            obtain ⟨rfl, rfl⟩ := H
                                            try go_wp2_with (first | ((with_reducible refine gate_dst (N := 8) rfl ?_); refine box_event ?hg (N := 8) ?hd (cs := #[.string (⟨#[]⟩ : ByteArray), .int .i64 0]) (t := 30) ?hr ?_; (case hd => rfl); (case hg => rfl); (case hr => first | (go_simp; done) | (go_simp; rfl)); intro gb211 hg w34 hbox hb; have n0_ := Aside0.mk (Kd.R_below (Kd.R_elderB (by (with_reducible repeat (first | apply Kd.R_alloc | apply Kd.R_drewN | apply Kd.R_drew)); exact HO_4.out) gb211 (Nat.le_of_eq hg.symm)) hb); have n1_ := Aside0.mk (below_step (by repeat (first | (with_reducible first | exact HB.out | apply below_alloc | apply pw_below_drewN | apply below_drew1) | exact HB.out)) hb); have n2_ := Aside0.mk (hbox); have n3_ := Aside0.mk ((by rw [hg]; exact (below_size (by repeat (first | (with_reducible first | exact HB.out | apply below_alloc | apply pw_below_drewN | apply below_drew1) | exact HB.out))) : w.heap.size ≤ gb211)); have n4_ := Aside0.mk ((by rw [hg]; exact (below_size (by repeat (first | (with_reducible first | exact HB.out | apply below_alloc | apply pw_below_drewN | apply below_drew1) | exact HB.out))) : w.heap.size ≤ gb211)); clear HO_4; clear HB; have HO_4 := n0_; have HB := n1_; have BK211 := n2_; have GW211 := n3_; have GE211 := n4_; clear n0_ n1_ n2_ n3_ n4_; clear hb hbox hg; have hcz35_0 : w34.cell? ⟨gb211, 0, none⟩ = some (.string (⟨#[]⟩ : ByteArray)) := (blk_cell BK211.out 0).trans rfl; have hcz35_1 : w34.cell? ⟨gb211, 1, none⟩ = some (.int .i64 0) := (blk_cell BK211.out 1).trans rfl; have hfz35_0 := blk_frozen BK211.out 0; have hfz35_1 := blk_frozen BK211.out 1))
                                            have n0_ : Aside0 (Kd.R k30 30 ((w34.setCell ⟨gb211, 0, none⟩ (.string (a0.extract ((ji22) : Int).toNat ((wrap64 ((ji22) + (wrap64 (bt a0 (ji10))))) : Int).toNat))).setCell ⟨gb211, 1, none⟩ (.int .i64 (wrap64 ((wrap64 (bt a0 x5_1)) + (wrap64 (256 * (wrap64 (bt a0 (ji6))))))))) w.heap.size (fun k_ => k_ ≠ gb211) u4 x4_1) := ⟨by (with_reducible repeat (first | apply Kd.R_alloc | apply Kd.R_drewN | apply Kd.R_drew)); exact Kd.R_mono (Kd.R_far (p := ⟨gb211, 1, none⟩) (Kd.R_far (p := ⟨gb211, 0, none⟩) (Kd.R_mono HO_4.out (fun k_ hk => (⟨hk, hk.2⟩ : _ ∧ k_ ≠ gb211))) (fun _ hk => hk.2) (.string (a0.extract ((ji22) : Int).toNat ((wrap64 ((ji22) + (wrap64 (bt a0 (ji10))))) : Int).toNat))) (fun _ hk => hk.2) (.int .i64 (wrap64 ((wrap64 (bt a0 x5_1)) + (wrap64 (256 * (wrap64 (bt a0 (ji6))))))))) (fun _ hk => hk.1.2)⟩
                                            have n1_ : Aside0 (((w34.setCell ⟨gb211, 0, none⟩ (.string (a0.extract ((ji22) : Int).toNat ((wrap64 ((ji22) + (wrap64 (bt a0 (ji10))))) : Int).toNat))).setCell ⟨gb211, 1, none⟩ (.int .i64 (wrap64 ((wrap64 (bt a0 x5_1)) + (wrap64 (256 * (wrap64 (bt a0 (ji6))))))))).heap[gb211]? = some (.cells #[.string (a0.extract ((ji22) : Int).toNat ((wrap64 ((ji22) + (wrap64 (bt a0 (ji10))))) : Int).toNat), .int .i64 (wrap64 ((wrap64 (bt a0 x5_1)) + (wrap64 (256 * (wrap64 (bt a0 (ji6)))))))] 30 (0, 0))) := ⟨by (with_reducible repeat (first | refine blk_drewN ?_ _ | refine blk_drew ?_ | refine blk_alloc ?_ _)); refine blk_put (cs := #[.string (a0.extract ((ji22) : Int).toNat ((wrap64 ((ji22) + (wrap64 (bt a0 (ji10))))) : Int).toNat), .int .i64 0]) ?_ 1 _ rfl; (with_reducible repeat (first | refine blk_drewN ?_ _ | refine blk_drew ?_ | refine blk_alloc ?_ _)); refine blk_put (cs := #[.string (⟨#[]⟩ : ByteArray), .int .i64 0]) ?_ 0 _ rfl; (with_reducible repeat (first | refine blk_drewN ?_ _ | refine blk_drew ?_ | refine blk_alloc ?_ _)); exact BK211.out⟩
                                            have n2_ : Aside0 (Below w.heap.size w ((w34.setCell ⟨gb211, 0, none⟩ (.string (a0.extract ((ji22) : Int).toNat ((wrap64 ((ji22) + (wrap64 (bt a0 (ji10))))) : Int).toNat))).setCell ⟨gb211, 1, none⟩ (.int .i64 (wrap64 ((wrap64 (bt a0 x5_1)) + (wrap64 (256 * (wrap64 (bt a0 (ji6)))))))))) := ⟨by repeat (first | (with_reducible first | exact HB.out | apply below_alloc | apply pw_below_drewN | apply below_drew1 | refine below_set ?_ GE211.out) | exact HB.out)⟩
                                            (try clear HO_4)
                                            (try clear BK211)
                                            (try clear HB)
                                            generalize ((w34.setCell ⟨gb211, 0, none⟩ (.string (a0.extract ((ji22) : Int).toNat ((wrap64 ((ji22) + (wrap64 (bt a0 (ji10))))) : Int).toNat))).setCell ⟨gb211, 1, none⟩ (.int .i64 (wrap64 ((wrap64 (bt a0 x5_1)) + (wrap64 (256 * (wrap64 (bt a0 (ji6))))))))) = w36 at n0_ n1_ n2_ ⊢
                                            have HO_4 := n0_
                                            have BK211 := n1_
                                            have HB := n2_
                                            clear n0_ n1_ n2_
                                            have n0_ := Aside0.mk (Kd.R_drew HO_4.out)
                                            have n1_ := Aside0.mk (blk_drew BK211.out)
                                            have n2_ := Aside0.mk (below_drew1 HB.out)
                                            clear HO_4
                                            clear BK211
                                            clear HB
                                            have HO_4 := n0_
                                            have BK211 := n1_
                                            have HB := n2_
                                            clear n0_ n1_ n2_
                                            refine start_ (n := 8) (S := fun w' => w'.cell? ⟨gb211, 0, none⟩ = some (.string (a0.extract ((ji22) : Int).toNat ((wrap64 ((ji22) + (wrap64 (bt a0 (ji10))))) : Int).toNat)) ∧ w'.cell? ⟨gb211, 1, none⟩ = some (.int .i64 (wrap64 ((wrap64 (bt a0 x5_1)) + (wrap64 (256 * (wrap64 (bt a0 (ji6))))))))) (ds := []) #[false, false, false, false, false, false, false, false] (by kernel_rfl) rfl rfl ⟨(blk_cell BK211.out 0).trans rfl, (blk_cell BK211.out 1).trans rfl⟩ (fun hHeld => ?_); refine with_tabW reliquaryref22_Read.tab12 reliquaryref22_Read.bits12 (fun HT_ HW_ => ?_)
                                            generalize w36.drew = w37 at HO_4 BK211 HB hHeld ⊢
                                            refine pure_ (i := 2) (N := some 65) (v := ?_) (a' := ?_) #[false, false, true, false, false, false, false, false] rfl rfl (any_of HT_.out (by kernel_rfl)) (fun _ _ _ h => h) (Or.inl ⟨by rfl, ?_⟩) ?_ ?_
                                            rotate_left
                                            · intro w'
                                              go_simp
                                              with_reducible rfl
                                            rotate_left
                                            · simp only [Act.put, List.setIfInBounds_toArray, List.set_cons_zero, List.set_cons_succ, i64_w, i32_w]
                                              rfl
                                            refine pure_ (i := 3) (N := some 66) (v := ?_) (a' := ?_) #[false, false, true, true, false, false, false, false] rfl rfl (any_of HT_.out (by kernel_rfl)) (fun _ _ _ h => h) (Or.inl ⟨by rfl, ?_⟩) ?_ ?_
                                            rotate_left
                                            · intro w'
                                              go_simp
                                              with_reducible rfl
                                            rotate_left
                                            · simp only [Act.put, List.setIfInBounds_toArray, List.set_cons_zero, List.set_cons_succ, i64_w, i32_w]
                                              rfl
                                            refine pure_ (i := 4) (N := some 67) (v := ?_) (a' := ?_) #[false, false, true, true, true, false, false, false] rfl rfl (any_of HT_.out (by kernel_rfl)) (fun _ _ _ h => h) (Or.inl ⟨by rfl, ?_⟩) ?_ ?_
                                            rotate_left
                                            · intro w'
                                              go_simp
                                              with_reducible rfl
                                            rotate_left
                                            · simp only [Act.put, List.setIfInBounds_toArray, List.set_cons_zero, List.set_cons_succ, i64_w, i32_w]
                                              rfl
                                            refine pure_ (i := 5) (N := some 68) (v := ?_) (a' := ?_) #[false, false, true, true, true, true, false, false] rfl rfl (any_of HT_.out (by kernel_rfl)) (fun _ _ _ h => h) (Or.inl ⟨by rfl, ?_⟩) ?_ ?_
                                            rotate_left
                                            · intro w'
                                              go_simp
                                              with_reducible rfl
                                            rotate_left
                                            · simp only [Act.put, List.setIfInBounds_toArray, List.set_cons_zero, List.set_cons_succ, i64_w, i32_w]
                                              rfl
                                            refine pure_ (i := 6) (N := some 69) (v := ?_) (a' := ?_) #[false, false, true, true, true, true, true, false] rfl rfl (any_of HT_.out (by kernel_rfl)) (fun _ _ _ h => h) (Or.inl ⟨by rfl, ?_⟩) ?_ ?_
                                            rotate_left
                                            · intro w'
                                              go_simp
                                              with_reducible rfl
                                            rotate_left
                                            · simp only [Act.put, List.setIfInBounds_toArray, List.set_cons_zero, List.set_cons_succ, i64_w, i32_w]
                                              rfl
                                            refine take_ (i := 0) (N := some 63) (v := ?_) (a' := ?_) #[true, false, true, true, true, true, true, false] rfl rfl (take_ofW HT_.out HW_.out (by kernel_rfl)) (fun _ _ _ h => h) (Or.inl ⟨by rfl, ?_⟩) hHeld ?_ ?_
                                            rotate_left
                                            · rintro w' ⟨s0, s1⟩
                                              go_simp
                                              with_reducible rfl
                                            rotate_left
                                            · simp only [Act.put, List.setIfInBounds_toArray, List.set_cons_zero, List.set_cons_succ, i64_w, i32_w]
                                              rfl
                                            refine one_ (i := 1) (N := some 64) #[true, true, true, true, true, true, true, false] rfl rfl (one_of HT_.out (by kernel_rfl)) (by decide) (fun K hK => ?_)
                                            refine goes_ Try.func23 (by kernel_rfl) rfl #[.agg #[.string (a0.extract ((ji22) : Int).toNat ((wrap64 ((ji22) + (wrap64 (bt a0 (ji10))))) : Int).toNat), .int .i64 (wrap64 ((wrap64 (bt a0 x5_1)) + (wrap64 (256 * (wrap64 (bt a0 (ji6)))))))]] (by rfl) rfl rfl (by (try simp only [List.map_toArray, List.map_cons, List.map_nil]); first | done | (simp only [hji10, hji22, hji6]; rfl) | rfl | (simp only [List.length_drop, List.length_take]; rfl)) ?_
                                            with_reducible refine (reliquaryref22_Piece.calls kj13 (a0.extract ((ji22) : Int).toNat ((wrap64 ((ji22) + (wrap64 (bt a0 (ji10))))) : Int).toNat) (wrap64 ((wrap64 (bt a0 x5_1)) + (wrap64 (256 * (wrap64 (bt a0 (ji6))))))) t212 _ A26.out).mono ?_
                                            rintro e w38 ⟨rfl, hb⟩
                                            refine ⟨_, rfl, ?_⟩
                                            have n0_ := Aside0.mk (Kd.R_below (by (with_reducible repeat (first | apply Kd.R_alloc | apply Kd.R_drewN | apply Kd.R_drew)); exact HO_4.out) hb)
                                            have n1_ := Aside0.mk (blk_below (g := gb211) (o := .cells #[.string (a0.extract ((ji22) : Int).toNat ((wrap64 ((ji22) + (wrap64 (bt a0 (ji10))))) : Int).toNat), .int .i64 (wrap64 ((wrap64 (bt a0 x5_1)) + (wrap64 (256 * (wrap64 (bt a0 (ji6)))))))] 30 (0, 0)) (by (with_reducible repeat (first | refine blk_drewN ?_ _ | refine blk_drew ?_ | refine blk_alloc ?_ _)); exact BK211.out) hb)
                                            have n2_ := Aside0.mk (below_step (by repeat (first | (with_reducible first | exact HB.out | apply below_alloc | apply pw_below_drewN | apply below_drew1 | refine below_set ?_ GE211.out) | exact HB.out)) hb)
                                            clear HO_4
                                            clear BK211
                                            clear HB
                                            have HO_4 := n0_
                                            have BK211 := n1_
                                            have HB := n2_
                                            clear n0_ n1_ n2_
                                            (try clear hb)
                                            (try clear hb2)
                                            (try clear hk)
                                            (try clear hi)
                                            refine hK.out _ _ ⟨(blk_cell BK211.out 0).trans rfl, (blk_cell BK211.out 1).trans rfl⟩ (fun hHeld => ?_)
                                            clear hK K
                                            refine norm_ (a' := ?_) ?_ ?_
                                            rotate_left
                                            · show Act.put _ (some 64) _ = _
                                              simp only [Act.put, List.setIfInBounds_toArray, List.set_cons_zero, List.set_cons_succ, i64_w, i32_w]
                                              rfl
                                            refine pure_ (i := 7) (N := some 70) (v := ?_) (a' := ?_) #[true, true, true, true, true, true, true, true] rfl rfl (any_of HT_.out (by kernel_rfl)) (fun _ _ _ h => h) (Or.inl ⟨by rfl, ?_⟩) ?_ ?_
                                            rotate_left
                                            · intro w'
                                              go_simp
                                              with_reducible rfl
                                            rotate_left
                                            · simp only [Act.put, List.setIfInBounds_toArray, List.set_cons_zero, List.set_cons_succ, i64_w, i32_w]
                                              rfl
                                            refine done_ (done_of HT_.out (by kernel_rfl)) ?_
                                            have hcz39_0 : w38.cell? ⟨gb211, 0, none⟩ = some (.string (a0.extract ((ji22) : Int).toNat ((wrap64 ((ji22) + (wrap64 (bt a0 (ji10))))) : Int).toNat)) := (blk_cell BK211.out 0).trans rfl
                                            have hcz39_1 : w38.cell? ⟨gb211, 1, none⟩ = some (.int .i64 (wrap64 ((wrap64 (bt a0 x5_1)) + (wrap64 (256 * (wrap64 (bt a0 (ji6)))))))) := (blk_cell BK211.out 1).trans rfl
                                            have hfz39_0 := blk_frozen BK211.out 0
                                            have hfz39_1 := blk_frozen BK211.out 1
                                            obtain ⟨Ao40, co40, eo40⟩ := Kd.R_slice HO_4.out
                                            subst eo40
                                            try go_wp2_with (first | (go_at_call 27; (with_reducible refine (reliquaryref22_Find.calls kj13 _ _ x4_1 (a0.extract ((ji22) : Int).toNat ((wrap64 ((ji22) + (wrap64 (bt a0 (ji10))))) : Int).toNat) t213 _ ?side1 ?side2 A32.out).mono ?_); (case side1 => repeat (first | exact (Kd.R_reads' HO_4.out).2.2 | (with_reducible refine Kd.C_alloc ?_ _) | (with_reducible refine Kd.C_drewN ?_ _) | (with_reducible refine Kd.C_drew ?_))); (case side2 => exact (Kd.R_reads' HO_4.out).2.1); rintro e w' ⟨rfl, ⟨nd, rfl⟩⟩))
                                            go_ret2
                                            exact ⟨_, by first | rfl | (simp [errW_none, errW_some] <;> rfl) | (simp only [← hji6, ← hji10, ← hji22]; first | rfl | (simp [errW_none, errW_some] <;> rfl)) | (simp [*, errW_none, errW_some] <;> rfl), by first | exact Kd.R_nil _ _ _ _ _ | exact Kd.N_nil _ _ _ _ _ | exact Kd.V_nil _ _ _ _ _ | exact Kd.Q_nil _ _ _ _ _ | exact Kd.S_nil _ _ _ _ _, by repeat (first | (with_reducible first | exact HB.out | apply below_alloc | apply pw_below_drewN | apply below_drew1 | refine below_set ?_ GE211.out) | exact HB.out)⟩
                                          · rw [if_neg c33] at H
                                            have c33b0 : decide (0 ≤ t213) = false := decide_eq_false c33
                                            clear c33
                                            by_cases c41 : x4_1.length < 5864062014805
                                            · rw [if_pos c41] at H
                                              have LMc41 := Aside0.mk c41
                                              clear c41
                                              obtain ⟨y214, hy214⟩ : ∃ y_ : List (S30), y_ = (x4_1 ++ [(⟨a0.extract ((ji22) : Int).toNat ((wrap64 ((ji22) + (wrap64 (bt a0 (ji10))))) : Int).toNat, (wrap64 ((wrap64 (bt a0 x5_1)) + (wrap64 (256 * (wrap64 (bt a0 (ji6)))))))⟩ : S30)]) := ⟨_, rfl⟩
                                              replace H : (reliquaryref22_Read.l0 kj13 a0 y214 (wrap64 (x5_1 + 32))) = some (r1, r2) := by first | (rw [hy214]; with_reducible exact H) | (have H2_ := (Option.bind_some _ _).symm.trans H; rw [hy214]; with_reducible exact H2_) | (have H2_ := (Option.bind_some _ _).symm.trans H; with_reducible exact H2_) | with_reducible exact H | (rw [hy214]; exact H) | exact H
                                              have Ny214 := Aside0.mk hy214
                                              clear hy214
                                              have H' := Aside0.mk H
                                              clear H
                                              try go_wp2_with (first | ((with_reducible refine gate_dst (N := 8) rfl ?_); refine box_event ?hg (N := 8) ?hd (cs := #[.string (⟨#[]⟩ : ByteArray), .int .i64 0]) (t := 30) ?hr ?_; (case hd => rfl); (case hg => rfl); (case hr => first | (go_simp; done) | (go_simp; rfl)); intro gb211 hg w42 hbox hb; have n0_ := Aside0.mk (Kd.R_below (Kd.R_elderB (by (with_reducible repeat (first | apply Kd.R_alloc | apply Kd.R_drewN | apply Kd.R_drew)); exact HO_4.out) gb211 (Nat.le_of_eq hg.symm)) hb); have n1_ := Aside0.mk (below_step (by repeat (first | (with_reducible first | exact HB.out | apply below_alloc | apply pw_below_drewN | apply below_drew1) | exact HB.out)) hb); have n2_ := Aside0.mk (hbox); have n3_ := Aside0.mk ((by rw [hg]; exact (below_size (by repeat (first | (with_reducible first | exact HB.out | apply below_alloc | apply pw_below_drewN | apply below_drew1) | exact HB.out))) : w.heap.size ≤ gb211)); have n4_ := Aside0.mk ((by rw [hg]; exact (below_size (by repeat (first | (with_reducible first | exact HB.out | apply below_alloc | apply pw_below_drewN | apply below_drew1) | exact HB.out))) : w.heap.size ≤ gb211)); clear HO_4; clear HB; have HO_4 := n0_; have HB := n1_; have BK211 := n2_; have GW211 := n3_; have GE211 := n4_; clear n0_ n1_ n2_ n3_ n4_; clear hb hbox hg; have hcz43_0 : w42.cell? ⟨gb211, 0, none⟩ = some (.string (⟨#[]⟩ : ByteArray)) := (blk_cell BK211.out 0).trans rfl; have hcz43_1 : w42.cell? ⟨gb211, 1, none⟩ = some (.int .i64 0) := (blk_cell BK211.out 1).trans rfl; have hfz43_0 := blk_frozen BK211.out 0; have hfz43_1 := blk_frozen BK211.out 1))
                                              have n0_ : Aside0 (Kd.R k30 30 ((w42.setCell ⟨gb211, 0, none⟩ (.string (a0.extract ((ji22) : Int).toNat ((wrap64 ((ji22) + (wrap64 (bt a0 (ji10))))) : Int).toNat))).setCell ⟨gb211, 1, none⟩ (.int .i64 (wrap64 ((wrap64 (bt a0 x5_1)) + (wrap64 (256 * (wrap64 (bt a0 (ji6))))))))) w.heap.size (fun k_ => k_ ≠ gb211) u4 x4_1) := ⟨by (with_reducible repeat (first | apply Kd.R_alloc | apply Kd.R_drewN | apply Kd.R_drew)); exact Kd.R_mono (Kd.R_far (p := ⟨gb211, 1, none⟩) (Kd.R_far (p := ⟨gb211, 0, none⟩) (Kd.R_mono HO_4.out (fun k_ hk => (⟨hk, hk.2⟩ : _ ∧ k_ ≠ gb211))) (fun _ hk => hk.2) (.string (a0.extract ((ji22) : Int).toNat ((wrap64 ((ji22) + (wrap64 (bt a0 (ji10))))) : Int).toNat))) (fun _ hk => hk.2) (.int .i64 (wrap64 ((wrap64 (bt a0 x5_1)) + (wrap64 (256 * (wrap64 (bt a0 (ji6))))))))) (fun _ hk => hk.1.2)⟩
                                              have n1_ : Aside0 (((w42.setCell ⟨gb211, 0, none⟩ (.string (a0.extract ((ji22) : Int).toNat ((wrap64 ((ji22) + (wrap64 (bt a0 (ji10))))) : Int).toNat))).setCell ⟨gb211, 1, none⟩ (.int .i64 (wrap64 ((wrap64 (bt a0 x5_1)) + (wrap64 (256 * (wrap64 (bt a0 (ji6))))))))).heap[gb211]? = some (.cells #[.string (a0.extract ((ji22) : Int).toNat ((wrap64 ((ji22) + (wrap64 (bt a0 (ji10))))) : Int).toNat), .int .i64 (wrap64 ((wrap64 (bt a0 x5_1)) + (wrap64 (256 * (wrap64 (bt a0 (ji6)))))))] 30 (0, 0))) := ⟨by (with_reducible repeat (first | refine blk_drewN ?_ _ | refine blk_drew ?_ | refine blk_alloc ?_ _)); refine blk_put (cs := #[.string (a0.extract ((ji22) : Int).toNat ((wrap64 ((ji22) + (wrap64 (bt a0 (ji10))))) : Int).toNat), .int .i64 0]) ?_ 1 _ rfl; (with_reducible repeat (first | refine blk_drewN ?_ _ | refine blk_drew ?_ | refine blk_alloc ?_ _)); refine blk_put (cs := #[.string (⟨#[]⟩ : ByteArray), .int .i64 0]) ?_ 0 _ rfl; (with_reducible repeat (first | refine blk_drewN ?_ _ | refine blk_drew ?_ | refine blk_alloc ?_ _)); exact BK211.out⟩
                                              have n2_ : Aside0 (Below w.heap.size w ((w42.setCell ⟨gb211, 0, none⟩ (.string (a0.extract ((ji22) : Int).toNat ((wrap64 ((ji22) + (wrap64 (bt a0 (ji10))))) : Int).toNat))).setCell ⟨gb211, 1, none⟩ (.int .i64 (wrap64 ((wrap64 (bt a0 x5_1)) + (wrap64 (256 * (wrap64 (bt a0 (ji6)))))))))) := ⟨by repeat (first | (with_reducible first | exact HB.out | apply below_alloc | apply pw_below_drewN | apply below_drew1 | refine below_set ?_ GE211.out) | exact HB.out)⟩
                                              (try clear HO_4)
                                              (try clear BK211)
                                              (try clear HB)
                                              generalize ((w42.setCell ⟨gb211, 0, none⟩ (.string (a0.extract ((ji22) : Int).toNat ((wrap64 ((ji22) + (wrap64 (bt a0 (ji10))))) : Int).toNat))).setCell ⟨gb211, 1, none⟩ (.int .i64 (wrap64 ((wrap64 (bt a0 x5_1)) + (wrap64 (256 * (wrap64 (bt a0 (ji6))))))))) = w44 at n0_ n1_ n2_ ⊢
                                              have HO_4 := n0_
                                              have BK211 := n1_
                                              have HB := n2_
                                              clear n0_ n1_ n2_
                                              have n0_ := Aside0.mk (Kd.R_drew HO_4.out)
                                              have n1_ := Aside0.mk (blk_drew BK211.out)
                                              have n2_ := Aside0.mk (below_drew1 HB.out)
                                              clear HO_4
                                              clear BK211
                                              clear HB
                                              have HO_4 := n0_
                                              have BK211 := n1_
                                              have HB := n2_
                                              clear n0_ n1_ n2_
                                              refine start_ (n := 8) (S := fun w' => w'.cell? ⟨gb211, 0, none⟩ = some (.string (a0.extract ((ji22) : Int).toNat ((wrap64 ((ji22) + (wrap64 (bt a0 (ji10))))) : Int).toNat)) ∧ w'.cell? ⟨gb211, 1, none⟩ = some (.int .i64 (wrap64 ((wrap64 (bt a0 x5_1)) + (wrap64 (256 * (wrap64 (bt a0 (ji6))))))))) (ds := []) #[false, false, false, false, false, false, false, false] (by kernel_rfl) rfl rfl ⟨(blk_cell BK211.out 0).trans rfl, (blk_cell BK211.out 1).trans rfl⟩ (fun hHeld => ?_); refine with_tabW reliquaryref22_Read.tab12 reliquaryref22_Read.bits12 (fun HT_ HW_ => ?_)
                                              generalize w44.drew = w45 at HO_4 BK211 HB hHeld ⊢
                                              refine pure_ (i := 2) (N := some 65) (v := ?_) (a' := ?_) #[false, false, true, false, false, false, false, false] rfl rfl (any_of HT_.out (by kernel_rfl)) (fun _ _ _ h => h) (Or.inl ⟨by rfl, ?_⟩) ?_ ?_
                                              rotate_left
                                              · intro w'
                                                go_simp
                                                with_reducible rfl
                                              rotate_left
                                              · simp only [Act.put, List.setIfInBounds_toArray, List.set_cons_zero, List.set_cons_succ, i64_w, i32_w]
                                                rfl
                                              refine pure_ (i := 3) (N := some 66) (v := ?_) (a' := ?_) #[false, false, true, true, false, false, false, false] rfl rfl (any_of HT_.out (by kernel_rfl)) (fun _ _ _ h => h) (Or.inl ⟨by rfl, ?_⟩) ?_ ?_
                                              rotate_left
                                              · intro w'
                                                go_simp
                                                with_reducible rfl
                                              rotate_left
                                              · simp only [Act.put, List.setIfInBounds_toArray, List.set_cons_zero, List.set_cons_succ, i64_w, i32_w]
                                                rfl
                                              refine pure_ (i := 4) (N := some 67) (v := ?_) (a' := ?_) #[false, false, true, true, true, false, false, false] rfl rfl (any_of HT_.out (by kernel_rfl)) (fun _ _ _ h => h) (Or.inl ⟨by rfl, ?_⟩) ?_ ?_
                                              rotate_left
                                              · intro w'
                                                go_simp
                                                with_reducible rfl
                                              rotate_left
                                              · simp only [Act.put, List.setIfInBounds_toArray, List.set_cons_zero, List.set_cons_succ, i64_w, i32_w]
                                                rfl
                                              refine pure_ (i := 5) (N := some 68) (v := ?_) (a' := ?_) #[false, false, true, true, true, true, false, false] rfl rfl (any_of HT_.out (by kernel_rfl)) (fun _ _ _ h => h) (Or.inl ⟨by rfl, ?_⟩) ?_ ?_
                                              rotate_left
                                              · intro w'
                                                go_simp
                                                with_reducible rfl
                                              rotate_left
                                              · simp only [Act.put, List.setIfInBounds_toArray, List.set_cons_zero, List.set_cons_succ, i64_w, i32_w]
                                                rfl
                                              refine pure_ (i := 6) (N := some 69) (v := ?_) (a' := ?_) #[false, false, true, true, true, true, true, false] rfl rfl (any_of HT_.out (by kernel_rfl)) (fun _ _ _ h => h) (Or.inl ⟨by rfl, ?_⟩) ?_ ?_
                                              rotate_left
                                              · intro w'
                                                go_simp
                                                with_reducible rfl
                                              rotate_left
                                              · simp only [Act.put, List.setIfInBounds_toArray, List.set_cons_zero, List.set_cons_succ, i64_w, i32_w]
                                                rfl
                                              refine take_ (i := 0) (N := some 63) (v := ?_) (a' := ?_) #[true, false, true, true, true, true, true, false] rfl rfl (take_ofW HT_.out HW_.out (by kernel_rfl)) (fun _ _ _ h => h) (Or.inl ⟨by rfl, ?_⟩) hHeld ?_ ?_
                                              rotate_left
                                              · rintro w' ⟨s0, s1⟩
                                                go_simp
                                                with_reducible rfl
                                              rotate_left
                                              · simp only [Act.put, List.setIfInBounds_toArray, List.set_cons_zero, List.set_cons_succ, i64_w, i32_w]
                                                rfl
                                              refine one_ (i := 1) (N := some 64) #[true, true, true, true, true, true, true, false] rfl rfl (one_of HT_.out (by kernel_rfl)) (by decide) (fun K hK => ?_)
                                              refine goes_ Try.func23 (by kernel_rfl) rfl #[.agg #[.string (a0.extract ((ji22) : Int).toNat ((wrap64 ((ji22) + (wrap64 (bt a0 (ji10))))) : Int).toNat), .int .i64 (wrap64 ((wrap64 (bt a0 x5_1)) + (wrap64 (256 * (wrap64 (bt a0 (ji6)))))))]] (by rfl) rfl rfl (by (try simp only [List.map_toArray, List.map_cons, List.map_nil]); first | done | (simp only [hji10, hji22, hji6]; rfl) | rfl | (simp only [List.length_drop, List.length_take]; rfl)) ?_
                                              with_reducible refine (reliquaryref22_Piece.calls kj13 (a0.extract ((ji22) : Int).toNat ((wrap64 ((ji22) + (wrap64 (bt a0 (ji10))))) : Int).toNat) (wrap64 ((wrap64 (bt a0 x5_1)) + (wrap64 (256 * (wrap64 (bt a0 (ji6))))))) t212 _ A26.out).mono ?_
                                              rintro e w46 ⟨rfl, hb⟩
                                              refine ⟨_, rfl, ?_⟩
                                              have n0_ := Aside0.mk (Kd.R_below (by (with_reducible repeat (first | apply Kd.R_alloc | apply Kd.R_drewN | apply Kd.R_drew)); exact HO_4.out) hb)
                                              have n1_ := Aside0.mk (blk_below (g := gb211) (o := .cells #[.string (a0.extract ((ji22) : Int).toNat ((wrap64 ((ji22) + (wrap64 (bt a0 (ji10))))) : Int).toNat), .int .i64 (wrap64 ((wrap64 (bt a0 x5_1)) + (wrap64 (256 * (wrap64 (bt a0 (ji6)))))))] 30 (0, 0)) (by (with_reducible repeat (first | refine blk_drewN ?_ _ | refine blk_drew ?_ | refine blk_alloc ?_ _)); exact BK211.out) hb)
                                              have n2_ := Aside0.mk (below_step (by repeat (first | (with_reducible first | exact HB.out | apply below_alloc | apply pw_below_drewN | apply below_drew1 | refine below_set ?_ GE211.out) | exact HB.out)) hb)
                                              clear HO_4
                                              clear BK211
                                              clear HB
                                              have HO_4 := n0_
                                              have BK211 := n1_
                                              have HB := n2_
                                              clear n0_ n1_ n2_
                                              (try clear hb)
                                              (try clear hb2)
                                              (try clear hk)
                                              (try clear hi)
                                              refine hK.out _ _ ⟨(blk_cell BK211.out 0).trans rfl, (blk_cell BK211.out 1).trans rfl⟩ (fun hHeld => ?_)
                                              clear hK K
                                              refine norm_ (a' := ?_) ?_ ?_
                                              rotate_left
                                              · show Act.put _ (some 64) _ = _
                                                simp only [Act.put, List.setIfInBounds_toArray, List.set_cons_zero, List.set_cons_succ, i64_w, i32_w]
                                                rfl
                                              refine pure_ (i := 7) (N := some 70) (v := ?_) (a' := ?_) #[true, true, true, true, true, true, true, true] rfl rfl (any_of HT_.out (by kernel_rfl)) (fun _ _ _ h => h) (Or.inl ⟨by rfl, ?_⟩) ?_ ?_
                                              rotate_left
                                              · intro w'
                                                go_simp
                                                with_reducible rfl
                                              rotate_left
                                              · simp only [Act.put, List.setIfInBounds_toArray, List.set_cons_zero, List.set_cons_succ, i64_w, i32_w]
                                                rfl
                                              refine done_ (done_of HT_.out (by kernel_rfl)) ?_
                                              have hcz47_0 : w46.cell? ⟨gb211, 0, none⟩ = some (.string (a0.extract ((ji22) : Int).toNat ((wrap64 ((ji22) + (wrap64 (bt a0 (ji10))))) : Int).toNat)) := (blk_cell BK211.out 0).trans rfl
                                              have hcz47_1 : w46.cell? ⟨gb211, 1, none⟩ = some (.int .i64 (wrap64 ((wrap64 (bt a0 x5_1)) + (wrap64 (256 * (wrap64 (bt a0 (ji6)))))))) := (blk_cell BK211.out 1).trans rfl
                                              have hfz47_0 := blk_frozen BK211.out 0
                                              have hfz47_1 := blk_frozen BK211.out 1
                                              obtain ⟨Ao48, co48, eo48⟩ := Kd.R_slice HO_4.out
                                              subst eo48
                                              try go_wp2_with (first | (go_at_call 27; (with_reducible refine (reliquaryref22_Find.calls kj13 _ _ x4_1 (a0.extract ((ji22) : Int).toNat ((wrap64 ((ji22) + (wrap64 (bt a0 (ji10))))) : Int).toNat) t213 _ ?side1 ?side2 A32.out).mono ?_); (case side1 => repeat (first | exact (Kd.R_reads' HO_4.out).2.2 | (with_reducible refine Kd.C_alloc ?_ _) | (with_reducible refine Kd.C_drewN ?_ _) | (with_reducible refine Kd.C_drew ?_))); (case side2 => exact (Kd.R_reads' HO_4.out).2.1); rintro e w' ⟨rfl, ⟨nd, rfl⟩⟩) | ((with_reducible refine gate_builtin (b := .append) (xs := #[.tmp 80, .tmp 82]) rfl ?_); at_builtin; refine Kd.R_append k30 (w0 := w) w.heap.size rfl (.tmp 80) (.tmp 82) 45 30 (.agg #[(.string ⟨#[]⟩), (.int .i64 0)]) 24 rfl Try.underlying45 info30 rfl (by decide) (by omega) (.slice Ao48 x4_1.length co48) x4_1 (⟨a0.extract ((ji22) : Int).toNat ((wrap64 ((ji22) + (wrap64 (bt a0 (ji10))))) : Int).toNat, (wrap64 ((wrap64 (bt a0 x5_1)) + (wrap64 (256 * (wrap64 (bt a0 (ji6)))))))⟩ : S30) [.string (a0.extract ((ji22) : Int).toNat ((wrap64 ((ji22) + (wrap64 (bt a0 (ji10))))) : Int).toNat), .int .i64 (wrap64 ((wrap64 (bt a0 x5_1)) + (wrap64 (256 * (wrap64 (bt a0 (ji6)))))))] (fun k_ => k_ ≠ gb211) (fun _ => False) rfl rfl ?aP (fun _ hk => hk.elim) ?aF ?aO ?aB ?aS ?aL ?_; (case aP => exact k30_mkM _ _ _ (⟨a0.extract ((ji22) : Int).toNat ((wrap64 ((ji22) + (wrap64 (bt a0 (ji10))))) : Int).toNat, (wrap64 ((wrap64 (bt a0 x5_1)) + (wrap64 (256 * (wrap64 (bt a0 (ji6)))))))⟩ : S30)); (case aB => exact (by repeat (first | (with_reducible first | exact HB.out | apply below_alloc | apply pw_below_drewN | apply below_drew1 | refine below_set ?_ GE211.out) | exact HB.out))); (case aF => exact (fun k_ hk => Kd.freshB (g := gb211) (o := .cells #[.string (a0.extract ((ji22) : Int).toNat ((wrap64 ((ji22) + (wrap64 (bt a0 (ji10))))) : Int).toNat), .int .i64 (wrap64 ((wrap64 (bt a0 x5_1)) + (wrap64 (256 * (wrap64 (bt a0 (ji6)))))))] 30 (0, 0)) (by (with_reducible repeat (first | refine blk_drewN ?_ _ | refine blk_drew ?_ | refine blk_alloc ?_ _)); exact BK211.out) k_ hk)); (case aO => exact (by (with_reducible repeat (first | apply Kd.R_alloc | apply Kd.R_drewN | apply Kd.R_drew)); exact HO_4.out)); (case aS => exact (below_size (by repeat (first | (with_reducible first | exact HB.out | apply below_alloc | apply pw_below_drewN | apply below_drew1 | refine below_set ?_ GE211.out) | exact HB.out)))); (case aL => have := LMc41.out; omega); intro v215 w49 ho hb hg hat; rw [← Ny214.out] at ho; have n0_ := Aside0.mk (blk_grown (g := gb211) (o := .cells #[.string (a0.extract ((ji22) : Int).toNat ((wrap64 ((ji22) + (wrap64 (bt a0 (ji10))))) : Int).toNat), .int .i64 (wrap64 ((wrap64 (bt a0 x5_1)) + (wrap64 (256 * (wrap64 (bt a0 (ji6)))))))] 30 (0, 0)) (by (with_reducible repeat (first | refine blk_drewN ?_ _ | refine blk_drew ?_ | refine blk_alloc ?_ _)); exact BK211.out) hg (Kd.R_away HO_4.out (fun _ hk => hk))); have n1_ := Aside0.mk (hb); have n2_ := Aside0.mk (ho); clear BK211; clear HB; clear HO_4; have BK211 := n0_; have HB := n1_; have HO216 := n2_; clear n0_ n1_ n2_; clear ho hb hg hat))
                                              go_roundg kj13
                                              case measure => have := HK1.out; have := HJ13.out; omega
                                              case rel => exact ⟨(y214), (wrap64 (x5_1 + 32)), (by first | rfl | (simp; done) | (simp [*]; done)), H', ⟨by have := HK1.out; have := HJ13.out; omega⟩, ⟨by (with_reducible repeat (first | apply Kd.R_alloc | apply Kd.R_drewN | apply Kd.R_drew)); exact Kd.R_mono HO216.out (fun _ hk => trivial)⟩, ⟨by repeat (first | (with_reducible first | exact HB.out | apply below_alloc | apply pw_below_drewN | apply below_drew1 | refine below_set ?_ GE211.out) | exact HB.out)⟩⟩
                                            · rw [if_neg c41] at H
                                              exact absurd H (by simp)
                                        · rw [if_neg c31] at H
                                          have c31b0 : decide (0 < (wrap64 ((wrap64 (bt a0 x5_1)) + (wrap64 (256 * (wrap64 (bt a0 (ji6)))))))) = false := decide_eq_false c31
                                          clear c31
                                          by_cases c50 : x4_1.length < 5864062014805
                                          · rw [if_pos c50] at H
                                            have LMc50 := Aside0.mk c50
                                            clear c50
                                            obtain ⟨y217, hy217⟩ : ∃ y_ : List (S30), y_ = (x4_1 ++ [(⟨a0.extract ((ji22) : Int).toNat ((wrap64 ((ji22) + (wrap64 (bt a0 (ji10))))) : Int).toNat, (wrap64 ((wrap64 (bt a0 x5_1)) + (wrap64 (256 * (wrap64 (bt a0 (ji6)))))))⟩ : S30)]) := ⟨_, rfl⟩
                                            replace H : (reliquaryref22_Read.l0 kj13 a0 y217 (wrap64 (x5_1 + 32))) = some (r1, r2) := by first | (rw [hy217]; with_reducible exact H) | (have H2_ := (Option.bind_some _ _).symm.trans H; rw [hy217]; with_reducible exact H2_) | (have H2_ := (Option.bind_some _ _).symm.trans H; with_reducible exact H2_) | with_reducible exact H | (rw [hy217]; exact H) | exact H
                                            have Ny217 := Aside0.mk hy217
                                            clear hy217
                                            have H' := Aside0.mk H
                                            clear H
                                            try go_wp2_with (first | ((with_reducible refine gate_dst (N := 8) rfl ?_); refine box_event ?hg (N := 8) ?hd (cs := #[.string (⟨#[]⟩ : ByteArray), .int .i64 0]) (t := 30) ?hr ?_; (case hd => rfl); (case hg => rfl); (case hr => first | (go_simp; done) | (go_simp; rfl)); intro gb211 hg w51 hbox hb; have n0_ := Aside0.mk (Kd.R_below (Kd.R_elderB (by (with_reducible repeat (first | apply Kd.R_alloc | apply Kd.R_drewN | apply Kd.R_drew)); exact HO_4.out) gb211 (Nat.le_of_eq hg.symm)) hb); have n1_ := Aside0.mk (below_step (by repeat (first | (with_reducible first | exact HB.out | apply below_alloc | apply pw_below_drewN | apply below_drew1) | exact HB.out)) hb); have n2_ := Aside0.mk (hbox); have n3_ := Aside0.mk ((by rw [hg]; exact (below_size (by repeat (first | (with_reducible first | exact HB.out | apply below_alloc | apply pw_below_drewN | apply below_drew1) | exact HB.out))) : w.heap.size ≤ gb211)); have n4_ := Aside0.mk ((by rw [hg]; exact (below_size (by repeat (first | (with_reducible first | exact HB.out | apply below_alloc | apply pw_below_drewN | apply below_drew1) | exact HB.out))) : w.heap.size ≤ gb211)); clear HO_4; clear HB; have HO_4 := n0_; have HB := n1_; have BK211 := n2_; have GW211 := n3_; have GE211 := n4_; clear n0_ n1_ n2_ n3_ n4_; clear hb hbox hg; have hcz52_0 : w51.cell? ⟨gb211, 0, none⟩ = some (.string (⟨#[]⟩ : ByteArray)) := (blk_cell BK211.out 0).trans rfl; have hcz52_1 : w51.cell? ⟨gb211, 1, none⟩ = some (.int .i64 0) := (blk_cell BK211.out 1).trans rfl; have hfz52_0 := blk_frozen BK211.out 0; have hfz52_1 := blk_frozen BK211.out 1))
                                            have n0_ : Aside0 (Kd.R k30 30 ((w51.setCell ⟨gb211, 0, none⟩ (.string (a0.extract ((ji22) : Int).toNat ((wrap64 ((ji22) + (wrap64 (bt a0 (ji10))))) : Int).toNat))).setCell ⟨gb211, 1, none⟩ (.int .i64 (wrap64 ((wrap64 (bt a0 x5_1)) + (wrap64 (256 * (wrap64 (bt a0 (ji6))))))))) w.heap.size (fun k_ => k_ ≠ gb211) u4 x4_1) := ⟨by (with_reducible repeat (first | apply Kd.R_alloc | apply Kd.R_drewN | apply Kd.R_drew)); exact Kd.R_mono (Kd.R_far (p := ⟨gb211, 1, none⟩) (Kd.R_far (p := ⟨gb211, 0, none⟩) (Kd.R_mono HO_4.out (fun k_ hk => (⟨hk, hk.2⟩ : _ ∧ k_ ≠ gb211))) (fun _ hk => hk.2) (.string (a0.extract ((ji22) : Int).toNat ((wrap64 ((ji22) + (wrap64 (bt a0 (ji10))))) : Int).toNat))) (fun _ hk => hk.2) (.int .i64 (wrap64 ((wrap64 (bt a0 x5_1)) + (wrap64 (256 * (wrap64 (bt a0 (ji6))))))))) (fun _ hk => hk.1.2)⟩
                                            have n1_ : Aside0 (((w51.setCell ⟨gb211, 0, none⟩ (.string (a0.extract ((ji22) : Int).toNat ((wrap64 ((ji22) + (wrap64 (bt a0 (ji10))))) : Int).toNat))).setCell ⟨gb211, 1, none⟩ (.int .i64 (wrap64 ((wrap64 (bt a0 x5_1)) + (wrap64 (256 * (wrap64 (bt a0 (ji6))))))))).heap[gb211]? = some (.cells #[.string (a0.extract ((ji22) : Int).toNat ((wrap64 ((ji22) + (wrap64 (bt a0 (ji10))))) : Int).toNat), .int .i64 (wrap64 ((wrap64 (bt a0 x5_1)) + (wrap64 (256 * (wrap64 (bt a0 (ji6)))))))] 30 (0, 0))) := ⟨by (with_reducible repeat (first | refine blk_drewN ?_ _ | refine blk_drew ?_ | refine blk_alloc ?_ _)); refine blk_put (cs := #[.string (a0.extract ((ji22) : Int).toNat ((wrap64 ((ji22) + (wrap64 (bt a0 (ji10))))) : Int).toNat), .int .i64 0]) ?_ 1 _ rfl; (with_reducible repeat (first | refine blk_drewN ?_ _ | refine blk_drew ?_ | refine blk_alloc ?_ _)); refine blk_put (cs := #[.string (⟨#[]⟩ : ByteArray), .int .i64 0]) ?_ 0 _ rfl; (with_reducible repeat (first | refine blk_drewN ?_ _ | refine blk_drew ?_ | refine blk_alloc ?_ _)); exact BK211.out⟩
                                            have n2_ : Aside0 (Below w.heap.size w ((w51.setCell ⟨gb211, 0, none⟩ (.string (a0.extract ((ji22) : Int).toNat ((wrap64 ((ji22) + (wrap64 (bt a0 (ji10))))) : Int).toNat))).setCell ⟨gb211, 1, none⟩ (.int .i64 (wrap64 ((wrap64 (bt a0 x5_1)) + (wrap64 (256 * (wrap64 (bt a0 (ji6)))))))))) := ⟨by repeat (first | (with_reducible first | exact HB.out | apply below_alloc | apply pw_below_drewN | apply below_drew1 | refine below_set ?_ GE211.out) | exact HB.out)⟩
                                            (try clear HO_4)
                                            (try clear BK211)
                                            (try clear HB)
                                            generalize ((w51.setCell ⟨gb211, 0, none⟩ (.string (a0.extract ((ji22) : Int).toNat ((wrap64 ((ji22) + (wrap64 (bt a0 (ji10))))) : Int).toNat))).setCell ⟨gb211, 1, none⟩ (.int .i64 (wrap64 ((wrap64 (bt a0 x5_1)) + (wrap64 (256 * (wrap64 (bt a0 (ji6))))))))) = w53 at n0_ n1_ n2_ ⊢
                                            have HO_4 := n0_
                                            have BK211 := n1_
                                            have HB := n2_
                                            clear n0_ n1_ n2_
                                            have n0_ := Aside0.mk (Kd.R_drew HO_4.out)
                                            have n1_ := Aside0.mk (blk_drew BK211.out)
                                            have n2_ := Aside0.mk (below_drew1 HB.out)
                                            clear HO_4
                                            clear BK211
                                            clear HB
                                            have HO_4 := n0_
                                            have BK211 := n1_
                                            have HB := n2_
                                            clear n0_ n1_ n2_
                                            refine start_ (n := 8) (S := fun w' => w'.cell? ⟨gb211, 0, none⟩ = some (.string (a0.extract ((ji22) : Int).toNat ((wrap64 ((ji22) + (wrap64 (bt a0 (ji10))))) : Int).toNat)) ∧ w'.cell? ⟨gb211, 1, none⟩ = some (.int .i64 (wrap64 ((wrap64 (bt a0 x5_1)) + (wrap64 (256 * (wrap64 (bt a0 (ji6))))))))) (ds := []) #[false, false, false, false, false, false, false, false] (by kernel_rfl) rfl rfl ⟨(blk_cell BK211.out 0).trans rfl, (blk_cell BK211.out 1).trans rfl⟩ (fun hHeld => ?_); refine with_tabW reliquaryref22_Read.tab12 reliquaryref22_Read.bits12 (fun HT_ HW_ => ?_)
                                            generalize w53.drew = w54 at HO_4 BK211 HB hHeld ⊢
                                            refine pure_ (i := 2) (N := some 65) (v := ?_) (a' := ?_) #[false, false, true, false, false, false, false, false] rfl rfl (any_of HT_.out (by kernel_rfl)) (fun _ _ _ h => h) (Or.inl ⟨by rfl, ?_⟩) ?_ ?_
                                            rotate_left
                                            · intro w'
                                              go_simp
                                              with_reducible rfl
                                            rotate_left
                                            · simp only [Act.put, List.setIfInBounds_toArray, List.set_cons_zero, List.set_cons_succ, i64_w, i32_w]
                                              rfl
                                            refine pure_ (i := 3) (N := some 66) (v := ?_) (a' := ?_) #[false, false, true, true, false, false, false, false] rfl rfl (any_of HT_.out (by kernel_rfl)) (fun _ _ _ h => h) (Or.inl ⟨by rfl, ?_⟩) ?_ ?_
                                            rotate_left
                                            · intro w'
                                              go_simp
                                              with_reducible rfl
                                            rotate_left
                                            · simp only [Act.put, List.setIfInBounds_toArray, List.set_cons_zero, List.set_cons_succ, i64_w, i32_w]
                                              rfl
                                            refine pure_ (i := 4) (N := some 67) (v := ?_) (a' := ?_) #[false, false, true, true, true, false, false, false] rfl rfl (any_of HT_.out (by kernel_rfl)) (fun _ _ _ h => h) (Or.inl ⟨by rfl, ?_⟩) ?_ ?_
                                            rotate_left
                                            · intro w'
                                              go_simp
                                              with_reducible rfl
                                            rotate_left
                                            · simp only [Act.put, List.setIfInBounds_toArray, List.set_cons_zero, List.set_cons_succ, i64_w, i32_w]
                                              rfl
                                            refine pure_ (i := 5) (N := some 68) (v := ?_) (a' := ?_) #[false, false, true, true, true, true, false, false] rfl rfl (any_of HT_.out (by kernel_rfl)) (fun _ _ _ h => h) (Or.inl ⟨by rfl, ?_⟩) ?_ ?_
                                            rotate_left
                                            · intro w'
                                              go_simp
                                              with_reducible rfl
                                            rotate_left
                                            · simp only [Act.put, List.setIfInBounds_toArray, List.set_cons_zero, List.set_cons_succ, i64_w, i32_w]
                                              rfl
                                            refine pure_ (i := 6) (N := some 69) (v := ?_) (a' := ?_) #[false, false, true, true, true, true, true, false] rfl rfl (any_of HT_.out (by kernel_rfl)) (fun _ _ _ h => h) (Or.inl ⟨by rfl, ?_⟩) ?_ ?_
                                            rotate_left
                                            · intro w'
                                              go_simp
                                              with_reducible rfl
                                            rotate_left
                                            · simp only [Act.put, List.setIfInBounds_toArray, List.set_cons_zero, List.set_cons_succ, i64_w, i32_w]
                                              rfl
                                            refine take_ (i := 0) (N := some 63) (v := ?_) (a' := ?_) #[true, false, true, true, true, true, true, false] rfl rfl (take_ofW HT_.out HW_.out (by kernel_rfl)) (fun _ _ _ h => h) (Or.inl ⟨by rfl, ?_⟩) hHeld ?_ ?_
                                            rotate_left
                                            · rintro w' ⟨s0, s1⟩
                                              go_simp
                                              with_reducible rfl
                                            rotate_left
                                            · simp only [Act.put, List.setIfInBounds_toArray, List.set_cons_zero, List.set_cons_succ, i64_w, i32_w]
                                              rfl
                                            refine one_ (i := 1) (N := some 64) #[true, true, true, true, true, true, true, false] rfl rfl (one_of HT_.out (by kernel_rfl)) (by decide) (fun K hK => ?_)
                                            refine goes_ Try.func23 (by kernel_rfl) rfl #[.agg #[.string (a0.extract ((ji22) : Int).toNat ((wrap64 ((ji22) + (wrap64 (bt a0 (ji10))))) : Int).toNat), .int .i64 (wrap64 ((wrap64 (bt a0 x5_1)) + (wrap64 (256 * (wrap64 (bt a0 (ji6)))))))]] (by rfl) rfl rfl (by (try simp only [List.map_toArray, List.map_cons, List.map_nil]); first | done | (simp only [hji10, hji22, hji6]; rfl) | rfl | (simp only [List.length_drop, List.length_take]; rfl)) ?_
                                            with_reducible refine (reliquaryref22_Piece.calls kj13 (a0.extract ((ji22) : Int).toNat ((wrap64 ((ji22) + (wrap64 (bt a0 (ji10))))) : Int).toNat) (wrap64 ((wrap64 (bt a0 x5_1)) + (wrap64 (256 * (wrap64 (bt a0 (ji6))))))) t212 _ A26.out).mono ?_
                                            rintro e w55 ⟨rfl, hb⟩
                                            refine ⟨_, rfl, ?_⟩
                                            have n0_ := Aside0.mk (Kd.R_below (by (with_reducible repeat (first | apply Kd.R_alloc | apply Kd.R_drewN | apply Kd.R_drew)); exact HO_4.out) hb)
                                            have n1_ := Aside0.mk (blk_below (g := gb211) (o := .cells #[.string (a0.extract ((ji22) : Int).toNat ((wrap64 ((ji22) + (wrap64 (bt a0 (ji10))))) : Int).toNat), .int .i64 (wrap64 ((wrap64 (bt a0 x5_1)) + (wrap64 (256 * (wrap64 (bt a0 (ji6)))))))] 30 (0, 0)) (by (with_reducible repeat (first | refine blk_drewN ?_ _ | refine blk_drew ?_ | refine blk_alloc ?_ _)); exact BK211.out) hb)
                                            have n2_ := Aside0.mk (below_step (by repeat (first | (with_reducible first | exact HB.out | apply below_alloc | apply pw_below_drewN | apply below_drew1 | refine below_set ?_ GE211.out) | exact HB.out)) hb)
                                            clear HO_4
                                            clear BK211
                                            clear HB
                                            have HO_4 := n0_
                                            have BK211 := n1_
                                            have HB := n2_
                                            clear n0_ n1_ n2_
                                            (try clear hb)
                                            (try clear hb2)
                                            (try clear hk)
                                            (try clear hi)
                                            refine hK.out _ _ ⟨(blk_cell BK211.out 0).trans rfl, (blk_cell BK211.out 1).trans rfl⟩ (fun hHeld => ?_)
                                            clear hK K
                                            refine norm_ (a' := ?_) ?_ ?_
                                            rotate_left
                                            · show Act.put _ (some 64) _ = _
                                              simp only [Act.put, List.setIfInBounds_toArray, List.set_cons_zero, List.set_cons_succ, i64_w, i32_w]
                                              rfl
                                            refine pure_ (i := 7) (N := some 70) (v := ?_) (a' := ?_) #[true, true, true, true, true, true, true, true] rfl rfl (any_of HT_.out (by kernel_rfl)) (fun _ _ _ h => h) (Or.inl ⟨by rfl, ?_⟩) ?_ ?_
                                            rotate_left
                                            · intro w'
                                              go_simp
                                              with_reducible rfl
                                            rotate_left
                                            · simp only [Act.put, List.setIfInBounds_toArray, List.set_cons_zero, List.set_cons_succ, i64_w, i32_w]
                                              rfl
                                            refine done_ (done_of HT_.out (by kernel_rfl)) ?_
                                            have hcz56_0 : w55.cell? ⟨gb211, 0, none⟩ = some (.string (a0.extract ((ji22) : Int).toNat ((wrap64 ((ji22) + (wrap64 (bt a0 (ji10))))) : Int).toNat)) := (blk_cell BK211.out 0).trans rfl
                                            have hcz56_1 : w55.cell? ⟨gb211, 1, none⟩ = some (.int .i64 (wrap64 ((wrap64 (bt a0 x5_1)) + (wrap64 (256 * (wrap64 (bt a0 (ji6)))))))) := (blk_cell BK211.out 1).trans rfl
                                            have hfz56_0 := blk_frozen BK211.out 0
                                            have hfz56_1 := blk_frozen BK211.out 1
                                            try go_wp2_with (first | ((with_reducible refine gate_builtin (b := .append) (xs := #[.tmp 80, .tmp 82]) rfl ?_); at_builtin; refine Kd.R_append k30 (w0 := w) w.heap.size rfl (.tmp 80) (.tmp 82) 45 30 (.agg #[(.string ⟨#[]⟩), (.int .i64 0)]) 24 rfl Try.underlying45 info30 rfl (by decide) (by omega) u4 x4_1 (⟨a0.extract ((ji22) : Int).toNat ((wrap64 ((ji22) + (wrap64 (bt a0 (ji10))))) : Int).toNat, (wrap64 ((wrap64 (bt a0 x5_1)) + (wrap64 (256 * (wrap64 (bt a0 (ji6)))))))⟩ : S30) [.string (a0.extract ((ji22) : Int).toNat ((wrap64 ((ji22) + (wrap64 (bt a0 (ji10))))) : Int).toNat), .int .i64 (wrap64 ((wrap64 (bt a0 x5_1)) + (wrap64 (256 * (wrap64 (bt a0 (ji6)))))))] (fun k_ => k_ ≠ gb211) (fun _ => False) rfl rfl ?aP (fun _ hk => hk.elim) ?aF ?aO ?aB ?aS ?aL ?_; (case aP => exact k30_mkM _ _ _ (⟨a0.extract ((ji22) : Int).toNat ((wrap64 ((ji22) + (wrap64 (bt a0 (ji10))))) : Int).toNat, (wrap64 ((wrap64 (bt a0 x5_1)) + (wrap64 (256 * (wrap64 (bt a0 (ji6)))))))⟩ : S30)); (case aB => exact (by repeat (first | (with_reducible first | exact HB.out | apply below_alloc | apply pw_below_drewN | apply below_drew1 | refine below_set ?_ GE211.out) | exact HB.out))); (case aF => exact (fun k_ hk => Kd.freshB (g := gb211) (o := .cells #[.string (a0.extract ((ji22) : Int).toNat ((wrap64 ((ji22) + (wrap64 (bt a0 (ji10))))) : Int).toNat), .int .i64 (wrap64 ((wrap64 (bt a0 x5_1)) + (wrap64 (256 * (wrap64 (bt a0 (ji6)))))))] 30 (0, 0)) (by (with_reducible repeat (first | refine blk_drewN ?_ _ | refine blk_drew ?_ | refine blk_alloc ?_ _)); exact BK211.out) k_ hk)); (case aO => exact (by (with_reducible repeat (first | apply Kd.R_alloc | apply Kd.R_drewN | apply Kd.R_drew)); exact HO_4.out)); (case aS => exact (below_size (by repeat (first | (with_reducible first | exact HB.out | apply below_alloc | apply pw_below_drewN | apply below_drew1 | refine below_set ?_ GE211.out) | exact HB.out)))); (case aL => have := LMc50.out; omega); intro v218 w57 ho hb hg hat; rw [← Ny217.out] at ho; have n0_ := Aside0.mk (blk_grown (g := gb211) (o := .cells #[.string (a0.extract ((ji22) : Int).toNat ((wrap64 ((ji22) + (wrap64 (bt a0 (ji10))))) : Int).toNat), .int .i64 (wrap64 ((wrap64 (bt a0 x5_1)) + (wrap64 (256 * (wrap64 (bt a0 (ji6)))))))] 30 (0, 0)) (by (with_reducible repeat (first | refine blk_drewN ?_ _ | refine blk_drew ?_ | refine blk_alloc ?_ _)); exact BK211.out) hg (Kd.R_away HO_4.out (fun _ hk => hk))); have n1_ := Aside0.mk (hb); have n2_ := Aside0.mk (ho); clear BK211; clear HB; clear HO_4; have BK211 := n0_; have HB := n1_; have HO219 := n2_; clear n0_ n1_ n2_; clear ho hb hg hat))
                                            go_roundg kj13
                                            case measure => have := HK1.out; have := HJ13.out; omega
                                            case rel => exact ⟨(y217), (wrap64 (x5_1 + 32)), (by first | rfl | (simp; done) | (simp [*]; done)), H', ⟨by have := HK1.out; have := HJ13.out; omega⟩, ⟨by (with_reducible repeat (first | apply Kd.R_alloc | apply Kd.R_drewN | apply Kd.R_drew)); exact Kd.R_mono HO219.out (fun _ hk => trivial)⟩, ⟨by repeat (first | (with_reducible first | exact HB.out | apply below_alloc | apply pw_below_drewN | apply below_drew1 | refine below_set ?_ GE211.out) | exact HB.out)⟩⟩
                                          · rw [if_neg c50] at H
                                            exact absurd H (by simp)
                                      · rw [if_neg c30] at H
                                        have c30b0 : (t212.toList == (a0.extract (x5_1 : Int).toNat ((wrap64 (x5_1 + 32)) : Int).toNat).toList) = false := beq_eq_false_iff_ne.mpr c30
                                        have c30b1 : (t212.toList != (a0.extract (x5_1 : Int).toNat ((wrap64 (x5_1 + 32)) : Int).toNat).toList) = true := bne_iff_ne.mpr c30
                                        simp only [Option.some.injEq, Prod.mk.injEq] at H
                                        obtain ⟨rfl, rfl⟩ := H
                                        try go_wp2_with (first | ((with_reducible refine gate_dst (N := 8) rfl ?_); refine box_event ?hg (N := 8) ?hd (cs := #[.string (⟨#[]⟩ : ByteArray), .int .i64 0]) (t := 30) ?hr ?_; (case hd => rfl); (case hg => rfl); (case hr => first | (go_simp; done) | (go_simp; rfl)); intro gb211 hg w58 hbox hb; have n0_ := Aside0.mk (Kd.R_below (Kd.R_elderB (by (with_reducible repeat (first | apply Kd.R_alloc | apply Kd.R_drewN | apply Kd.R_drew)); exact HO_4.out) gb211 (Nat.le_of_eq hg.symm)) hb); have n1_ := Aside0.mk (below_step (by repeat (first | (with_reducible first | exact HB.out | apply below_alloc | apply pw_below_drewN | apply below_drew1) | exact HB.out)) hb); have n2_ := Aside0.mk (hbox); have n3_ := Aside0.mk ((by rw [hg]; exact (below_size (by repeat (first | (with_reducible first | exact HB.out | apply below_alloc | apply pw_below_drewN | apply below_drew1) | exact HB.out))) : w.heap.size ≤ gb211)); have n4_ := Aside0.mk ((by rw [hg]; exact (below_size (by repeat (first | (with_reducible first | exact HB.out | apply below_alloc | apply pw_below_drewN | apply below_drew1) | exact HB.out))) : w.heap.size ≤ gb211)); clear HO_4; clear HB; have HO_4 := n0_; have HB := n1_; have BK211 := n2_; have GW211 := n3_; have GE211 := n4_; clear n0_ n1_ n2_ n3_ n4_; clear hb hbox hg; have hcz59_0 : w58.cell? ⟨gb211, 0, none⟩ = some (.string (⟨#[]⟩ : ByteArray)) := (blk_cell BK211.out 0).trans rfl; have hcz59_1 : w58.cell? ⟨gb211, 1, none⟩ = some (.int .i64 0) := (blk_cell BK211.out 1).trans rfl; have hfz59_0 := blk_frozen BK211.out 0; have hfz59_1 := blk_frozen BK211.out 1))
                                        have n0_ : Aside0 (Kd.R k30 30 ((w58.setCell ⟨gb211, 0, none⟩ (.string (a0.extract ((ji22) : Int).toNat ((wrap64 ((ji22) + (wrap64 (bt a0 (ji10))))) : Int).toNat))).setCell ⟨gb211, 1, none⟩ (.int .i64 (wrap64 ((wrap64 (bt a0 x5_1)) + (wrap64 (256 * (wrap64 (bt a0 (ji6))))))))) w.heap.size (fun k_ => k_ ≠ gb211) u4 x4_1) := ⟨by (with_reducible repeat (first | apply Kd.R_alloc | apply Kd.R_drewN | apply Kd.R_drew)); exact Kd.R_mono (Kd.R_far (p := ⟨gb211, 1, none⟩) (Kd.R_far (p := ⟨gb211, 0, none⟩) (Kd.R_mono HO_4.out (fun k_ hk => (⟨hk, hk.2⟩ : _ ∧ k_ ≠ gb211))) (fun _ hk => hk.2) (.string (a0.extract ((ji22) : Int).toNat ((wrap64 ((ji22) + (wrap64 (bt a0 (ji10))))) : Int).toNat))) (fun _ hk => hk.2) (.int .i64 (wrap64 ((wrap64 (bt a0 x5_1)) + (wrap64 (256 * (wrap64 (bt a0 (ji6))))))))) (fun _ hk => hk.1.2)⟩
                                        have n1_ : Aside0 (((w58.setCell ⟨gb211, 0, none⟩ (.string (a0.extract ((ji22) : Int).toNat ((wrap64 ((ji22) + (wrap64 (bt a0 (ji10))))) : Int).toNat))).setCell ⟨gb211, 1, none⟩ (.int .i64 (wrap64 ((wrap64 (bt a0 x5_1)) + (wrap64 (256 * (wrap64 (bt a0 (ji6))))))))).heap[gb211]? = some (.cells #[.string (a0.extract ((ji22) : Int).toNat ((wrap64 ((ji22) + (wrap64 (bt a0 (ji10))))) : Int).toNat), .int .i64 (wrap64 ((wrap64 (bt a0 x5_1)) + (wrap64 (256 * (wrap64 (bt a0 (ji6)))))))] 30 (0, 0))) := ⟨by (with_reducible repeat (first | refine blk_drewN ?_ _ | refine blk_drew ?_ | refine blk_alloc ?_ _)); refine blk_put (cs := #[.string (a0.extract ((ji22) : Int).toNat ((wrap64 ((ji22) + (wrap64 (bt a0 (ji10))))) : Int).toNat), .int .i64 0]) ?_ 1 _ rfl; (with_reducible repeat (first | refine blk_drewN ?_ _ | refine blk_drew ?_ | refine blk_alloc ?_ _)); refine blk_put (cs := #[.string (⟨#[]⟩ : ByteArray), .int .i64 0]) ?_ 0 _ rfl; (with_reducible repeat (first | refine blk_drewN ?_ _ | refine blk_drew ?_ | refine blk_alloc ?_ _)); exact BK211.out⟩
                                        have n2_ : Aside0 (Below w.heap.size w ((w58.setCell ⟨gb211, 0, none⟩ (.string (a0.extract ((ji22) : Int).toNat ((wrap64 ((ji22) + (wrap64 (bt a0 (ji10))))) : Int).toNat))).setCell ⟨gb211, 1, none⟩ (.int .i64 (wrap64 ((wrap64 (bt a0 x5_1)) + (wrap64 (256 * (wrap64 (bt a0 (ji6)))))))))) := ⟨by repeat (first | (with_reducible first | exact HB.out | apply below_alloc | apply pw_below_drewN | apply below_drew1 | refine below_set ?_ GE211.out) | exact HB.out)⟩
                                        (try clear HO_4)
                                        (try clear BK211)
                                        (try clear HB)
                                        generalize ((w58.setCell ⟨gb211, 0, none⟩ (.string (a0.extract ((ji22) : Int).toNat ((wrap64 ((ji22) + (wrap64 (bt a0 (ji10))))) : Int).toNat))).setCell ⟨gb211, 1, none⟩ (.int .i64 (wrap64 ((wrap64 (bt a0 x5_1)) + (wrap64 (256 * (wrap64 (bt a0 (ji6))))))))) = w60 at n0_ n1_ n2_ ⊢
                                        have HO_4 := n0_
                                        have BK211 := n1_
                                        have HB := n2_
                                        clear n0_ n1_ n2_
                                        have n0_ := Aside0.mk (Kd.R_drew HO_4.out)
                                        have n1_ := Aside0.mk (blk_drew BK211.out)
                                        have n2_ := Aside0.mk (below_drew1 HB.out)
                                        clear HO_4
                                        clear BK211
                                        clear HB
                                        have HO_4 := n0_
                                        have BK211 := n1_
                                        have HB := n2_
                                        clear n0_ n1_ n2_
                                        refine start_ (n := 8) (S := fun w' => w'.cell? ⟨gb211, 0, none⟩ = some (.string (a0.extract ((ji22) : Int).toNat ((wrap64 ((ji22) + (wrap64 (bt a0 (ji10))))) : Int).toNat)) ∧ w'.cell? ⟨gb211, 1, none⟩ = some (.int .i64 (wrap64 ((wrap64 (bt a0 x5_1)) + (wrap64 (256 * (wrap64 (bt a0 (ji6))))))))) (ds := []) #[false, false, false, false, false, false, false, false] (by kernel_rfl) rfl rfl ⟨(blk_cell BK211.out 0).trans rfl, (blk_cell BK211.out 1).trans rfl⟩ (fun hHeld => ?_); refine with_tabW reliquaryref22_Read.tab12 reliquaryref22_Read.bits12 (fun HT_ HW_ => ?_)
                                        generalize w60.drew = w61 at HO_4 BK211 HB hHeld ⊢
                                        refine pure_ (i := 2) (N := some 65) (v := ?_) (a' := ?_) #[false, false, true, false, false, false, false, false] rfl rfl (any_of HT_.out (by kernel_rfl)) (fun _ _ _ h => h) (Or.inl ⟨by rfl, ?_⟩) ?_ ?_
                                        rotate_left
                                        · intro w'
                                          go_simp
                                          with_reducible rfl
                                        rotate_left
                                        · simp only [Act.put, List.setIfInBounds_toArray, List.set_cons_zero, List.set_cons_succ, i64_w, i32_w]
                                          rfl
                                        refine pure_ (i := 3) (N := some 66) (v := ?_) (a' := ?_) #[false, false, true, true, false, false, false, false] rfl rfl (any_of HT_.out (by kernel_rfl)) (fun _ _ _ h => h) (Or.inl ⟨by rfl, ?_⟩) ?_ ?_
                                        rotate_left
                                        · intro w'
                                          go_simp
                                          with_reducible rfl
                                        rotate_left
                                        · simp only [Act.put, List.setIfInBounds_toArray, List.set_cons_zero, List.set_cons_succ, i64_w, i32_w]
                                          rfl
                                        refine pure_ (i := 4) (N := some 67) (v := ?_) (a' := ?_) #[false, false, true, true, true, false, false, false] rfl rfl (any_of HT_.out (by kernel_rfl)) (fun _ _ _ h => h) (Or.inl ⟨by rfl, ?_⟩) ?_ ?_
                                        rotate_left
                                        · intro w'
                                          go_simp
                                          with_reducible rfl
                                        rotate_left
                                        · simp only [Act.put, List.setIfInBounds_toArray, List.set_cons_zero, List.set_cons_succ, i64_w, i32_w]
                                          rfl
                                        refine pure_ (i := 5) (N := some 68) (v := ?_) (a' := ?_) #[false, false, true, true, true, true, false, false] rfl rfl (any_of HT_.out (by kernel_rfl)) (fun _ _ _ h => h) (Or.inl ⟨by rfl, ?_⟩) ?_ ?_
                                        rotate_left
                                        · intro w'
                                          go_simp
                                          with_reducible rfl
                                        rotate_left
                                        · simp only [Act.put, List.setIfInBounds_toArray, List.set_cons_zero, List.set_cons_succ, i64_w, i32_w]
                                          rfl
                                        refine pure_ (i := 6) (N := some 69) (v := ?_) (a' := ?_) #[false, false, true, true, true, true, true, false] rfl rfl (any_of HT_.out (by kernel_rfl)) (fun _ _ _ h => h) (Or.inl ⟨by rfl, ?_⟩) ?_ ?_
                                        rotate_left
                                        · intro w'
                                          go_simp
                                          with_reducible rfl
                                        rotate_left
                                        · simp only [Act.put, List.setIfInBounds_toArray, List.set_cons_zero, List.set_cons_succ, i64_w, i32_w]
                                          rfl
                                        refine take_ (i := 0) (N := some 63) (v := ?_) (a' := ?_) #[true, false, true, true, true, true, true, false] rfl rfl (take_ofW HT_.out HW_.out (by kernel_rfl)) (fun _ _ _ h => h) (Or.inl ⟨by rfl, ?_⟩) hHeld ?_ ?_
                                        rotate_left
                                        · rintro w' ⟨s0, s1⟩
                                          go_simp
                                          with_reducible rfl
                                        rotate_left
                                        · simp only [Act.put, List.setIfInBounds_toArray, List.set_cons_zero, List.set_cons_succ, i64_w, i32_w]
                                          rfl
                                        refine one_ (i := 1) (N := some 64) #[true, true, true, true, true, true, true, false] rfl rfl (one_of HT_.out (by kernel_rfl)) (by decide) (fun K hK => ?_)
                                        refine goes_ Try.func23 (by kernel_rfl) rfl #[.agg #[.string (a0.extract ((ji22) : Int).toNat ((wrap64 ((ji22) + (wrap64 (bt a0 (ji10))))) : Int).toNat), .int .i64 (wrap64 ((wrap64 (bt a0 x5_1)) + (wrap64 (256 * (wrap64 (bt a0 (ji6)))))))]] (by rfl) rfl rfl (by (try simp only [List.map_toArray, List.map_cons, List.map_nil]); first | done | (simp only [hji10, hji22, hji6]; rfl) | rfl | (simp only [List.length_drop, List.length_take]; rfl)) ?_
                                        with_reducible refine (reliquaryref22_Piece.calls kj13 (a0.extract ((ji22) : Int).toNat ((wrap64 ((ji22) + (wrap64 (bt a0 (ji10))))) : Int).toNat) (wrap64 ((wrap64 (bt a0 x5_1)) + (wrap64 (256 * (wrap64 (bt a0 (ji6))))))) t212 _ A26.out).mono ?_
                                        rintro e w62 ⟨rfl, hb⟩
                                        refine ⟨_, rfl, ?_⟩
                                        have n0_ := Aside0.mk (Kd.R_below (by (with_reducible repeat (first | apply Kd.R_alloc | apply Kd.R_drewN | apply Kd.R_drew)); exact HO_4.out) hb)
                                        have n1_ := Aside0.mk (blk_below (g := gb211) (o := .cells #[.string (a0.extract ((ji22) : Int).toNat ((wrap64 ((ji22) + (wrap64 (bt a0 (ji10))))) : Int).toNat), .int .i64 (wrap64 ((wrap64 (bt a0 x5_1)) + (wrap64 (256 * (wrap64 (bt a0 (ji6)))))))] 30 (0, 0)) (by (with_reducible repeat (first | refine blk_drewN ?_ _ | refine blk_drew ?_ | refine blk_alloc ?_ _)); exact BK211.out) hb)
                                        have n2_ := Aside0.mk (below_step (by repeat (first | (with_reducible first | exact HB.out | apply below_alloc | apply pw_below_drewN | apply below_drew1 | refine below_set ?_ GE211.out) | exact HB.out)) hb)
                                        clear HO_4
                                        clear BK211
                                        clear HB
                                        have HO_4 := n0_
                                        have BK211 := n1_
                                        have HB := n2_
                                        clear n0_ n1_ n2_
                                        (try clear hb)
                                        (try clear hb2)
                                        (try clear hk)
                                        (try clear hi)
                                        refine hK.out _ _ ⟨(blk_cell BK211.out 0).trans rfl, (blk_cell BK211.out 1).trans rfl⟩ (fun hHeld => ?_)
                                        clear hK K
                                        refine norm_ (a' := ?_) ?_ ?_
                                        rotate_left
                                        · show Act.put _ (some 64) _ = _
                                          simp only [Act.put, List.setIfInBounds_toArray, List.set_cons_zero, List.set_cons_succ, i64_w, i32_w]
                                          rfl
                                        refine pure_ (i := 7) (N := some 70) (v := ?_) (a' := ?_) #[true, true, true, true, true, true, true, true] rfl rfl (any_of HT_.out (by kernel_rfl)) (fun _ _ _ h => h) (Or.inl ⟨by rfl, ?_⟩) ?_ ?_
                                        rotate_left
                                        · intro w'
                                          go_simp
                                          with_reducible rfl
                                        rotate_left
                                        · simp only [Act.put, List.setIfInBounds_toArray, List.set_cons_zero, List.set_cons_succ, i64_w, i32_w]
                                          rfl
                                        refine done_ (done_of HT_.out (by kernel_rfl)) ?_
                                        try go_wp2
                                        go_ret2
                                        exact ⟨_, by first | rfl | (simp [errW_none, errW_some] <;> rfl) | (simp only [← hji6, ← hji10, ← hji22]; first | rfl | (simp [errW_none, errW_some] <;> rfl)) | (simp [*, errW_none, errW_some] <;> rfl), by first | exact Kd.R_nil _ _ _ _ _ | exact Kd.N_nil _ _ _ _ _ | exact Kd.V_nil _ _ _ _ _ | exact Kd.Q_nil _ _ _ _ _ | exact Kd.S_nil _ _ _ _ _, by repeat (first | (with_reducible first | exact HB.out | apply below_alloc | apply pw_below_drewN | apply below_drew1 | refine below_set ?_ GE211.out) | exact HB.out)⟩
                                    · rw [if_neg c29] at H
                                      exact absurd H (by simp)
                                  · rw [if_neg c28] at H
                                    exact absurd H (by simp)
                                · rw [if_neg c27] at H
                                  exact absurd H (by simp)
                              · rw [if_neg c25] at H
                                exact absurd H (by simp)
                            · rw [if_neg c24] at H
                              exact absurd H (by simp)
                          · rw [if_neg c23] at H
                            exact absurd H (by simp)
                  · rw [if_neg c12] at H
                    exact absurd H (by simp)
                · rw [if_neg c11] at H
                  exact absurd H (by simp)
              · rw [if_neg c8] at H
                exact absurd H (by simp)
            · rw [if_neg c7] at H
              exact absurd H (by simp)
          · rw [if_neg c4] at H
            exact absurd H (by simp)
        · rw [if_neg c3] at H
          have c3b0 : decide (x5_1 < (a0.size : Int)) = false := decide_eq_false c3
          clear c3
          simp only [Option.some.injEq, Prod.mk.injEq] at H
          obtain ⟨rfl, rfl⟩ := H
          go_wp2
          go_ret2
          exact ⟨_, by first | rfl | (simp [errW_none, errW_some] <;> rfl) | (simp [*, errW_none, errW_some] <;> rfl), by (with_reducible repeat (first | apply Kd.R_alloc | apply Kd.R_drewN | apply Kd.R_drew)); exact HO_4.out, by repeat (first | (with_reducible first | exact HB.out | apply below_alloc | apply pw_below_drewN | apply below_drew1) | exact HB.out)⟩

end Go.Proofs.Ytkkflgdobgbmmaa.Q
end
section
namespace Go.Proofs.Ytkkflgdobgbmmaa.Q
open Go.RowKit Go.Proofs.YtkkflgdobgbmmaaW.PrintWords Go.Proofs.YtkkflgdobgbmmaaW.PrintLast Go.Proofs.YtkkflgdobgbmmaaW.PrintMore
attribute [local go_sem] max2_int min2_int max_two min_two max_three min_three max_four min_four   -- for this text's walks alone
set_option linter.unusedVariables false
set_option linter.unusedSimpArgs false

/-! ### reliquaryref22_Whose: function 13 -/
def reliquaryref22_Whose.f (k : Nat) (a0 : ByteArray) (a1 : ByteArray) : Option (Int × Int) := (reliquaryref22_Read.f k a0).bind fun bt220 => (if bt220.2 = 0 then ((reliquaryref22_Find.f k bt220.1 a1).bind fun t224 => (if t224 < 0 then (some (0, 21)) else (if 0 ≤ t224 then (if t224 < (bt220.1.length : Int) then (some ((rd_T30 bt220.1 t224).f1, 0)) else (none)) else (none)))) else (some (0, bt220.2)))
set_option maxHeartbeats 8000000 in
set_option maxRecDepth 100000 in
theorem reliquaryref22_Whose.calls (k : Nat) (a0 : ByteArray) (a1 : ByteArray) (r1 : Int) (r2 : Int) (w : World) (h : reliquaryref22_Whose.f k a0 a1 = some (r1, r2)) :
    Calls Try.prog 13 #[.string a0, .string a1] w fun e w' => e = .returned (.tuple #[.int .i64 r1, .int .i64 r2]) ∧ Below w.heap.size w w' := by
  have HB := Aside0.mk (Below.refl w.heap.size w)
  have H : ((reliquaryref22_Read.f k a0).bind fun bt220 => (if bt220.2 = 0 then ((reliquaryref22_Find.f k bt220.1 a1).bind fun t224 => (if t224 < 0 then (some (0, 21)) else (if 0 ≤ t224 then (if t224 < (bt220.1.length : Int) then (some ((rd_T30 bt220.1 t224).f1, 0)) else (none)) else (none)))) else (some (0, bt220.2)))) = some (r1, r2) := h
  clear h
  replace H := Option.bind_eq_some_iff.mp H
  obtain ⟨⟨t220, t221⟩, A30, H⟩ := H
  replace H : (if t221 = 0 then ((reliquaryref22_Find.f k t220 a1).bind fun t224 => (if t224 < 0 then (some (0, 21)) else (if 0 ≤ t224 then (if t224 < (t220.length : Int) then (some ((rd_T30 t220 t224).f1, 0)) else (none)) else (none)))) else (some (0, t221))) = some (r1, r2) := H
  have A3 := Aside0.mk A30
  clear A30
  by_cases c4 : t221 = 0
  · rw [if_pos c4] at H
    have c4b0 : (t221 == 0) = true := beq_iff_eq.mpr c4
    have c4b1 : (t221 != 0) = false := bne_eq_false_iff_eq.mpr c4
    clear c4
    replace H := Option.bind_eq_some_iff.mp H
    obtain ⟨t224, A50, H⟩ := H
    replace H : (if t224 < 0 then (some (0, 21)) else (if 0 ≤ t224 then (if t224 < (t220.length : Int) then (some ((rd_T30 t220 t224).f1, 0)) else (none)) else (none))) = some (r1, r2) := H
    have A5 := Aside0.mk A50
    clear A50
    by_cases c6 : t224 < 0
    · rw [if_pos c6] at H
      have c6b0 : decide (t224 < 0) = true := decide_eq_true c6
      clear c6
      simp only [Option.some.injEq, Prod.mk.injEq] at H
      obtain ⟨rfl, rfl⟩ := H
      go_enter Try.func13, Try.ntmps13
      go_wp2_with (first | ((with_reducible refine gate_callee (f := 26) rfl ?_); refine goesL_ (some 11) rfl rfl Try.func26 (by kernel_rfl) rfl #[.string a0] rfl (by (try simp only [List.map_toArray, List.map_cons, List.map_nil]); first | done | rfl | (simp only [List.length_drop, List.length_take]; rfl)) ?_; (with_reducible refine (reliquaryref22_Read.calls k a0 t220 t221 _ A3.out).mono ?_); rintro e w7 ⟨v222, rfl, ho0, hb⟩; refine ⟨_, rfl, ?_⟩; have n0_ := Aside0.mk (Kd.R_lower ho0 (below_size (by repeat (first | (with_reducible first | exact HB.out | apply below_alloc | apply pw_below_drewN | apply below_drew1) | exact HB.out)))); have n1_ := Aside0.mk (below_step (by repeat (first | (with_reducible first | exact HB.out | apply below_alloc | apply pw_below_drewN | apply below_drew1) | exact HB.out)) hb); clear HB; have HO223 := n0_; have HB := n1_; clear n0_ n1_; (try clear hb); (try clear hb2); (try clear hk); (try clear hi); (try clear ho0); obtain ⟨Ao8, co8, eo8⟩ := Kd.R_slice HO223.out; subst eo8) | ((with_reducible refine gate_callee (f := 27) rfl ?_); refine goesL_ (some 19) rfl rfl Try.func27 (by kernel_rfl) rfl #[.slice Ao8 t220.length co8, .string a1] rfl (by (try simp only [List.map_toArray, List.map_cons, List.map_nil]); first | done | rfl | (simp only [List.length_drop, List.length_take]; rfl)) ?_; (with_reducible refine (reliquaryref22_Find.calls k _ _ t220 a1 t224 _ ?side1 ?side2 A5.out).mono ?_); (case side1 => repeat (first | exact (Kd.R_reads' HO223.out).2.2 | (with_reducible refine Kd.C_alloc ?_ _) | (with_reducible refine Kd.C_drewN ?_ _) | (with_reducible refine Kd.C_drew ?_))); (case side2 => exact (Kd.R_reads' HO223.out).2.1); rintro e w' ⟨rfl, ⟨nd, rfl⟩⟩; refine ⟨_, rfl, ?_⟩))
      go_ret2
      exact ⟨by first | rfl | (simp [errW_none, errW_some] <;> rfl) | (simp [*, errW_none, errW_some] <;> rfl), by repeat (first | (with_reducible first | exact HB.out | apply below_alloc | apply pw_below_drewN | apply below_drew1) | exact HB.out)⟩
    · rw [if_neg c6] at H
      have c6b0 : decide (t224 < 0) = false := decide_eq_false c6
      clear c6
      by_cases c9 : 0 ≤ t224
      · rw [if_pos c9] at H
        have c9b0 : decide (0 ≤ t224) = true := decide_eq_true c9
        clear c9
        by_cases c10 : t224 < (t220.length : Int)
        · rw [if_pos c10] at H
          have c10b0 : decide (t224 < (t220.length : Int)) = true := decide_eq_true c10
          clear c10
          simp only [Option.some.injEq, Prod.mk.injEq] at H
          obtain ⟨rfl, rfl⟩ := H
          go_enter Try.func13, Try.ntmps13
          go_wp2_with (first | ((with_reducible refine gate_callee (f := 26) rfl ?_); refine goesL_ (some 11) rfl rfl Try.func26 (by kernel_rfl) rfl #[.string a0] rfl (by (try simp only [List.map_toArray, List.map_cons, List.map_nil]); first | done | rfl | (simp only [List.length_drop, List.length_take]; rfl)) ?_; (with_reducible refine (reliquaryref22_Read.calls k a0 t220 t221 _ A3.out).mono ?_); rintro e w11 ⟨v222, rfl, ho0, hb⟩; refine ⟨_, rfl, ?_⟩; have n0_ := Aside0.mk (Kd.R_lower ho0 (below_size (by repeat (first | (with_reducible first | exact HB.out | apply below_alloc | apply pw_below_drewN | apply below_drew1) | exact HB.out)))); have n1_ := Aside0.mk (below_step (by repeat (first | (with_reducible first | exact HB.out | apply below_alloc | apply pw_below_drewN | apply below_drew1) | exact HB.out)) hb); clear HB; have HO223 := n0_; have HB := n1_; clear n0_ n1_; (try clear hb); (try clear hb2); (try clear hk); (try clear hi); (try clear ho0); obtain ⟨Ao12, co12, eo12⟩ := Kd.R_slice HO223.out; subst eo12) | ((with_reducible refine gate_callee (f := 27) rfl ?_); refine goesL_ (some 19) rfl rfl Try.func27 (by kernel_rfl) rfl #[.slice Ao12 t220.length co12, .string a1] rfl (by (try simp only [List.map_toArray, List.map_cons, List.map_nil]); first | done | rfl | (simp only [List.length_drop, List.length_take]; rfl)) ?_; (with_reducible refine (reliquaryref22_Find.calls k _ _ t220 a1 t224 _ ?side1 ?side2 A5.out).mono ?_); (case side1 => repeat (first | exact (Kd.R_reads' HO223.out).2.2 | (with_reducible refine Kd.C_alloc ?_ _) | (with_reducible refine Kd.C_drewN ?_ _) | (with_reducible refine Kd.C_drew ?_))); (case side2 => exact (Kd.R_reads' HO223.out).2.1); rintro e w' ⟨rfl, ⟨nd, rfl⟩⟩; refine ⟨_, rfl, ?_⟩; have p225 : 0 ≤ (t224 : Int) := of_decide_eq_true (by first | (with_reducible assumption) | assumption); have q225 : t224 < (t220.length : Int) := of_decide_eq_true (by first | (with_reducible assumption) | assumption); obtain ⟨ad225, e225, hx225_0, hx225_1⟩ := at_T30 (Kd.R_reads' HO223.out).2.2 t224 p225 q225; cases e225; replace p225 := eq_true p225; replace q225 := eq_true q225))
          go_ret2
          exact ⟨by first | rfl | (simp [errW_none, errW_some] <;> rfl) | (simp [*, errW_none, errW_some] <;> rfl), by repeat (first | (with_reducible first | exact HB.out | apply below_alloc | apply pw_below_drewN | apply below_drew1) | exact HB.out)⟩
        · rw [if_neg c10] at H
          exact absurd H (by simp)
      · rw [if_neg c9] at H
        exact absurd H (by simp)
  · rw [if_neg c4] at H
    have c4b0 : (t221 == 0) = false := beq_eq_false_iff_ne.mpr c4
    have c4b1 : (t221 != 0) = true := bne_iff_ne.mpr c4
    simp only [Option.some.injEq, Prod.mk.injEq] at H
    obtain ⟨rfl, rfl⟩ := H
    go_enter Try.func13, Try.ntmps13
    go_wp2_with (first | ((with_reducible refine gate_callee (f := 26) rfl ?_); refine goesL_ (some 11) rfl rfl Try.func26 (by kernel_rfl) rfl #[.string a0] rfl (by (try simp only [List.map_toArray, List.map_cons, List.map_nil]); first | done | rfl | (simp only [List.length_drop, List.length_take]; rfl)) ?_; (with_reducible refine (reliquaryref22_Read.calls k a0 t220 t221 _ A3.out).mono ?_); rintro e w13 ⟨v222, rfl, ho0, hb⟩; refine ⟨_, rfl, ?_⟩; have n0_ := Aside0.mk (Kd.R_lower ho0 (below_size (by repeat (first | (with_reducible first | exact HB.out | apply below_alloc | apply pw_below_drewN | apply below_drew1) | exact HB.out)))); have n1_ := Aside0.mk (below_step (by repeat (first | (with_reducible first | exact HB.out | apply below_alloc | apply pw_below_drewN | apply below_drew1) | exact HB.out)) hb); clear HB; have HO223 := n0_; have HB := n1_; clear n0_ n1_; (try clear hb); (try clear hb2); (try clear hk); (try clear hi); (try clear ho0)))
    go_ret2
    exact ⟨by first | rfl | (simp [errW_none, errW_some] <;> rfl) | (simp [*, errW_none, errW_some] <;> rfl), by repeat (first | (with_reducible first | exact HB.out | apply below_alloc | apply pw_below_drewN | apply below_drew1) | exact HB.out)⟩

end Go.Proofs.Ytkkflgdobgbmmaa.Q
end
section
namespace Go.Proofs.Ytkkflgdobgbmmaa.Q
open Go.RowKit Go.Proofs.YtkkflgdobgbmmaaW.PrintWords Go.Proofs.YtkkflgdobgbmmaaW.PrintLast Go.Proofs.YtkkflgdobgbmmaaW.PrintMore
attribute [local go_sem] max2_int min2_int max_two min_two max_three min_three max_four min_four   -- for this text's walks alone
set_option linter.unusedVariables false
set_option linter.unusedSimpArgs false

/-! ### entries_number: function 28 -/
def entries_number.f (a0 : Int) : Option (Bool) := if a0 ≥ 1 then (some (decide (a0 < 65536))) else (some false)
set_option maxHeartbeats 8000000 in
set_option maxRecDepth 100000 in
theorem entries_number.calls (a0 : Int) (r : Bool) (w : World) (h : entries_number.f a0 = some r) :
    Calls Try.prog 28 #[.int .i64 a0] w fun e w' => e = .returned (.bool r) ∧ Drawn0 w w' := by
  have H : (if a0 ≥ 1 then (some (decide (a0 < 65536))) else (some false)) = some r := h
  clear h
  by_cases c2 : a0 ≥ 1
  · rw [if_pos c2] at H
    have c2b0 : decide (1 ≤ a0) = true := decide_eq_true c2
    clear c2
    obtain rfl := Option.some.inj H
    go_enter Try.func28, Try.ntmps28
    go_wp2
    go_ret
    exact ⟨by first | rfl | (simp; done) | (simp [*]; done), by repeat (first | exact Drawn0.refl _ | apply Drawn0.step)⟩
  · rw [if_neg c2] at H
    have c2b0 : decide (1 ≤ a0) = false := decide_eq_false c2
    clear c2
    obtain rfl := Option.some.inj H
    go_enter Try.func28, Try.ntmps28
    go_wp2
    go_ret
    exact ⟨by first | rfl | (simp; done) | (simp [*]; done), by repeat (first | exact Drawn0.refl _ | apply Drawn0.step)⟩

end Go.Proofs.Ytkkflgdobgbmmaa.Q
end
section
namespace Go.Proofs.Ytkkflgdobgbmmaa.Q
open Go.RowKit Go.Proofs.YtkkflgdobgbmmaaW.PrintWords Go.Proofs.YtkkflgdobgbmmaaW.PrintLast Go.Proofs.YtkkflgdobgbmmaaW.PrintMore
attribute [local go_sem] max2_int min2_int max_two min_two max_three min_three max_four min_four   -- for this text's walks alone
set_option linter.unusedVariables false
set_option linter.unusedSimpArgs false

-- EXT entries_piece: function 37
/-! ### entries_piece: function 37 -/
-- IMPORT HPiece
def entries_piece.f (a0_0 : ByteArray) (a0_1 : Int) : Option (List Int) := if 0 ≤ a0_1 ∧ a0_1 < 18446744073709551616 ∧ a0_0.size ≤ 200 then some (pieceL (bytesOf a0_0) a0_1) else none
theorem entries_piece.calls (a0_0 : ByteArray) (a0_1 : Int) (r : List Int) (w : World) (h : entries_piece.f a0_0 a0_1 = some r) :
    Calls Try.prog 37 #[.agg #[.string a0_0, .int .i64 a0_1]] w fun e w' => ∃ v0_ : Value, e = .returned (v0_) ∧ Kd.R (Kd.int .u8) 5 w' w.heap.size (fun _ => True) v0_ r ∧ Below w.heap.size w w' := by
  unfold entries_piece.f at h
  split at h
  · rename_i c
    injection h with h
    subst h
    exact piece.calls a0_0 a0_1 c.1 c.2.1 c.2.2 w
  · cases h

end Go.Proofs.Ytkkflgdobgbmmaa.Q
end
section
namespace Go.Proofs.Ytkkflgdobgbmmaa.Q
open Go.RowKit Go.Proofs.YtkkflgdobgbmmaaW.PrintWords Go.Proofs.YtkkflgdobgbmmaaW.PrintLast Go.Proofs.YtkkflgdobgbmmaaW.PrintMore
attribute [local go_sem] max2_int min2_int max_two min_two max_three min_three max_four min_four   -- for this text's walks alone
set_option linter.unusedVariables false
set_option linter.unusedSimpArgs false

/-! ### entries_bytes: function 33 -/
def entries_bytes.l0 : Nat → List Int → List (S28) → Int → Int → Option (List Int)
  | 0, _, _, _, _ => none
  | k + 1, x3, x6, x7, x8 => if x8 < x7 then (if 0 ≤ x8 then (if x8 < (x6.length : Int) then ((entries_piece.f ((rd_T28 x6 x8).f0) ((rd_T28 x6 x8).f1)).bind fun t123 => (if x3.length + t123.length < 140737488355328 then (entries_bytes.l0 k (x3 ++ t123) x6 x7 (wrap64 (x8 + 1))) else (none))) else (none)) else (none)) else (some x3)
def entries_bytes.f (k : Nat) (l0 : List (S28)) : Option (List Int) := entries_bytes.l0 k ([] : List Int) l0 (l0.length : Int) 0
set_option maxHeartbeats 8000000 in
set_option maxRecDepth 100000 in
theorem entries_bytes.calls (k : Nat) (A0 : Option Addr) (c0 : Nat) (l0 : List (S28)) (r : List Int) (w : World) (hr0 : Kd.C k28 w A0 l0.length l0) (hc0 : l0.length ≤ c0) (h : entries_bytes.f k l0 = some r) :
    Calls Try.prog 33 #[.slice A0 l0.length c0] w fun e w' => ∃ v0_ : Value, e = .returned (v0_) ∧ Kd.R (Kd.int .u8) 5 w' w.heap.size (fun _ => True) v0_ r ∧ Below w.heap.size w w' := by
  have hu28 := Try.underlying28
  have HR0 := Aside0.mk hr0
  have HC0 := Aside0.mk hc0
  clear hr0 hc0
  have HB := Aside0.mk (Below.refl w.heap.size w)
  have H : (entries_bytes.l0 k ([] : List Int) l0 (l0.length : Int) 0) = some r := h
  clear h
  have H' := Aside0.mk H
  clear H
  go_enter Try.func33, Try.ntmps33
  go_wp2
  go_loopg [3, 8] k (fun kq v3 v8 w' => ∃ (x3_1 : List Int) (x8_1 : Int), v8 = .int .i64 x8_1 ∧ Aside0 (entries_bytes.l0 kq x3_1 l0 (l0.length : Int) x8_1 = some r) ∧ Aside0 (kq ≤ k) ∧ Aside0 (Kd.R (Kd.int .u8) 5 w' w.heap.size (fun _ => True) v3 x3_1) ∧ Aside0 (Below w.heap.size w w'))
  case atStart => exact ⟨(([] : List Int)), (0), (by first | rfl | (simp; done) | (simp [*]; done)), H', ⟨Nat.le_refl _⟩, ⟨by first | exact Kd.R_nil _ _ _ _ _ | exact Kd.N_nil _ _ _ _ _ | exact Kd.V_nil _ _ _ _ _ | exact Kd.Q_nil _ _ _ _ _ | exact Kd.S_nil _ _ _ _ _⟩, ⟨by repeat (first | (with_reducible first | exact HB.out | apply below_alloc | apply pw_below_drewN | apply below_drew1) | exact HB.out)⟩⟩
  case round =>
    clear H'
    obtain ⟨x3_1, x8_1, rfl, HA, HK1, HO_3, HB⟩ := hrel
    cases gk with
    | zero => exact absurd HA.out (by simp [entries_bytes.l0])
    | succ k1 =>
      have H := HA.out
      clear HA
      simp only [entries_bytes.l0] at H
      by_cases c2 : x8_1 < (l0.length : Int)
      · rw [if_pos c2] at H
        have c2b0 : decide (x8_1 < (l0.length : Int)) = true := decide_eq_true c2
        clear c2
        by_cases c3 : 0 ≤ x8_1
        · rw [if_pos c3] at H
          have c3b0 : decide (0 ≤ x8_1) = true := decide_eq_true c3
          clear c3
          by_cases c4 : x8_1 < (l0.length : Int)
          · rw [if_pos c4] at H
            have c4b0 : decide (x8_1 < (l0.length : Int)) = true := decide_eq_true c4
            clear c4
            replace H := Option.bind_eq_some_iff.mp H
            obtain ⟨t123, A50, H⟩ := H
            replace H : (if x3_1.length + t123.length < 140737488355328 then (entries_bytes.l0 k1 (x3_1 ++ t123) l0 (l0.length : Int) (wrap64 (x8_1 + 1))) else (none)) = some r := H
            have A5 := Aside0.mk A50
            clear A50
            by_cases c6 : x3_1.length + t123.length < 140737488355328
            · rw [if_pos c6] at H
              have LMc6 := Aside0.mk c6
              clear c6
              obtain ⟨y126, hy126⟩ : ∃ y_ : List Int, y_ = (x3_1 ++ t123) := ⟨_, rfl⟩
              replace H : (entries_bytes.l0 k1 y126 l0 (l0.length : Int) (wrap64 (x8_1 + 1))) = some r := by first | (rw [hy126]; with_reducible exact H) | (have H2_ := (Option.bind_some _ _).symm.trans H; rw [hy126]; with_reducible exact H2_) | (have H2_ := (Option.bind_some _ _).symm.trans H; with_reducible exact H2_) | with_reducible exact H | (rw [hy126]; exact H) | exact H
              have Ny126 := Aside0.mk hy126
              clear hy126
              have H' := Aside0.mk H
              clear H
              have p121 : 0 ≤ (x8_1 : Int) := of_decide_eq_true (by first | (with_reducible assumption) | assumption)
              have q121 : x8_1 < (l0.length : Int) := of_decide_eq_true (by first | (with_reducible assumption) | assumption)
              obtain ⟨ad121, e121, hx121_0, hx121_1⟩ := at_T28 HR0.out x8_1 p121 q121
              cases e121
              replace hx121_0 := (HB.out.cell (World.block_lt_of_cell? w _ hx121_0)).trans hx121_0
              replace hx121_1 := (HB.out.cell (World.block_lt_of_cell? w _ hx121_1)).trans hx121_1
              replace p121 := eq_true p121
              replace q121 := eq_true q121
              go_wp2_with (first | ((with_reducible refine gate_dst (N := 5) rfl ?_); refine box_event ?hg (N := 5) ?hd (cs := #[.string (⟨#[]⟩ : ByteArray), .int .i64 0]) (t := 28) ?hr ?_; (case hd => rfl); (case hg => rfl); (case hr => first | (go_simp; done) | (go_simp; rfl)); intro gb122 hg w7 hbox hb; have n0_ := Aside0.mk (Kd.R_below (by (with_reducible repeat (first | apply Kd.R_alloc | apply Kd.R_drewN | apply Kd.R_drew)); exact HO_3.out) hb); have n1_ := Aside0.mk (below_step (by repeat (first | (with_reducible first | exact HB.out | apply below_alloc | apply pw_below_drewN | apply below_drew1) | exact HB.out)) hb); have n2_ := Aside0.mk (hbox); have n3_ := Aside0.mk ((by rw [hg]; exact (below_size (by repeat (first | (with_reducible first | exact HB.out | apply below_alloc | apply pw_below_drewN | apply below_drew1) | exact HB.out))) : w.heap.size ≤ gb122)); have n4_ := Aside0.mk ((by rw [hg]; exact (below_size (by repeat (first | (with_reducible first | exact HB.out | apply below_alloc | apply pw_below_drewN | apply below_drew1) | exact HB.out))) : w.heap.size ≤ gb122)); clear HO_3; clear HB; have HO_3 := n0_; have HB := n1_; have BK122 := n2_; have GW122 := n3_; have GE122 := n4_; clear n0_ n1_ n2_ n3_ n4_; clear hb hbox hg; have hcz8_0 : w7.cell? ⟨gb122, 0, none⟩ = some (.string (⟨#[]⟩ : ByteArray)) := (blk_cell BK122.out 0).trans rfl; have hcz8_1 : w7.cell? ⟨gb122, 1, none⟩ = some (.int .i64 0) := (blk_cell BK122.out 1).trans rfl; have hfz8_0 := blk_frozen BK122.out 0; have hfz8_1 := blk_frozen BK122.out 1) | ((with_reducible refine gate_callee (f := 37) rfl ?_); refine goesL_ (some 14) rfl rfl Try.func37 (by kernel_rfl) rfl #[.agg #[.string ((rd_T28 l0 x8_1).f0), .int .i64 ((rd_T28 l0 x8_1).f1)]] rfl (by (try simp only [List.map_toArray, List.map_cons, List.map_nil]); first | done | rfl | (simp only [List.length_drop, List.length_take]; rfl)) ?_; (with_reducible refine (entries_piece.calls ((rd_T28 l0 x8_1).f0) ((rd_T28 l0 x8_1).f1) t123 _ A5.out).mono ?_); rintro e w9 ⟨v124, rfl, ho0, hb⟩; refine ⟨_, rfl, ?_⟩; have n0_ := Aside0.mk (Kd.R_elder' (by (with_reducible repeat (first | apply Kd.R_alloc | apply Kd.R_drewN | apply Kd.R_drew)); exact (Kd.R_mono (Kd.R_far (p := ⟨gb122, 1, none⟩) (Kd.R_far (p := ⟨gb122, 0, none⟩) (Kd.R_types HO_3.out BK122.out (by decide)) (fun _ hk => hk.2) (.string ((rd_T28 l0 x8_1).f0))) (fun _ hk => hk.2) (.int .i64 ((rd_T28 l0 x8_1).f1))) (fun _ h_ => h_.1))) (Kd.R_base ho0) hb); have n1_ := Aside0.mk (Kd.R_lower (Kd.R_new' ho0 (Kd.R_lt (by (with_reducible repeat (first | apply Kd.R_alloc | apply Kd.R_drewN | apply Kd.R_drew)); exact (Kd.R_mono (Kd.R_far (p := ⟨gb122, 1, none⟩) (Kd.R_far (p := ⟨gb122, 0, none⟩) (Kd.R_types HO_3.out BK122.out (by decide)) (fun _ hk => hk.2) (.string ((rd_T28 l0 x8_1).f0))) (fun _ hk => hk.2) (.int .i64 ((rd_T28 l0 x8_1).f1))) (fun _ h_ => h_.1))))) (below_size (by repeat (first | (with_reducible first | exact HB.out | apply below_alloc | apply pw_below_drewN | apply below_drew1 | refine below_set ?_ GE122.out) | exact HB.out)))); have n2_ := Aside0.mk (blk_below (g := gb122) (o := .cells #[.string ((rd_T28 l0 x8_1).f0), .int .i64 ((rd_T28 l0 x8_1).f1)] 28 (0, 0)) (by (with_reducible repeat (first | refine blk_drewN ?_ _ | refine blk_drew ?_ | refine blk_alloc ?_ _)); refine blk_put (cs := #[.string ((rd_T28 l0 x8_1).f0), .int .i64 0]) ?_ 1 _ rfl; (with_reducible repeat (first | refine blk_drewN ?_ _ | refine blk_drew ?_ | refine blk_alloc ?_ _)); refine blk_put (cs := #[.string (⟨#[]⟩ : ByteArray), .int .i64 0]) ?_ 0 _ rfl; (with_reducible repeat (first | refine blk_drewN ?_ _ | refine blk_drew ?_ | refine blk_alloc ?_ _)); exact BK122.out) hb); have n3_ := Aside0.mk (below_step (by repeat (first | (with_reducible first | exact HB.out | apply below_alloc | apply pw_below_drewN | apply below_drew1 | refine below_set ?_ GE122.out) | exact HB.out)) hb); clear HO_3; clear BK122; clear HB; have HO_3 := n0_; have HO125 := n1_; have BK122 := n2_; have HB := n3_; clear n0_ n1_ n2_ n3_; (try clear hb); (try clear hb2); (try clear hk); (try clear hi); (try clear ho0); obtain ⟨Ao11, co11, eo11⟩ := Kd.R_slice HO125.out; subst eo11) | ((with_reducible refine gate_builtin (b := .append) (xs := #[.tmp 12, .tmp 14]) rfl ?_); at_builtin; refine Kd.R_append_rows (Kd.int .u8) (w0 := w) w.heap.size rfl (.tmp 12) (.tmp 14) 23 5 (.int .u8 0) 1 rfl Try.underlying23 info5 rfl (by decide) (by omega) u3 x3_1 t123 _ _ _ (fun k_ => some k_ ≠ (.slice Ao11 t123.length co11 : Value).ownBlock) (fun _ => False) rfl rfl ?aO ?aR (fun _ _ h => h) (fun _ h => h.elim) ?aF ?aB ?aS ?aL ?_; (case aR => repeat (first | exact (Kd.R_reads' HO125.out).2.2 | (with_reducible refine Kd.C_alloc ?_ _) | (with_reducible refine Kd.C_drewN ?_ _) | (with_reducible refine Kd.C_drew ?_))); (case aB => exact (by repeat (first | (with_reducible first | exact HB.out | apply below_alloc | apply pw_below_drewN | apply below_drew1 | refine below_set ?_ GE122.out) | exact HB.out))); (case aF => exact (fun k_ hk => Kd.fresh' (Kd.R_lt (by (with_reducible repeat (first | apply Kd.R_alloc | apply Kd.R_drewN | apply Kd.R_drew)); exact HO125.out)) k_ hk)); (case aO => exact (by (with_reducible repeat (first | apply Kd.R_alloc | apply Kd.R_drewN | apply Kd.R_drew)); exact Kd.R_mono HO_3.out (fun _ hk => hk.2))); (case aS => exact (below_size (by repeat (first | (with_reducible first | exact HB.out | apply below_alloc | apply pw_below_drewN | apply below_drew1 | refine below_set ?_ GE122.out) | exact HB.out)))); (case aL => have := LMc6.out; omega); intro v127 w10 ho hb hg hat; rw [← Ny126.out] at ho; have n0_ := Aside0.mk (blk_grown (g := gb122) (o := .cells #[.string ((rd_T28 l0 x8_1).f0), .int .i64 ((rd_T28 l0 x8_1).f1)] 28 (0, 0)) (by (with_reducible repeat (first | refine blk_drewN ?_ _ | refine blk_drew ?_ | refine blk_alloc ?_ _)); exact BK122.out) hg (Kd.R_ne HO_3.out BK122.out (by decide))); have n1_ := Aside0.mk (Kd.R_after (ok := (fun _ => True)) (by (with_reducible repeat (first | apply Kd.R_alloc | apply Kd.R_drewN | apply Kd.R_drew)); exact HO125.out) hg hat); have n2_ := Aside0.mk (hb); have n3_ := Aside0.mk (ho); clear BK122; clear HO125; clear HB; clear HO_3; have BK122 := n0_; have HO125 := n1_; have HB := n2_; have HO128 := n3_; clear n0_ n1_ n2_ n3_; clear ho hb hg hat))
              go_roundg k1
              case measure => have := HK1.out; omega
              case rel => exact ⟨(y126), (wrap64 (x8_1 + 1)), (by first | rfl | (simp; done) | (simp [*]; done)), H', ⟨by have := HK1.out; omega⟩, ⟨by (with_reducible repeat (first | apply Kd.R_alloc | apply Kd.R_drewN | apply Kd.R_drew)); exact Kd.R_mono HO128.out (fun _ hk => trivial)⟩, ⟨by repeat (first | (with_reducible first | exact HB.out | apply below_alloc | apply pw_below_drewN | apply below_drew1 | refine below_set ?_ GE122.out) | exact HB.out)⟩⟩
            · rw [if_neg c6] at H
              exact absurd H (by simp)
          · rw [if_neg c4] at H
            exact absurd H (by simp)
        · rw [if_neg c3] at H
          exact absurd H (by simp)
      · rw [if_neg c2] at H
        have c2b0 : decide (x8_1 < (l0.length : Int)) = false := decide_eq_false c2
        clear c2
        obtain rfl := Option.some.inj H
        go_wp2
        go_ret
        exact ⟨_, by first | rfl | (simp [errW_none, errW_some] <;> rfl) | (simp [*, errW_none, errW_some] <;> rfl), by (with_reducible repeat (first | apply Kd.R_alloc | apply Kd.R_drewN | apply Kd.R_drew)); exact HO_3.out, by repeat (first | (with_reducible first | exact HB.out | apply below_alloc | apply pw_below_drewN | apply below_drew1) | exact HB.out)⟩

end Go.Proofs.Ytkkflgdobgbmmaa.Q
end
section
namespace Go.Proofs.Ytkkflgdobgbmmaa.Q
open Go.RowKit Go.Proofs.YtkkflgdobgbmmaaW.PrintWords Go.Proofs.YtkkflgdobgbmmaaW.PrintLast Go.Proofs.YtkkflgdobgbmmaaW.PrintMore
attribute [local go_sem] max2_int min2_int max_two min_two max_three min_three max_four min_four   -- for this text's walks alone
set_option linter.unusedVariables false
set_option linter.unusedSimpArgs false

/-! ### entries_Insert_lit1: function 32 -/
def entries_Insert_lit1.f (a0_0 : ByteArray) (a0_1 : Int) : Option (Bool) := some (a0_1 == 0)
set_option maxHeartbeats 8000000 in
set_option maxRecDepth 100000 in
theorem entries_Insert_lit1.calls (a0_0 : ByteArray) (a0_1 : Int) (r : Bool) (w : World) (h : entries_Insert_lit1.f a0_0 a0_1 = some r) :
    Calls Try.prog 32 #[.agg #[.string a0_0, .int .i64 a0_1]] w fun e w' => e = .returned (.bool r) ∧ Below w.heap.size w w' := by
  have hu28 := Try.underlying28
  have HB := Aside0.mk (Below.refl w.heap.size w)
  have H : (some (a0_1 == 0)) = some r := h
  clear h
  obtain rfl := Option.some.inj H
  go_enter Try.func32, Try.ntmps32
  go_wp2_with (first | ((with_reducible refine gate_dst (N := 1) rfl ?_); refine box_event ?hg (N := 1) ?hd (cs := #[.string a0_0, .int .i64 a0_1]) (t := 28) ?hr ?_; (case hd => rfl); (case hg => rfl); (case hr => first | (go_simp; done) | (go_simp; rfl)); intro gb129 hg w2 hbox hb; have n0_ := Aside0.mk (below_step (by repeat (first | (with_reducible first | exact HB.out | apply below_alloc | apply pw_below_drewN | apply below_drew1) | exact HB.out)) hb); have n1_ := Aside0.mk (hbox); have n2_ := Aside0.mk ((by rw [hg]; exact (below_size (by repeat (first | (with_reducible first | exact HB.out | apply below_alloc | apply pw_below_drewN | apply below_drew1) | exact HB.out))) : w.heap.size ≤ gb129)); have n3_ := Aside0.mk ((by rw [hg]; exact (below_size (by repeat (first | (with_reducible first | exact HB.out | apply below_alloc | apply pw_below_drewN | apply below_drew1) | exact HB.out))) : w.heap.size ≤ gb129)); clear HB; have HB := n0_; have BK129 := n1_; have GW129 := n2_; have GE129 := n3_; clear n0_ n1_ n2_ n3_; clear hb hbox hg; have hcz3_0 : w2.cell? ⟨gb129, 0, none⟩ = some (.string a0_0) := (blk_cell BK129.out 0).trans rfl; have hcz3_1 : w2.cell? ⟨gb129, 1, none⟩ = some (.int .i64 a0_1) := (blk_cell BK129.out 1).trans rfl; have hfz3_0 := blk_frozen BK129.out 0; have hfz3_1 := blk_frozen BK129.out 1))
  go_ret
  exact ⟨by first | rfl | (simp [errW_none, errW_some] <;> rfl) | (simp [*, errW_none, errW_some] <;> rfl), by repeat (first | (with_reducible first | exact HB.out | apply below_alloc | apply pw_below_drewN | apply below_drew1 | refine below_set ?_ GE129.out) | exact HB.out)⟩

end Go.Proofs.Ytkkflgdobgbmmaa.Q
end
section
namespace Go.Proofs.Ytkkflgdobgbmmaa.Q
open Go.RowKit Go.Proofs.YtkkflgdobgbmmaaW.PrintWords Go.Proofs.YtkkflgdobgbmmaaW.PrintLast Go.Proofs.YtkkflgdobgbmmaaW.PrintMore
attribute [local go_sem] max2_int min2_int max_two min_two max_three min_three max_four min_four   -- for this text's walks alone
set_option linter.unusedVariables false
set_option linter.unusedSimpArgs false

/-! ### entries_Entry_31_at_entries_Insert_lit1: function 77 -/
def entries_Entry_31_at_entries_Insert_lit1.l0 : Nat → List (S28) → Int → Int → Option (Int)
  | 0, _, _, _ => none
  | k + 1, x0, x7, x8 => if x8 < x7 then (if 0 ≤ x8 then (if x8 < (x0.length : Int) then ((entries_Insert_lit1.f ((rd_T28 x0 x8).f0) ((rd_T28 x0 x8).f1)).bind fun t131 => (if t131 = true then (some x8) else (entries_Entry_31_at_entries_Insert_lit1.l0 k x0 x7 (wrap64 (x8 + 1))))) else (none)) else (none)) else (some (-1))
def entries_Entry_31_at_entries_Insert_lit1.f (k : Nat) (l0 : List (S28)) : Option (Int) := entries_Entry_31_at_entries_Insert_lit1.l0 k l0 (l0.length : Int) 0
set_option maxHeartbeats 8000000 in
set_option maxRecDepth 100000 in
theorem entries_Entry_31_at_entries_Insert_lit1.calls (k : Nat) (A0 : Option Addr) (c0 : Nat) (l0 : List (S28)) (r : Int) (w : World) (hr0 : Kd.C k28 w A0 l0.length l0) (hc0 : l0.length ≤ c0) (h : entries_Entry_31_at_entries_Insert_lit1.f k l0 = some r) :
    Calls Try.prog 31 #[.slice A0 l0.length c0, .func (.func 32) #[] #[]] w fun e w' => e = .returned (.int .i64 r) ∧ Below w.heap.size w w' := by
  have hu28 := Try.underlying28
  have HR0 := Aside0.mk hr0
  have HC0 := Aside0.mk hc0
  clear hr0 hc0
  have HB := Aside0.mk (Below.refl w.heap.size w)
  have H : (entries_Entry_31_at_entries_Insert_lit1.l0 k l0 (l0.length : Int) 0) = some r := h
  clear h
  have H' := Aside0.mk H
  clear H
  go_enter Try.func31, Try.ntmps31
  go_wp2
  go_loopg [8] k (fun kq v8 w' => ∃ (x8_1 : Int), v8 = .int .i64 x8_1 ∧ Aside0 (entries_Entry_31_at_entries_Insert_lit1.l0 kq l0 (l0.length : Int) x8_1 = some r) ∧ Aside0 (kq ≤ k) ∧ Aside0 (Below w.heap.size w w'))
  case atStart => exact ⟨(0), (by first | rfl | (simp; done) | (simp [*]; done)), H', ⟨Nat.le_refl _⟩, ⟨by repeat (first | (with_reducible first | exact HB.out | apply below_alloc | apply pw_below_drewN | apply below_drew1) | exact HB.out)⟩⟩
  case round =>
    clear H'
    obtain ⟨x8_1, rfl, HA, HK1, HB⟩ := hrel
    cases gk with
    | zero => exact absurd HA.out (by simp [entries_Entry_31_at_entries_Insert_lit1.l0])
    | succ k1 =>
      have H := HA.out
      clear HA
      simp only [entries_Entry_31_at_entries_Insert_lit1.l0] at H
      by_cases c2 : x8_1 < (l0.length : Int)
      · rw [if_pos c2] at H
        have c2b0 : decide (x8_1 < (l0.length : Int)) = true := decide_eq_true c2
        clear c2
        by_cases c3 : 0 ≤ x8_1
        · rw [if_pos c3] at H
          have c3b0 : decide (0 ≤ x8_1) = true := decide_eq_true c3
          clear c3
          by_cases c4 : x8_1 < (l0.length : Int)
          · rw [if_pos c4] at H
            have c4b0 : decide (x8_1 < (l0.length : Int)) = true := decide_eq_true c4
            clear c4
            replace H := Option.bind_eq_some_iff.mp H
            obtain ⟨t131, A50, H⟩ := H
            replace H : (if t131 = true then (some x8_1) else (entries_Entry_31_at_entries_Insert_lit1.l0 k1 l0 (l0.length : Int) (wrap64 (x8_1 + 1)))) = some r := H
            have A5 := Aside0.mk A50
            clear A50
            by_cases c6 : t131 = true
            · subst c6
              have H1 : (some x8_1) = some r := by rw [if_pos rfl] at H; exact H
              clear H
              have H := H1
              clear H1
              obtain rfl := Option.some.inj H
              have p130 : 0 ≤ (x8_1 : Int) := of_decide_eq_true (by first | (with_reducible assumption) | assumption)
              have q130 : x8_1 < (l0.length : Int) := of_decide_eq_true (by first | (with_reducible assumption) | assumption)
              obtain ⟨ad130, e130, hx130_0, hx130_1⟩ := at_T28 HR0.out x8_1 p130 q130
              cases e130
              replace hx130_0 := (HB.out.cell (World.block_lt_of_cell? w _ hx130_0)).trans hx130_0
              replace hx130_1 := (HB.out.cell (World.block_lt_of_cell? w _ hx130_1)).trans hx130_1
              replace p130 := eq_true p130
              replace q130 := eq_true q130
              go_wp2_with (first | (go_at_call 32; (with_reducible refine (entries_Insert_lit1.calls ((rd_T28 l0 x8_1).f0) ((rd_T28 l0 x8_1).f1) true _ A5.out).mono ?_); rintro e w7 ⟨rfl, hb⟩; have n0_ := Aside0.mk (below_step (by repeat (first | (with_reducible first | exact HB.out | apply below_alloc | apply pw_below_drewN | apply below_drew1) | exact HB.out)) hb); clear HB; have HB := n0_; clear n0_; (try clear hb); (try clear hb2); (try clear hk); (try clear hi)))
              go_ret
              exact ⟨by first | rfl | (simp [errW_none, errW_some] <;> rfl) | (simp [*, errW_none, errW_some] <;> rfl), by repeat (first | (with_reducible first | exact HB.out | apply below_alloc | apply pw_below_drewN | apply below_drew1) | exact HB.out)⟩
            · replace c6 := Bool.eq_false_iff.mpr c6
              subst c6
              have H1 : (entries_Entry_31_at_entries_Insert_lit1.l0 k1 l0 (l0.length : Int) (wrap64 (x8_1 + 1))) = some r := by rw [if_neg (show ¬ (false = true) by decide)] at H; exact H
              clear H
              have H := H1
              clear H1
              have H' := Aside0.mk H
              clear H
              have p130 : 0 ≤ (x8_1 : Int) := of_decide_eq_true (by first | (with_reducible assumption) | assumption)
              have q130 : x8_1 < (l0.length : Int) := of_decide_eq_true (by first | (with_reducible assumption) | assumption)
              obtain ⟨ad130, e130, hx130_0, hx130_1⟩ := at_T28 HR0.out x8_1 p130 q130
              cases e130
              replace hx130_0 := (HB.out.cell (World.block_lt_of_cell? w _ hx130_0)).trans hx130_0
              replace hx130_1 := (HB.out.cell (World.block_lt_of_cell? w _ hx130_1)).trans hx130_1
              replace p130 := eq_true p130
              replace q130 := eq_true q130
              go_wp2_with (first | (go_at_call 32; (with_reducible refine (entries_Insert_lit1.calls ((rd_T28 l0 x8_1).f0) ((rd_T28 l0 x8_1).f1) false _ A5.out).mono ?_); rintro e w8 ⟨rfl, hb⟩; have n0_ := Aside0.mk (below_step (by repeat (first | (with_reducible first | exact HB.out | apply below_alloc | apply pw_below_drewN | apply below_drew1) | exact HB.out)) hb); clear HB; have HB := n0_; clear n0_; (try clear hb); (try clear hb2); (try clear hk); (try clear hi)))
              go_roundg k1
              case measure => have := HK1.out; omega
              case rel => exact ⟨(wrap64 (x8_1 + 1)), (by first | rfl | (simp; done) | (simp [*]; done)), H', ⟨by have := HK1.out; omega⟩, ⟨by repeat (first | (with_reducible first | exact HB.out | apply below_alloc | apply pw_below_drewN | apply below_drew1) | exact HB.out)⟩⟩
          · rw [if_neg c4] at H
            exact absurd H (by simp)
        · rw [if_neg c3] at H
          exact absurd H (by simp)
      · rw [if_neg c2] at H
        have c2b0 : decide (x8_1 < (l0.length : Int)) = false := decide_eq_false c2
        clear c2
        obtain rfl := Option.some.inj H
        go_wp2
        go_ret
        exact ⟨by first | rfl | (simp [errW_none, errW_some] <;> rfl) | (simp [*, errW_none, errW_some] <;> rfl), by repeat (first | (with_reducible first | exact HB.out | apply below_alloc | apply pw_below_drewN | apply below_drew1) | exact HB.out)⟩

end Go.Proofs.Ytkkflgdobgbmmaa.Q
end
