/- EntriesLists: for every input the statement's function returns true; there is no further condition. Text 5 of 8: this session's texts, and of the words that print.sh has printed those that are needed, laid together by its own program (merge.py). Not trusted: Lean checks them. -/
import Derived.Test.YtkkflgdobgbmmaaMEntriesLists2
import Derived.Test.YtkkflgdobgbmmaaMEntriesLists3
import Derived.Laws.RangeAny
import Derived.Lib.OthersKept
import Derived.Lib.Bytealg
import Derived.WalkMore
import Derived.ScopeJumps
import Derived.Shelf.Strings.IndexAnyAll
section
namespace Go.Proofs.Ytkkflgdobgbmmaa.Q
open Go.RowKit Go.Proofs.YtkkflgdobgbmmaaW.PrintWords Go.Proofs.YtkkflgdobgbmmaaW.PrintLast Go.Proofs.YtkkflgdobgbmmaaW.PrintMore
attribute [local go_sem] max2_int min2_int max_two min_two max_three min_three max_four min_four   -- for this text's walks alone
set_option linter.unusedVariables false
set_option linter.unusedSimpArgs false

/-! ### reliquaryref22_Read: function 26 -/
mutual
def reliquaryref22_Read.l0 : Nat → ByteArray → List (S30) → Int → Option ((List (S30)) × Int)
  | 0, _, _, _ => none
  | k + 1, x0, x4, x5 => if x5 < (x0.size : Int) then (if 0 ≤ x5 then (if 0 ≤ (wrap64 (x5 + 1)) then (if (wrap64 (x5 + 1)) < (x0.size : Int) then (if 0 ≤ (wrap64 (x5 + 2)) then (if (wrap64 (x5 + 2)) < (x0.size : Int) then (if (wrap64 (bt x0 (wrap64 (x5 + 2)))) > 24 then (reliquaryref22_Read.j1 k x0 x4 x5 (wrap64 ((wrap64 (bt x0 x5)) + (wrap64 (256 * (wrap64 (bt x0 (wrap64 (x5 + 1)))))))) (wrap64 (bt x0 (wrap64 (x5 + 2)))) true) else (if (wrap64 ((wrap64 (bt x0 x5)) + (wrap64 (256 * (wrap64 (bt x0 (wrap64 (x5 + 1)))))))) = 0 then (if (wrap64 (bt x0 (wrap64 (x5 + 2)))) > 0 then (reliquaryref22_Read.j1 k x0 x4 x5 (wrap64 ((wrap64 (bt x0 x5)) + (wrap64 (256 * (wrap64 (bt x0 (wrap64 (x5 + 1)))))))) (wrap64 (bt x0 (wrap64 (x5 + 2)))) true) else (if (wrap64 ((wrap64 (bt x0 x5)) + (wrap64 (256 * (wrap64 (bt x0 (wrap64 (x5 + 1)))))))) > 0 then (reliquaryref22_Read.j1 k x0 x4 x5 (wrap64 ((wrap64 (bt x0 x5)) + (wrap64 (256 * (wrap64 (bt x0 (wrap64 (x5 + 1)))))))) (wrap64 (bt x0 (wrap64 (x5 + 2)))) ((wrap64 (bt x0 (wrap64 (x5 + 2)))) == 0)) else (reliquaryref22_Read.j1 k x0 x4 x5 (wrap64 ((wrap64 (bt x0 x5)) + (wrap64 (256 * (wrap64 (bt x0 (wrap64 (x5 + 1)))))))) (wrap64 (bt x0 (wrap64 (x5 + 2)))) false))) else (if (wrap64 ((wrap64 (bt x0 x5)) + (wrap64 (256 * (wrap64 (bt x0 (wrap64 (x5 + 1)))))))) > 0 then (reliquaryref22_Read.j1 k x0 x4 x5 (wrap64 ((wrap64 (bt x0 x5)) + (wrap64 (256 * (wrap64 (bt x0 (wrap64 (x5 + 1)))))))) (wrap64 (bt x0 (wrap64 (x5 + 2)))) ((wrap64 (bt x0 (wrap64 (x5 + 2)))) == 0)) else (reliquaryref22_Read.j1 k x0 x4 x5 (wrap64 ((wrap64 (bt x0 x5)) + (wrap64 (256 * (wrap64 (bt x0 (wrap64 (x5 + 1)))))))) (wrap64 (bt x0 (wrap64 (x5 + 2)))) false)))) else (none)) else (none)) else (none)) else (none)) else (none)) else (some (x4, 0))
def reliquaryref22_Read.j1 : Nat → ByteArray → List (S30) → Int → Int → Int → Bool → Option ((List (S30)) × Int)
  | 0, _, _, _, _, _, _ => none
  | k + 1, x0, x4, x5, x6, x7, x52 => if x52 = true then (some (([] : List (S30)), 11)) else (if 0 ≤ (wrap64 (x5 + 3)) then (if (wrap64 (x5 + 3)) ≤ (wrap64 ((wrap64 (x5 + 3)) + x7)) then (if (wrap64 ((wrap64 (x5 + 3)) + x7)) ≤ (x0.size : Int) then ((reliquaryref22_Piece.f k (x0.extract ((wrap64 (x5 + 3)) : Int).toNat ((wrap64 ((wrap64 (x5 + 3)) + x7)) : Int).toNat) x6).bind fun t212 => (if 0 ≤ x5 then (if x5 ≤ (wrap64 (x5 + 32)) then (if (wrap64 (x5 + 32)) ≤ (x0.size : Int) then (if t212.toList = (x0.extract (x5 : Int).toNat ((wrap64 (x5 + 32)) : Int).toNat).toList then (if x6 > 0 then ((reliquaryref22_Find.f k x4 (x0.extract ((wrap64 (x5 + 3)) : Int).toNat ((wrap64 ((wrap64 (x5 + 3)) + x7)) : Int).toNat)).bind fun t213 => (if t213 ≥ 0 then (some (([] : List (S30)), 11)) else (if x4.length < 5864062014805 then (reliquaryref22_Read.l0 k x0 (x4 ++ [(⟨x0.extract ((wrap64 (x5 + 3)) : Int).toNat ((wrap64 ((wrap64 (x5 + 3)) + x7)) : Int).toNat, x6⟩ : S30)]) (wrap64 (x5 + 32))) else (none)))) else (if x4.length < 5864062014805 then (reliquaryref22_Read.l0 k x0 (x4 ++ [(⟨x0.extract ((wrap64 (x5 + 3)) : Int).toNat ((wrap64 ((wrap64 (x5 + 3)) + x7)) : Int).toNat, x6⟩ : S30)]) (wrap64 (x5 + 32))) else (none))) else (some (([] : List (S30)), 11))) else (none)) else (none)) else (none))) else (none)) else (none)) else (none))
end
def reliquaryref22_Read.f (k : Nat) (a0 : ByteArray) : Option ((List (S30)) × Int) := if ((a0.size : Int) % 32) > 0 then (some (([] : List (S30)), 11)) else (reliquaryref22_Read.l0 k a0 ([] : List (S30)) 0)
def reliquaryref22_Read.T7 : Bool × List (List Nat × List Nat) := (true, [([], []), ([], []), ([0, 1], [0, 1]), ([2], [2]), ([], []), ([], []), ([5], [5]), ([4, 6], [4, 6]), ([7], [7]), ([8], [8]), ([3, 9], [3, 9]), ([10, 0, 1, 2, 3, 4, 5, 6, 7, 8, 9, 10], [10])])
def reliquaryref22_Read.B7 : List Nat := [0, 0, 3, 7, 0, 0, 32, 112, 240, 496, 1023, 2047]
theorem reliquaryref22_Read.tab7 : rtab .any (opsOf Try.f26 7) = reliquaryref22_Read.T7 := by kernel_rfl
theorem reliquaryref22_Read.bits7 : waitsOk reliquaryref22_Read.T7.2 reliquaryref22_Read.B7 = true := by kernel_rfl
def reliquaryref22_Read.T12 : Bool × List (List Nat × List Nat) := (true, [([], []), ([0], [0]), ([], []), ([], []), ([], []), ([4], [4]), ([2, 3, 5], [2, 3, 5]), ([1, 6], [1, 6])])
def reliquaryref22_Read.B12 : List Nat := [0, 1, 0, 0, 0, 16, 60, 127]
theorem reliquaryref22_Read.tab12 : rtab .any (opsOf Try.f26 12) = reliquaryref22_Read.T12 := by kernel_rfl
theorem reliquaryref22_Read.bits12 : waitsOk reliquaryref22_Read.T12.2 reliquaryref22_Read.B12 = true := by kernel_rfl
set_option maxHeartbeats 8000000 in
set_option maxRecDepth 100000 in
theorem reliquaryref22_Read.calls (k : Nat) (a0 : ByteArray) (r1 : List (S30)) (r2 : Int) (w : World) (h : reliquaryref22_Read.f k a0 = some (r1, r2)) :
    Calls Try.prog 26 #[.string a0] w fun e w' => ∃ v0_ : Value, e = .returned (.tuple #[v0_, .int .i64 r2]) ∧ Kd.R k30 30 w' w.heap.size (fun _ => True) v0_ r1 ∧ Below w.heap.size w w' := by
  have hu30 := Try.underlying30
  have HB := Aside0.mk (Below.refl w.heap.size w)
  have H : (if ((a0.size : Int) % 32) > 0 then (some (([] : List (S30)), 11)) else (reliquaryref22_Read.l0 k a0 ([] : List (S30)) 0)) = some (r1, r2) := h
  clear h
  by_cases c2 : ((a0.size : Int) % 32) > 0
  · rw [if_pos c2] at H
    have c2b0 : decide (0 < ((a0.size : Int) % 32)) = true := decide_eq_true c2
    clear c2
    simp only [Option.some.injEq, Prod.mk.injEq] at H
    obtain ⟨rfl, rfl⟩ := H
    go_enter Try.func26, Try.ntmps26
    go_wp2
    go_ret2
    exact ⟨_, by first | rfl | (simp [errW_none, errW_some] <;> rfl) | (simp [*, errW_none, errW_some] <;> rfl), by first | exact Kd.R_nil _ _ _ _ _ | exact Kd.N_nil _ _ _ _ _ | exact Kd.V_nil _ _ _ _ _ | exact Kd.Q_nil _ _ _ _ _ | exact Kd.S_nil _ _ _ _ _, by repeat (first | (with_reducible first | exact HB.out | apply below_alloc | apply pw_below_drewN | apply below_drew1) | exact HB.out)⟩
  · rw [if_neg c2] at H
    have c2b0 : decide (0 < ((a0.size : Int) % 32)) = false := decide_eq_false c2
    clear c2
    have H' := Aside0.mk H
    clear H
    go_enter Try.func26, Try.ntmps26
    go_wp2
    go_loopg [4, 5] k (fun kq v4 v5 w' => ∃ (x4_1 : List (S30)) (x5_1 : Int), v5 = .int .i64 x5_1 ∧ Aside0 (reliquaryref22_Read.l0 kq a0 x4_1 x5_1 = some (r1, r2)) ∧ Aside0 (kq ≤ k) ∧ Aside0 (Kd.R k30 30 w' w.heap.size (fun _ => True) v4 x4_1) ∧ Aside0 (Below w.heap.size w w'))
    case atStart => exact ⟨(([] : List (S30))), (0), (by first | rfl | (simp; done) | (simp [*]; done)), H', ⟨Nat.le_refl _⟩, ⟨by first | exact Kd.R_nil _ _ _ _ _ | exact Kd.N_nil _ _ _ _ _ | exact Kd.V_nil _ _ _ _ _ | exact Kd.Q_nil _ _ _ _ _ | exact Kd.S_nil _ _ _ _ _⟩, ⟨by repeat (first | (with_reducible first | exact HB.out | apply below_alloc | apply pw_below_drewN | apply below_drew1) | exact HB.out)⟩⟩
    case round =>
      clear H'
      try clear c2
      try clear c2b0
      try clear p2
      obtain ⟨x4_1, x5_1, rfl, HA, HK1, HO_4, HB⟩ := hrel
      cases gk with
      | zero => exact absurd HA.out (by simp [reliquaryref22_Read.l0])
      | succ k1 =>
        have H := HA.out
        clear HA
        simp only [reliquaryref22_Read.l0] at H
        by_cases c3 : x5_1 < (a0.size : Int)
        · rw [if_pos c3] at H
          have c3b0 : decide (x5_1 < (a0.size : Int)) = true := decide_eq_true c3
          clear c3
          by_cases c4 : 0 ≤ x5_1
          · rw [if_pos c4] at H
            have c4b0 : decide (0 ≤ x5_1) = true := decide_eq_true c4
            clear c4
            obtain ⟨ji6, hji6⟩ : ∃ j_ : Int, (wrap64 (x5_1 + 1)) = j_ := ⟨_, rfl⟩
            replace H : (if 0 ≤ (ji6) then (if (ji6) < (a0.size : Int) then (if 0 ≤ (wrap64 (x5_1 + 2)) then (if (wrap64 (x5_1 + 2)) < (a0.size : Int) then (if (wrap64 (bt a0 (wrap64 (x5_1 + 2)))) > 24 then (reliquaryref22_Read.j1 k1 a0 x4_1 x5_1 (wrap64 ((wrap64 (bt a0 x5_1)) + (wrap64 (256 * (wrap64 (bt a0 (ji6))))))) (wrap64 (bt a0 (wrap64 (x5_1 + 2)))) true) else (if (wrap64 ((wrap64 (bt a0 x5_1)) + (wrap64 (256 * (wrap64 (bt a0 (ji6))))))) = 0 then (if (wrap64 (bt a0 (wrap64 (x5_1 + 2)))) > 0 then (reliquaryref22_Read.j1 k1 a0 x4_1 x5_1 (wrap64 ((wrap64 (bt a0 x5_1)) + (wrap64 (256 * (wrap64 (bt a0 (ji6))))))) (wrap64 (bt a0 (wrap64 (x5_1 + 2)))) true) else (if (wrap64 ((wrap64 (bt a0 x5_1)) + (wrap64 (256 * (wrap64 (bt a0 (ji6))))))) > 0 then (reliquaryref22_Read.j1 k1 a0 x4_1 x5_1 (wrap64 ((wrap64 (bt a0 x5_1)) + (wrap64 (256 * (wrap64 (bt a0 (ji6))))))) (wrap64 (bt a0 (wrap64 (x5_1 + 2)))) ((wrap64 (bt a0 (wrap64 (x5_1 + 2)))) == 0)) else (reliquaryref22_Read.j1 k1 a0 x4_1 x5_1 (wrap64 ((wrap64 (bt a0 x5_1)) + (wrap64 (256 * (wrap64 (bt a0 (ji6))))))) (wrap64 (bt a0 (wrap64 (x5_1 + 2)))) false))) else (if (wrap64 ((wrap64 (bt a0 x5_1)) + (wrap64 (256 * (wrap64 (bt a0 (ji6))))))) > 0 then (reliquaryref22_Read.j1 k1 a0 x4_1 x5_1 (wrap64 ((wrap64 (bt a0 x5_1)) + (wrap64 (256 * (wrap64 (bt a0 (ji6))))))) (wrap64 (bt a0 (wrap64 (x5_1 + 2)))) ((wrap64 (bt a0 (wrap64 (x5_1 + 2)))) == 0)) else (reliquaryref22_Read.j1 k1 a0 x4_1 x5_1 (wrap64 ((wrap64 (bt a0 x5_1)) + (wrap64 (256 * (wrap64 (bt a0 (ji6))))))) (wrap64 (bt a0 (wrap64 (x5_1 + 2)))) false)))) else (none)) else (none)) else (none)) else (none)) = some (r1, r2) := by first | (rw [hji6] at H; exact H) | (simp only [hji6] at H ⊢; exact H)
            have hji6w : (IntKind.i64.wrap (x5_1 + 1)) = ji6 := (i64_w _).trans hji6
            by_cases c7 : 0 ≤ (ji6)
            · rw [if_pos c7] at H
              have c7b0 : decide (0 ≤ (ji6)) = true := decide_eq_true c7
              clear c7
              by_cases c8 : (ji6) < (a0.size : Int)
              · rw [if_pos c8] at H
                have c8b0 : decide ((ji6) < (a0.size : Int)) = true := decide_eq_true c8
                clear c8
                obtain ⟨ji10, hji10⟩ : ∃ j_ : Int, (wrap64 (x5_1 + 2)) = j_ := ⟨_, rfl⟩
                replace H : (if 0 ≤ (ji10) then (if (ji10) < (a0.size : Int) then (if (wrap64 (bt a0 (ji10))) > 24 then (reliquaryref22_Read.j1 k1 a0 x4_1 x5_1 (wrap64 ((wrap64 (bt a0 x5_1)) + (wrap64 (256 * (wrap64 (bt a0 (ji6))))))) (wrap64 (bt a0 (ji10))) true) else (if (wrap64 ((wrap64 (bt a0 x5_1)) + (wrap64 (256 * (wrap64 (bt a0 (ji6))))))) = 0 then (if (wrap64 (bt a0 (ji10))) > 0 then (reliquaryref22_Read.j1 k1 a0 x4_1 x5_1 (wrap64 ((wrap64 (bt a0 x5_1)) + (wrap64 (256 * (wrap64 (bt a0 (ji6))))))) (wrap64 (bt a0 (ji10))) true) else (if (wrap64 ((wrap64 (bt a0 x5_1)) + (wrap64 (256 * (wrap64 (bt a0 (ji6))))))) > 0 then (reliquaryref22_Read.j1 k1 a0 x4_1 x5_1 (wrap64 ((wrap64 (bt a0 x5_1)) + (wrap64 (256 * (wrap64 (bt a0 (ji6))))))) (wrap64 (bt a0 (ji10))) ((wrap64 (bt a0 (ji10))) == 0)) else (reliquaryref22_Read.j1 k1 a0 x4_1 x5_1 (wrap64 ((wrap64 (bt a0 x5_1)) + (wrap64 (256 * (wrap64 (bt a0 (ji6))))))) (wrap64 (bt a0 (ji10))) false))) else (if (wrap64 ((wrap64 (bt a0 x5_1)) + (wrap64 (256 * (wrap64 (bt a0 (ji6))))))) > 0 then (reliquaryref22_Read.j1 k1 a0 x4_1 x5_1 (wrap64 ((wrap64 (bt a0 x5_1)) + (wrap64 (256 * (wrap64 (bt a0 (ji6))))))) (wrap64 (bt a0 (ji10))) ((wrap64 (bt a0 (ji10))) == 0)) else (reliquaryref22_Read.j1 k1 a0 x4_1 x5_1 (wrap64 ((wrap64 (bt a0 x5_1)) + (wrap64 (256 * (wrap64 (bt a0 (ji6))))))) (wrap64 (bt a0 (ji10))) false)))) else (none)) else (none)) = some (r1, r2) := by first | (rw [hji10] at H; exact H) | (simp only [hji10] at H ⊢; exact H)
                have hji10w : (IntKind.i64.wrap (x5_1 + 2)) = ji10 := (i64_w _).trans hji10
                by_cases c11 : 0 ≤ (ji10)
                · rw [if_pos c11] at H
                  have c11b0 : decide (0 ≤ (ji10)) = true := decide_eq_true c11
                  clear c11
                  by_cases c12 : (ji10) < (a0.size : Int)
                  · rw [if_pos c12] at H
                    have c12b0 : decide ((ji10) < (a0.size : Int)) = true := decide_eq_true c12
                    clear c12
                    have HC14 := Aside0.mk H
                    clear H
                    try go_wp2
                    have n0_ := Aside0.mk (Kd.R_drew HO_4.out)
                    have n1_ := Aside0.mk (below_drew1 HB.out)
                    clear HO_4
                    clear HB
                    have HO_4 := n0_
                    have HB := n1_
                    clear n0_ n1_
                    have p5 : 0 ≤ (x5_1 : Int) := of_decide_eq_true (by first | (with_reducible assumption) | assumption)
                    have q5 : x5_1 < (a0.size : Int) := of_decide_eq_true (by first | (with_reducible assumption) | assumption)
                    have hx5 := bt_at a0 x5_1
                    replace p5 := eq_true p5
                    replace q5 := eq_true q5
                    have p9 : 0 ≤ ((ji6) : Int) := of_decide_eq_true (by first | (with_reducible assumption) | assumption)
                    have q9 : (ji6) < (a0.size : Int) := of_decide_eq_true (by first | (with_reducible assumption) | assumption)
                    have hx9 := bt_at a0 (ji6)
                    replace p9 := eq_true p9
                    replace q9 := eq_true q9
                    refine start_ (n := 12) (S := fun w' => True) (ds := []) #[false, false, false, false, false, false, false, false, false, false, false, false] (by kernel_rfl) rfl rfl trivial (fun hHeld => ?_); refine with_tabW reliquaryref22_Read.tab7 reliquaryref22_Read.bits7 (fun HT_ HW_ => ?_)
                    generalize wr.drew = w15 at HO_4 HB hHeld ⊢
                    refine pure_ (i := 0) (N := some 19) (v := ?_) (a' := ?_) #[true, false, false, false, false, false, false, false, false, false, false, false] rfl rfl (any_of HT_.out (by kernel_rfl)) (fun _ _ _ h => h) (Or.inl ⟨by rfl, ?_⟩) ?_ ?_
                    rotate_left
                    · intro w'
                      go_simp
                      with_reducible rfl
                    rotate_left
                    · simp only [Act.put, List.setIfInBounds_toArray, List.set_cons_zero, List.set_cons_succ, i64_w, i32_w]
                      rfl
                    refine pure_ (i := 1) (N := some 20) (v := ?_) (a' := ?_) #[true, true, false, false, false, false, false, false, false, false, false, false] rfl rfl (any_of HT_.out (by kernel_rfl)) (fun _ _ _ h => h) (Or.inl ⟨by rfl, ?_⟩) ?_ ?_
                    rotate_left
                    · intro w'
                      go_simp
                      with_reducible rfl
                    rotate_left
                    · simp only [Act.put, List.setIfInBounds_toArray, List.set_cons_zero, List.set_cons_succ, i64_w, i32_w]
                      rfl
                    refine pure_ (i := 4) (N := some 23) (v := ?_) (a' := ?_) #[true, true, false, false, true, false, false, false, false, false, false, false] rfl rfl (any_of HT_.out (by kernel_rfl)) (fun _ _ _ h => h) (Or.inl ⟨by rfl, ?_⟩) ?_ ?_
                    rotate_left
                    · intro w'
                      go_simp
                      with_reducible rfl
                    rotate_left
                    · simp only [Act.put, List.setIfInBounds_toArray, List.set_cons_zero, List.set_cons_succ, i64_w, i32_w]
                      rfl
                    refine pure_ (i := 5) (N := some 24) (v := ?_) (a' := ?_) #[true, true, false, false, true, true, false, false, false, false, false, false] rfl rfl (any_of HT_.out (by kernel_rfl)) (fun _ _ _ h => h) (Or.inl ⟨by rfl, ?_⟩) ?_ ?_
                    rotate_left
                    · intro w'
                      go_simp
                      with_reducible rfl
                    rotate_left
                    · simp only [Act.put, List.setIfInBounds_toArray, List.set_cons_zero, List.set_cons_succ, i64_w, i32_w]
                      rfl
                    refine pure_ (i := 6) (N := some 25) (v := ?_) (a' := ?_) #[true, true, false, false, true, true, true, false, false, false, false, false] rfl rfl (any_of HT_.out (by kernel_rfl)) (fun _ _ _ h => h) (Or.inl ⟨by rfl, ?_⟩) ?_ ?_
                    rotate_left
                    · intro w'
                      go_simp
                      with_reducible rfl
                    rotate_left
                    · simp only [Act.put, List.setIfInBounds_toArray, List.set_cons_zero, List.set_cons_succ, i64_w, i32_w]
                      rfl
                    refine take_ (i := 2) (N := some 21) (v := ?_) (a' := ?_) #[true, true, true, false, true, true, true, false, false, false, false, false] rfl rfl (take_ofW HT_.out HW_.out (by kernel_rfl)) (fun _ _ _ h => h) (Or.inl ⟨by rfl, ?_⟩) hHeld ?_ ?_
                    rotate_left
                    · intro w' _
                      go_simp
                      with_reducible rfl
                    rotate_left
                    · simp only [Act.put, List.setIfInBounds_toArray, List.set_cons_zero, List.set_cons_succ, i64_w, i32_w]
                      rfl
                    refine pure_ (i := 3) (N := some 22) (v := ?_) (a' := ?_) #[true, true, true, true, true, true, true, false, false, false, false, false] rfl rfl (any_of HT_.out (by kernel_rfl)) (fun _ _ _ h => h) (Or.inl ⟨by rfl, ?_⟩) ?_ ?_
                    rotate_left
                    · intro w'
                      go_simp
                      with_reducible rfl
                    rotate_left
                    · simp only [Act.put, List.setIfInBounds_toArray, List.set_cons_zero, List.set_cons_succ, i64_w, i32_w]
                      rfl
                    refine take_ (i := 7) (N := some 26) (v := ?_) (a' := ?_) #[true, true, true, true, true, true, true, true, false, false, false, false] rfl rfl (take_ofW HT_.out HW_.out (by kernel_rfl)) (fun _ _ _ h => h) (Or.inl ⟨by rfl, ?_⟩) hHeld ?_ ?_
                    rotate_left
                    · intro w' _
                      go_simp
                      with_reducible rfl
                    rotate_left
                    · simp only [Act.put, List.setIfInBounds_toArray, List.set_cons_zero, List.set_cons_succ, i64_w, i32_w]
                      rfl
                    refine pure_ (i := 8) (N := some 27) (v := ?_) (a' := ?_) #[true, true, true, true, true, true, true, true, true, false, false, false] rfl rfl (any_of HT_.out (by kernel_rfl)) (fun _ _ _ h => h) (Or.inl ⟨by rfl, ?_⟩) ?_ ?_
                    rotate_left
                    · intro w'
                      go_simp
                      with_reducible rfl
                    rotate_left
                    · simp only [Act.put, List.setIfInBounds_toArray, List.set_cons_zero, List.set_cons_succ, i64_w, i32_w]
                      rfl
                    refine pure_ (i := 9) (N := some 28) (v := ?_) (a' := ?_) #[true, true, true, true, true, true, true, true, true, true, false, false] rfl rfl (any_of HT_.out (by kernel_rfl)) (fun _ _ _ h => h) (Or.inl ⟨by rfl, ?_⟩) ?_ ?_
                    rotate_left
                    · intro w'
                      go_simp
                      with_reducible rfl
                    rotate_left
                    · simp only [Act.put, List.setIfInBounds_toArray, List.set_cons_zero, List.set_cons_succ, i64_w, i32_w]
                      rfl
                    refine pure_ (i := 10) (N := some 29) (v := ?_) (a' := ?_) #[true, true, true, true, true, true, true, true, true, true, true, false] rfl rfl (any_of HT_.out (by kernel_rfl)) (fun _ _ _ h => h) (Or.inl ⟨by rfl, ?_⟩) ?_ ?_
                    rotate_left
                    · intro w'
                      go_simp
                      with_reducible rfl
                    rotate_left
                    · simp only [Act.put, List.setIfInBounds_toArray, List.set_cons_zero, List.set_cons_succ, i64_w, i32_w]
                      rfl
                    refine pure_ (i := 11) (N := some 6) (v := ?_) (a' := ?_) #[true, true, true, true, true, true, true, true, true, true, true, true] rfl rfl (any_of HT_.out (by kernel_rfl)) (fun _ _ _ h => h) (Or.inl ⟨by rfl, ?_⟩) ?_ ?_
                    rotate_left
                    · intro w'
                      go_simp
                      with_reducible rfl
                    rotate_left
                    · simp only [Act.put, List.setIfInBounds_toArray, List.set_cons_zero, List.set_cons_succ, i64_w, i32_w]
                      rfl
                    refine done_ (done_of HT_.out (by kernel_rfl)) ?_
                    have p13 : 0 ≤ ((ji10) : Int) := of_decide_eq_true (by first | (with_reducible assumption) | assumption)
                    have q13 : (ji10) < (a0.size : Int) := of_decide_eq_true (by first | (with_reducible assumption) | assumption)
                    have hx13 := bt_at a0 (ji10)
                    replace p13 := eq_true p13
                    replace q13 := eq_true q13
                    go_upto_region 9 with (fail)
                    go_cut [52] (fun v52 wc => ∃ (kq : Nat) (x52_13 : Bool), v52 = .bool x52_13 ∧ Aside0 (reliquaryref22_Read.j1 kq a0 x4_1 x5_1 (wrap64 ((wrap64 (bt a0 x5_1)) + (wrap64 (256 * (wrap64 (bt a0 (ji6))))))) (wrap64 (bt a0 (ji10))) x52_13 = some (r1, r2)) ∧ Aside0 (kq ≤ k1) ∧ Aside0 (Kd.R k30 30 wc w.heap.size (fun _ => True) u4 x4_1) ∧ Aside0 (Below w.heap.size w wc))
                    case first =>
                      have H := HC14.out
                      clear HC14
                      by_cases c16 : (wrap64 (bt a0 (ji10))) > 24
                      · rw [if_pos c16] at H
                        have c16b0 : decide (24 < (wrap64 (bt a0 (ji10)))) = true := decide_eq_true c16
                        clear c16
                        (first | rw [c16b0] | (simp only [i64_w, i32_w]; rw [c16b0]) | skip)
                        have H' := Aside0.mk H
                        clear H
                        go_wp2
                        go_meet
                        case rel => exact ⟨_, (true), (by first | rfl | (simp; done) | (simp [*]; done)), H', ⟨by have := HK1.out; first | omega | exact Nat.le_refl _⟩, ⟨by (with_reducible repeat (first | apply Kd.R_alloc | apply Kd.R_drewN | apply Kd.R_drew)); exact HO_4.out⟩, ⟨by repeat (first | (with_reducible first | exact HB.out | apply below_alloc | apply pw_below_drewN | apply below_drew1) | exact HB.out)⟩⟩
                      · rw [if_neg c16] at H
                        have c16b0 : decide (24 < (wrap64 (bt a0 (ji10)))) = false := decide_eq_false c16
                        clear c16
                        (first | rw [c16b0] | (simp only [i64_w, i32_w]; rw [c16b0]) | skip)
                        by_cases c17 : (wrap64 ((wrap64 (bt a0 x5_1)) + (wrap64 (256 * (wrap64 (bt a0 (ji6))))))) = 0
                        · rw [if_pos c17] at H
                          have c17b0 : ((wrap64 ((wrap64 (bt a0 x5_1)) + (wrap64 (256 * (wrap64 (bt a0 (ji6))))))) == 0) = true := beq_iff_eq.mpr c17
                          have c17b1 : ((wrap64 ((wrap64 (bt a0 x5_1)) + (wrap64 (256 * (wrap64 (bt a0 (ji6))))))) != 0) = false := bne_eq_false_iff_eq.mpr c17
                          clear c17
                          by_cases c18 : (wrap64 (bt a0 (ji10))) > 0
                          · rw [if_pos c18] at H
                            have c18b0 : decide (0 < (wrap64 (bt a0 (ji10)))) = true := decide_eq_true c18
                            clear c18
                            have H' := Aside0.mk H
                            clear H
                            go_wp2
                            go_meet
                            case rel => exact ⟨_, (true), (by first | rfl | (simp; done) | (simp [*]; done)), H', ⟨by have := HK1.out; first | omega | exact Nat.le_refl _⟩, ⟨by (with_reducible repeat (first | apply Kd.R_alloc | apply Kd.R_drewN | apply Kd.R_drew)); exact HO_4.out⟩, ⟨by repeat (first | (with_reducible first | exact HB.out | apply below_alloc | apply pw_below_drewN | apply below_drew1) | exact HB.out)⟩⟩
                          · rw [if_neg c18] at H
                            have c18b0 : decide (0 < (wrap64 (bt a0 (ji10)))) = false := decide_eq_false c18
                            clear c18
                            by_cases c19 : (wrap64 ((wrap64 (bt a0 x5_1)) + (wrap64 (256 * (wrap64 (bt a0 (ji6))))))) > 0
                            · rw [if_pos c19] at H
                              have c19b0 : decide (0 < (wrap64 ((wrap64 (bt a0 x5_1)) + (wrap64 (256 * (wrap64 (bt a0 (ji6)))))))) = true := decide_eq_true c19
                              clear c19
                              have H' := Aside0.mk H
                              clear H
                              go_wp2
                              go_meet
                              case rel => exact ⟨_, (((wrap64 (bt a0 (ji10))) == 0)), (by first | rfl | (simp; done) | (simp only [← hji10] <;> (first | rfl | simp)) | (simp [*]; done)), H', ⟨by have := HK1.out; first | omega | exact Nat.le_refl _⟩, ⟨by (with_reducible repeat (first | apply Kd.R_alloc | apply Kd.R_drewN | apply Kd.R_drew)); exact HO_4.out⟩, ⟨by repeat (first | (with_reducible first | exact HB.out | apply below_alloc | apply pw_below_drewN | apply below_drew1) | exact HB.out)⟩⟩
                            · rw [if_neg c19] at H
                              have c19b0 : decide (0 < (wrap64 ((wrap64 (bt a0 x5_1)) + (wrap64 (256 * (wrap64 (bt a0 (ji6)))))))) = false := decide_eq_false c19
                              clear c19
                              have H' := Aside0.mk H
                              clear H
                              go_wp2
                              go_meet
                              case rel => exact ⟨_, (false), (by first | rfl | (simp; done) | (simp [*]; done)), H', ⟨by have := HK1.out; first | omega | exact Nat.le_refl _⟩, ⟨by (with_reducible repeat (first | apply Kd.R_alloc | apply Kd.R_drewN | apply Kd.R_drew)); exact HO_4.out⟩, ⟨by repeat (first | (with_reducible first | exact HB.out | apply below_alloc | apply pw_below_drewN | apply below_drew1) | exact HB.out)⟩⟩
                        · rw [if_neg c17] at H
                          have c17b0 : ((wrap64 ((wrap64 (bt a0 x5_1)) + (wrap64 (256 * (wrap64 (bt a0 (ji6))))))) == 0) = false := beq_eq_false_iff_ne.mpr c17
                          have c17b1 : ((wrap64 ((wrap64 (bt a0 x5_1)) + (wrap64 (256 * (wrap64 (bt a0 (ji6))))))) != 0) = true := bne_iff_ne.mpr c17
                          by_cases c20 : (wrap64 ((wrap64 (bt a0 x5_1)) + (wrap64 (256 * (wrap64 (bt a0 (ji6))))))) > 0
                          · rw [if_pos c20] at H
                            have c20b0 : decide (0 < (wrap64 ((wrap64 (bt a0 x5_1)) + (wrap64 (256 * (wrap64 (bt a0 (ji6)))))))) = true := decide_eq_true c20
                            clear c20
                            have H' := Aside0.mk H
                            clear H
                            go_wp2
                            go_meet
                            case rel => exact ⟨_, (((wrap64 (bt a0 (ji10))) == 0)), (by first | rfl | (simp; done) | (simp only [← hji10] <;> (first | rfl | simp)) | (simp [*]; done)), H', ⟨by have := HK1.out; first | omega | exact Nat.le_refl _⟩, ⟨by (with_reducible repeat (first | apply Kd.R_alloc | apply Kd.R_drewN | apply Kd.R_drew)); exact HO_4.out⟩, ⟨by repeat (first | (with_reducible first | exact HB.out | apply below_alloc | apply pw_below_drewN | apply below_drew1) | exact HB.out)⟩⟩
                          · rw [if_neg c20] at H
                            have c20b0 : decide (0 < (wrap64 ((wrap64 (bt a0 x5_1)) + (wrap64 (256 * (wrap64 (bt a0 (ji6)))))))) = false := decide_eq_false c20
                            clear c20
                            have H' := Aside0.mk H
                            clear H
                            go_wp2
                            go_meet
                            case rel => exact ⟨_, (false), (by first | rfl | (simp; done) | (simp [*]; done)), H', ⟨by have := HK1.out; first | omega | exact Nat.le_refl _⟩, ⟨by (with_reducible repeat (first | apply Kd.R_alloc | apply Kd.R_drewN | apply Kd.R_drew)); exact HO_4.out⟩, ⟨by repeat (first | (with_reducible first | exact HB.out | apply below_alloc | apply pw_below_drewN | apply below_drew1) | exact HB.out)⟩⟩
                    case rest =>
                      clear HC14
                      try clear c1
                      try clear p1
                      try clear q1
                      try clear hx1
                      try clear c2
                      try clear c2b0
                      try clear p2
                      try clear c3
                      try clear c3b0
                      try clear c4
                      try clear c4b0
                      try clear p5
                      try clear q5
                      try clear hx5
                      try clear p6
                      try clear c7
                      try clear c7b0
                      try clear c8
                      try clear c8b0
                      try clear p9
                      try clear q9
                      try clear hx9
                      try clear c11
                      try clear c11b0
                      try clear c12
                      try clear c12b0
                      try clear p13
                      try clear q13
                      try clear hx13
                      try clear c16
                      try clear c16b0
                      try clear c17
                      try clear c17b0
                      try clear c17b1
                      try clear c18
                      try clear c18b0
                      try clear c19
                      try clear c19b0
                      try clear c20
                      try clear c20b0
                      try clear p13
                      try clear p2
                      try clear p5
                      try clear p9
                      try clear q13
                      try clear q5
                      try clear q9
                      obtain ⟨kq, x52_13, rfl, HA, HJ13, HO_4, HB⟩ := hcut
                      cases kq with
                      | zero => exact absurd HA.out (by simp [reliquaryref22_Read.j1])
                      | succ kj13 =>
                        have H := HA.out
                        clear HA
                        simp only [reliquaryref22_Read.j1] at H
                        by_cases c21 : x52_13 = true
                        · subst c21
                          have H1 : (some (([] : List (S30)), 11)) = some (r1, r2) := by rw [if_pos rfl] at H; exact H
                          clear H
                          have H := H1
                          clear H1
                          simp only [Option.some.injEq, Prod.mk.injEq] at H
                          obtain ⟨rfl, rfl⟩ := H
                          go_wp2
                          go_ret2
                          exact ⟨_, by first | rfl | (simp [errW_none, errW_some] <;> rfl) | (simp only [← hji6, ← hji10]; first | rfl | (simp [errW_none, errW_some] <;> rfl)) | (simp [*, errW_none, errW_some] <;> rfl), by first | exact Kd.R_nil _ _ _ _ _ | exact Kd.N_nil _ _ _ _ _ | exact Kd.V_nil _ _ _ _ _ | exact Kd.Q_nil _ _ _ _ _ | exact Kd.S_nil _ _ _ _ _, by repeat (first | (with_reducible first | exact HB.out | apply below_alloc | apply pw_below_drewN | apply below_drew1) | exact HB.out)⟩
                        · replace c21 := Bool.eq_false_iff.mpr c21
                          subst c21
                          have H1 : (if 0 ≤ (wrap64 (x5_1 + 3)) then (if (wrap64 (x5_1 + 3)) ≤ (wrap64 ((wrap64 (x5_1 + 3)) + (wrap64 (bt a0 (ji10))))) then (if (wrap64 ((wrap64 (x5_1 + 3)) + (wrap64 (bt a0 (ji10))))) ≤ (a0.size : Int) then ((reliquaryref22_Piece.f kj13 (a0.extract ((wrap64 (x5_1 + 3)) : Int).toNat ((wrap64 ((wrap64 (x5_1 + 3)) + (wrap64 (bt a0 (ji10))))) : Int).toNat) (wrap64 ((wrap64 (bt a0 x5_1)) + (wrap64 (256 * (wrap64 (bt a0 (ji6)))))))).bind fun t212 => (if 0 ≤ x5_1 then (if x5_1 ≤ (wrap64 (x5_1 + 32)) then (if (wrap64 (x5_1 + 32)) ≤ (a0.size : Int) then (if t212.toList = (a0.extract (x5_1 : Int).toNat ((wrap64 (x5_1 + 32)) : Int).toNat).toList then (if (wrap64 ((wrap64 (bt a0 x5_1)) + (wrap64 (256 * (wrap64 (bt a0 (ji6))))))) > 0 then ((reliquaryref22_Find.f kj13 x4_1 (a0.extract ((wrap64 (x5_1 + 3)) : Int).toNat ((wrap64 ((wrap64 (x5_1 + 3)) + (wrap64 (bt a0 (ji10))))) : Int).toNat)).bind fun t213 => (if t213 ≥ 0 then (some (([] : List (S30)), 11)) else (if x4_1.length < 5864062014805 then (reliquaryref22_Read.l0 kj13 a0 (x4_1 ++ [(⟨a0.extract ((wrap64 (x5_1 + 3)) : Int).toNat ((wrap64 ((wrap64 (x5_1 + 3)) + (wrap64 (bt a0 (ji10))))) : Int).toNat, (wrap64 ((wrap64 (bt a0 x5_1)) + (wrap64 (256 * (wrap64 (bt a0 (ji6)))))))⟩ : S30)]) (wrap64 (x5_1 + 32))) else (none)))) else (if x4_1.length < 5864062014805 then (reliquaryref22_Read.l0 kj13 a0 (x4_1 ++ [(⟨a0.extract ((wrap64 (x5_1 + 3)) : Int).toNat ((wrap64 ((wrap64 (x5_1 + 3)) + (wrap64 (bt a0 (ji10))))) : Int).toNat, (wrap64 ((wrap64 (bt a0 x5_1)) + (wrap64 (256 * (wrap64 (bt a0 (ji6)))))))⟩ : S30)]) (wrap64 (x5_1 + 32))) else (none))) else (some (([] : List (S30)), 11))) else (none)) else (none)) else (none))) else (none)) else (none)) else (none)) = some (r1, r2) := by rw [if_neg (show ¬ (false = true) by decide)] at H; exact H
                          clear H
                          have H := H1
                          clear H1
                          obtain ⟨ji22, hji22⟩ : ∃ j_ : Int, (wrap64 (x5_1 + 3)) = j_ := ⟨_, rfl⟩
                          replace H : (if 0 ≤ (ji22) then (if (ji22) ≤ (wrap64 ((ji22) + (wrap64 (bt a0 (ji10))))) then (if (wrap64 ((ji22) + (wrap64 (bt a0 (ji10))))) ≤ (a0.size : Int) then ((reliquaryref22_Piece.f kj13 (a0.extract ((ji22) : Int).toNat ((wrap64 ((ji22) + (wrap64 (bt a0 (ji10))))) : Int).toNat) (wrap64 ((wrap64 (bt a0 x5_1)) + (wrap64 (256 * (wrap64 (bt a0 (ji6)))))))).bind fun t212 => (if 0 ≤ x5_1 then (if x5_1 ≤ (wrap64 (x5_1 + 32)) then (if (wrap64 (x5_1 + 32)) ≤ (a0.size : Int) then (if t212.toList = (a0.extract (x5_1 : Int).toNat ((wrap64 (x5_1 + 32)) : Int).toNat).toList then (if (wrap64 ((wrap64 (bt a0 x5_1)) + (wrap64 (256 * (wrap64 (bt a0 (ji6))))))) > 0 then ((reliquaryref22_Find.f kj13 x4_1 (a0.extract ((ji22) : Int).toNat ((wrap64 ((ji22) + (wrap64 (bt a0 (ji10))))) : Int).toNat)).bind fun t213 => (if t213 ≥ 0 then (some (([] : List (S30)), 11)) else (if x4_1.length < 5864062014805 then (reliquaryref22_Read.l0 kj13 a0 (x4_1 ++ [(⟨a0.extract ((ji22) : Int).toNat ((wrap64 ((ji22) + (wrap64 (bt a0 (ji10))))) : Int).toNat, (wrap64 ((wrap64 (bt a0 x5_1)) + (wrap64 (256 * (wrap64 (bt a0 (ji6)))))))⟩ : S30)]) (wrap64 (x5_1 + 32))) else (none)))) else (if x4_1.length < 5864062014805 then (reliquaryref22_Read.l0 kj13 a0 (x4_1 ++ [(⟨a0.extract ((ji22) : Int).toNat ((wrap64 ((ji22) + (wrap64 (bt a0 (ji10))))) : Int).toNat, (wrap64 ((wrap64 (bt a0 x5_1)) + (wrap64 (256 * (wrap64 (bt a0 (ji6)))))))⟩ : S30)]) (wrap64 (x5_1 + 32))) else (none))) else (some (([] : List (S30)), 11))) else (none)) else (none)) else (none))) else (none)) else (none)) else (none)) = some (r1, r2) := by first | (rw [hji22] at H; exact H) | (simp only [hji22] at H ⊢; exact H)
                          have hji22w : (IntKind.i64.wrap (x5_1 + 3)) = ji22 := (i64_w _).trans hji22
                          by_cases c23 : 0 ≤ (ji22)
                          · rw [if_pos c23] at H
                            have c23b0 := eq_true c23
                            have c23b1 : decide (0 ≤ (ji22)) = true := decide_eq_true c23
                            clear c23
                            by_cases c24 : (ji22) ≤ (wrap64 ((ji22) + (wrap64 (bt a0 (ji10)))))
                            · rw [if_pos c24] at H
                              have c24b0 := eq_true c24
                              have c24b1 : decide ((ji22) ≤ (wrap64 ((ji22) + (wrap64 (bt a0 (ji10)))))) = true := decide_eq_true c24
                              by_cases c25 : (wrap64 ((ji22) + (wrap64 (bt a0 (ji10))))) ≤ (a0.size : Int)
                              · rw [if_pos c25] at H
                                have c25b0 := eq_true c25
                                have c25b1 : decide ((wrap64 ((ji22) + (wrap64 (bt a0 (ji10))))) ≤ (a0.size : Int)) = true := decide_eq_true c25
                                replace H := Option.bind_eq_some_iff.mp H
                                obtain ⟨t212, A260, H⟩ := H
                                replace H : (if 0 ≤ x5_1 then (if x5_1 ≤ (wrap64 (x5_1 + 32)) then (if (wrap64 (x5_1 + 32)) ≤ (a0.size : Int) then (if t212.toList = (a0.extract (x5_1 : Int).toNat ((wrap64 (x5_1 + 32)) : Int).toNat).toList then (if (wrap64 ((wrap64 (bt a0 x5_1)) + (wrap64 (256 * (wrap64 (bt a0 (ji6))))))) > 0 then ((reliquaryref22_Find.f kj13 x4_1 (a0.extract ((ji22) : Int).toNat ((wrap64 ((ji22) + (wrap64 (bt a0 (ji10))))) : Int).toNat)).bind fun t213 => (if t213 ≥ 0 then (some (([] : List (S30)), 11)) else (if x4_1.length < 5864062014805 then (reliquaryref22_Read.l0 kj13 a0 (x4_1 ++ [(⟨a0.extract ((ji22) : Int).toNat ((wrap64 ((ji22) + (wrap64 (bt a0 (ji10))))) : Int).toNat, (wrap64 ((wrap64 (bt a0 x5_1)) + (wrap64 (256 * (wrap64 (bt a0 (ji6)))))))⟩ : S30)]) (wrap64 (x5_1 + 32))) else (none)))) else (if x4_1.length < 5864062014805 then (reliquaryref22_Read.l0 kj13 a0 (x4_1 ++ [(⟨a0.extract ((ji22) : Int).toNat ((wrap64 ((ji22) + (wrap64 (bt a0 (ji10))))) : Int).toNat, (wrap64 ((wrap64 (bt a0 x5_1)) + (wrap64 (256 * (wrap64 (bt a0 (ji6)))))))⟩ : S30)]) (wrap64 (x5_1 + 32))) else (none))) else (some (([] : List (S30)), 11))) else (none)) else (none)) else (none)) = some (r1, r2) := H
                                have A26 := Aside0.mk A260
                                clear A260
                                by_cases c27 : 0 ≤ x5_1
                                · rw [if_pos c27] at H
                                  have c27b0 := eq_true c27
                                  have c27b1 : decide (0 ≤ x5_1) = true := decide_eq_true c27
                                  clear c27
                                  by_cases c28 : x5_1 ≤ (wrap64 (x5_1 + 32))
                                  · rw [if_pos c28] at H
                                    have c28b0 := eq_true c28
                                    have c28b1 : decide (x5_1 ≤ (wrap64 (x5_1 + 32))) = true := decide_eq_true c28
                                    by_cases c29 : (wrap64 (x5_1 + 32)) ≤ (a0.size : Int)
                                    · rw [if_pos c29] at H
                                      have c29b0 := eq_true c29
                                      have c29b1 : decide ((wrap64 (x5_1 + 32)) ≤ (a0.size : Int)) = true := decide_eq_true c29
                                      by_cases c30 : t212.toList = (a0.extract (x5_1 : Int).toNat ((wrap64 (x5_1 + 32)) : Int).toNat).toList
                                      · rw [if_pos c30] at H
                                        have c30b0 : (t212.toList == (a0.extract (x5_1 : Int).toNat ((wrap64 (x5_1 + 32)) : Int).toNat).toList) = true := beq_iff_eq.mpr c30
                                        have c30b1 : (t212.toList != (a0.extract (x5_1 : Int).toNat ((wrap64 (x5_1 + 32)) : Int).toNat).toList) = false := bne_eq_false_iff_eq.mpr c30
                                        clear c30
                                        by_cases c31 : (wrap64 ((wrap64 (bt a0 x5_1)) + (wrap64 (256 * (wrap64 (bt a0 (ji6))))))) > 0
                                        · rw [if_pos c31] at H
                                          have c31b0 : decide (0 < (wrap64 ((wrap64 (bt a0 x5_1)) + (wrap64 (256 * (wrap64 (bt a0 (ji6)))))))) = true := decide_eq_true c31
                                          clear c31
                                          replace H := Option.bind_eq_some_iff.mp H
                                          obtain ⟨t213, A320, H⟩ := H
                                          replace H : (if t213 ≥ 0 then (some (([] : List (S30)), 11)) else (if x4_1.length < 5864062014805 then (reliquaryref22_Read.l0 kj13 a0 (x4_1 ++ [(⟨a0.extract ((ji22) : Int).toNat ((wrap64 ((ji22) + (wrap64 (bt a0 (ji10))))) : Int).toNat, (wrap64 ((wrap64 (bt a0 x5_1)) + (wrap64 (256 * (wrap64 (bt a0 (ji6)))))))⟩ : S30)]) (wrap64 (x5_1 + 32))) else (none))) = some (r1, r2) := H
                                          have A32 := Aside0.mk A320
                                          clear A320
                                          by_cases c33 : t213 ≥ 0
                                          · rw [if_pos c33] at H
                                            have c33b0 : decide (0 ≤ t213) = true := decide_eq_true c33
                                            clear c33
                                            simp only [Option.some.injEq, Prod.mk.injEq] at H
                                            obtain ⟨rfl, rfl⟩ := H
                                            try go_wp2_with (first | ((with_reducible refine gate_dst (N := 8) rfl ?_); refine box_event ?hg (N := 8) ?hd (cs := #[.string (⟨#[]⟩ : ByteArray), .int .i64 0]) (t := 30) ?hr ?_; (case hd => rfl); (case hg => rfl); (case hr => first | (go_simp; done) | (go_simp; rfl)); intro gb211 hg w34 hbox hb; have n0_ := Aside0.mk (Kd.R_below (Kd.R_elderB (by (with_reducible repeat (first | apply Kd.R_alloc | apply Kd.R_drewN | apply Kd.R_drew)); exact HO_4.out) gb211 (Nat.le_of_eq hg.symm)) hb); have n1_ := Aside0.mk (below_step (by repeat (first | (with_reducible first | exact HB.out | apply below_alloc | apply pw_below_drewN | apply below_drew1) | exact HB.out)) hb); have n2_ := Aside0.mk (hbox); have n3_ := Aside0.mk ((by rw [hg]; exact (below_size (by repeat (first | (with_reducible first | exact HB.out | apply below_alloc | apply pw_below_drewN | apply below_drew1) | exact HB.out))) : w.heap.size ≤ gb211)); have n4_ := Aside0.mk ((by rw [hg]; exact (below_size (by repeat (first | (with_reducible first | exact HB.out | apply below_alloc | apply pw_below_drewN | apply below_drew1) | exact HB.out))) : w.heap.size ≤ gb211)); clear HO_4; clear HB; have HO_4 := n0_; have HB := n1_; have BK211 := n2_; have GW211 := n3_; have GE211 := n4_; clear n0_ n1_ n2_ n3_ n4_; clear hb hbox hg; have hcz35_0 : w34.cell? ⟨gb211, 0, none⟩ = some (.string (⟨#[]⟩ : ByteArray)) := (blk_cell BK211.out 0).trans rfl; have hcz35_1 : w34.cell? ⟨gb211, 1, none⟩ = some (.int .i64 0) := (blk_cell BK211.out 1).trans rfl; have hfz35_0 := blk_frozen BK211.out 0; have hfz35_1 := blk_frozen BK211.out 1))
                                            have n0_ : Aside0 (Kd.R k30 30 ((w34.setCell ⟨gb211, 0, none⟩ (.string (a0.extract ((ji22) : Int).toNat ((wrap64 ((ji22) + (wrap64 (bt a0 (ji10))))) : Int).toNat))).setCell ⟨gb211, 1, none⟩ (.int .i64 (wrap64 ((wrap64 (bt a0 x5_1)) + (wrap64 (256 * (wrap64 (bt a0 (ji6))))))))) w.heap.size (fun k_ => k_ ≠ gb211) u4 x4_1) := ⟨by (with_reducible repeat (first | apply Kd.R_alloc | apply Kd.R_drewN | apply Kd.R_drew)); exact Kd.R_mono (Kd.R_far (p := ⟨gb211, 1, none⟩) (Kd.R_far (p := ⟨gb211, 0, none⟩) (Kd.R_mono HO_4.out (fun k_ hk => (⟨hk, hk.2⟩ : _ ∧ k_ ≠ gb211))) (fun _ hk => hk.2) (.string (a0.extract ((ji22) : Int).toNat ((wrap64 ((ji22) + (wrap64 (bt a0 (ji10))))) : Int).toNat))) (fun _ hk => hk.2) (.int .i64 (wrap64 ((wrap64 (bt a0 x5_1)) + (wrap64 (256 * (wrap64 (bt a0 (ji6))))))))) (fun _ hk => hk.1.2)⟩
                                            have n1_ : Aside0 (((w34.setCell ⟨gb211, 0, none⟩ (.string (a0.extract ((ji22) : Int).toNat ((wrap64 ((ji22) + (wrap64 (bt a0 (ji10))))) : Int).toNat))).setCell ⟨gb211, 1, none⟩ (.int .i64 (wrap64 ((wrap64 (bt a0 x5_1)) + (wrap64 (256 * (wrap64 (bt a0 (ji6))))))))).heap[gb211]? = some (.cells #[.string (a0.extract ((ji22) : Int).toNat ((wrap64 ((ji22) + (wrap64 (bt a0 (ji10))))) : Int).toNat), .int .i64 (wrap64 ((wrap64 (bt a0 x5_1)) + (wrap64 (256 * (wrap64 (bt a0 (ji6)))))))] 30 (0, 0))) := ⟨by (with_reducible repeat (first | refine blk_drewN ?_ _ | refine blk_drew ?_ | refine blk_alloc ?_ _)); refine blk_put (cs := #[.string (a0.extract ((ji22) : Int).toNat ((wrap64 ((ji22) + (wrap64 (bt a0 (ji10))))) : Int).toNat), .int .i64 0]) ?_ 1 _ rfl; (with_reducible repeat (first | refine blk_drewN ?_ _ | refine blk_drew ?_ | refine blk_alloc ?_ _)); refine blk_put (cs := #[.string (⟨#[]⟩ : ByteArray), .int .i64 0]) ?_ 0 _ rfl; (with_reducible repeat (first | refine blk_drewN ?_ _ | refine blk_drew ?_ | refine blk_alloc ?_ _)); exact BK211.out⟩
                                            have n2_ : Aside0 (Below w.heap.size w ((w34.setCell ⟨gb211, 0, none⟩ (.string (a0.extract ((ji22) : Int).toNat ((wrap64 ((ji22) + (wrap64 (bt a0 (ji10))))) : Int).toNat))).setCell ⟨gb211, 1, none⟩ (.int .i64 (wrap64 ((wrap64 (bt a0 x5_1)) + (wrap64 (256 * (wrap64 (bt a0 (ji6)))))))))) := ⟨by repeat (first | (with_reducible first | exact HB.out | apply below_alloc | apply pw_below_drewN | apply below_drew1 | refine below_set ?_ GE211.out) | exact HB.out)⟩
                                            (try clear HO_4)
                                            (try clear BK211)
                                            (try clear HB)
                                            generalize ((w34.setCell ⟨gb211, 0, none⟩ (.string (a0.extract ((ji22) : Int).toNat ((wrap64 ((ji22) + (wrap64 (bt a0 (ji10))))) : Int).toNat))).setCell ⟨gb211, 1, none⟩ (.int .i64 (wrap64 ((wrap64 (bt a0 x5_1)) + (wrap64 (256 * (wrap64 (bt a0 (ji6))))))))) = w36 at n0_ n1_ n2_ ⊢
                                            have HO_4 := n0_
                                            have BK211 := n1_
                                            have HB := n2_
                                            clear n0_ n1_ n2_
                                            have n0_ := Aside0.mk (Kd.R_drew HO_4.out)
                                            have n1_ := Aside0.mk (blk_drew BK211.out)
                                            have n2_ := Aside0.mk (below_drew1 HB.out)
                                            clear HO_4
                                            clear BK211
                                            clear HB
                                            have HO_4 := n0_
                                            have BK211 := n1_
                                            have HB := n2_
                                            clear n0_ n1_ n2_
                                            refine start_ (n := 8) (S := fun w' => w'.cell? ⟨gb211, 0, none⟩ = some (.string (a0.extract ((ji22) : Int).toNat ((wrap64 ((ji22) + (wrap64 (bt a0 (ji10))))) : Int).toNat)) ∧ w'.cell? ⟨gb211, 1, none⟩ = some (.int .i64 (wrap64 ((wrap64 (bt a0 x5_1)) + (wrap64 (256 * (wrap64 (bt a0 (ji6))))))))) (ds := []) #[false, false, false, false, false, false, false, false] (by kernel_rfl) rfl rfl ⟨(blk_cell BK211.out 0).trans rfl, (blk_cell BK211.out 1).trans rfl⟩ (fun hHeld => ?_); refine with_tabW reliquaryref22_Read.tab12 reliquaryref22_Read.bits12 (fun HT_ HW_ => ?_)
                                            generalize w36.drew = w37 at HO_4 BK211 HB hHeld ⊢
                                            refine pure_ (i := 2) (N := some 65) (v := ?_) (a' := ?_) #[false, false, true, false, false, false, false, false] rfl rfl (any_of HT_.out (by kernel_rfl)) (fun _ _ _ h => h) (Or.inl ⟨by rfl, ?_⟩) ?_ ?_
                                            rotate_left
                                            · intro w'
                                              go_simp
                                              with_reducible rfl
                                            rotate_left
                                            · simp only [Act.put, List.setIfInBounds_toArray, List.set_cons_zero, List.set_cons_succ, i64_w, i32_w]
                                              rfl
                                            refine pure_ (i := 3) (N := some 66) (v := ?_) (a' := ?_) #[false, false, true, true, false, false, false, false] rfl rfl (any_of HT_.out (by kernel_rfl)) (fun _ _ _ h => h) (Or.inl ⟨by rfl, ?_⟩) ?_ ?_
                                            rotate_left
                                            · intro w'
                                              go_simp
                                              with_reducible rfl
                                            rotate_left
                                            · simp only [Act.put, List.setIfInBounds_toArray, List.set_cons_zero, List.set_cons_succ, i64_w, i32_w]
                                              rfl
                                            refine pure_ (i := 4) (N := some 67) (v := ?_) (a' := ?_) #[false, false, true, true, true, false, false, false] rfl rfl (any_of HT_.out (by kernel_rfl)) (fun _ _ _ h => h) (Or.inl ⟨by rfl, ?_⟩) ?_ ?_
                                            rotate_left
                                            · intro w'
                                              go_simp
                                              with_reducible rfl
                                            rotate_left
                                            · simp only [Act.put, List.setIfInBounds_toArray, List.set_cons_zero, List.set_cons_succ, i64_w, i32_w]
                                              rfl
                                            refine pure_ (i := 5) (N := some 68) (v := ?_) (a' := ?_) #[false, false, true, true, true, true, false, false] rfl rfl (any_of HT_.out (by kernel_rfl)) (fun _ _ _ h => h) (Or.inl ⟨by rfl, ?_⟩) ?_ ?_
                                            rotate_left
                                            · intro w'
                                              go_simp
                                              with_reducible rfl
                                            rotate_left
                                            · simp only [Act.put, List.setIfInBounds_toArray, List.set_cons_zero, List.set_cons_succ, i64_w, i32_w]
                                              rfl
                                            refine pure_ (i := 6) (N := some 69) (v := ?_) (a' := ?_) #[false, false, true, true, true, true, true, false] rfl rfl (any_of HT_.out (by kernel_rfl)) (fun _ _ _ h => h) (Or.inl ⟨by rfl, ?_⟩) ?_ ?_
                                            rotate_left
                                            · intro w'
                                              go_simp
                                              with_reducible rfl
                                            rotate_left
                                            · simp only [Act.put, List.setIfInBounds_toArray, List.set_cons_zero, List.set_cons_succ, i64_w, i32_w]
                                              rfl
                                            refine take_ (i := 0) (N := some 63) (v := ?_) (a' := ?_) #[true, false, true, true, true, true, true, false] rfl rfl (take_ofW HT_.out HW_.out (by kernel_rfl)) (fun _ _ _ h => h) (Or.inl ⟨by rfl, ?_⟩) hHeld ?_ ?_
                                            rotate_left
                                            · rintro w' ⟨s0, s1⟩
                                              go_simp
                                              with_reducible rfl
                                            rotate_left
                                            · simp only [Act.put, List.setIfInBounds_toArray, List.set_cons_zero, List.set_cons_succ, i64_w, i32_w]
                                              rfl
                                            refine one_ (i := 1) (N := some 64) #[true, true, true, true, true, true, true, false] rfl rfl (one_of HT_.out (by kernel_rfl)) (by decide) (fun K hK => ?_)
                                            refine goes_ Try.func23 (by kernel_rfl) rfl #[.agg #[.string (a0.extract ((ji22) : Int).toNat ((wrap64 ((ji22) + (wrap64 (bt a0 (ji10))))) : Int).toNat), .int .i64 (wrap64 ((wrap64 (bt a0 x5_1)) + (wrap64 (256 * (wrap64 (bt a0 (ji6)))))))]] (by rfl) rfl rfl (by (try simp only [List.map_toArray, List.map_cons, List.map_nil]); first | done | (simp only [hji10, hji22, hji6]; rfl) | rfl | (simp only [List.length_drop, List.length_take]; rfl)) ?_
                                            with_reducible refine (reliquaryref22_Piece.calls kj13 (a0.extract ((ji22) : Int).toNat ((wrap64 ((ji22) + (wrap64 (bt a0 (ji10))))) : Int).toNat) (wrap64 ((wrap64 (bt a0 x5_1)) + (wrap64 (256 * (wrap64 (bt a0 (ji6))))))) t212 _ A26.out).mono ?_
                                            rintro e w38 ⟨rfl, hb⟩
                                            refine ⟨_, rfl, ?_⟩
                                            have n0_ := Aside0.mk (Kd.R_below (by (with_reducible repeat (first | apply Kd.R_alloc | apply Kd.R_drewN | apply Kd.R_drew)); exact HO_4.out) hb)
                                            have n1_ := Aside0.mk (blk_below (g := gb211) (o := .cells #[.string (a0.extract ((ji22) : Int).toNat ((wrap64 ((ji22) + (wrap64 (bt a0 (ji10))))) : Int).toNat), .int .i64 (wrap64 ((wrap64 (bt a0 x5_1)) + (wrap64 (256 * (wrap64 (bt a0 (ji6)))))))] 30 (0, 0)) (by (with_reducible repeat (first | refine blk_drewN ?_ _ | refine blk_drew ?_ | refine blk_alloc ?_ _)); exact BK211.out) hb)
                                            have n2_ := Aside0.mk (below_step (by repeat (first | (with_reducible first | exact HB.out | apply below_alloc | apply pw_below_drewN | apply below_drew1 | refine below_set ?_ GE211.out) | exact HB.out)) hb)
                                            clear HO_4
                                            clear BK211
                                            clear HB
                                            have HO_4 := n0_
                                            have BK211 := n1_
                                            have HB := n2_
                                            clear n0_ n1_ n2_
                                            (try clear hb)
                                            (try clear hb2)
                                            (try clear hk)
                                            (try clear hi)
                                            refine hK.out _ _ ⟨(blk_cell BK211.out 0).trans rfl, (blk_cell BK211.out 1).trans rfl⟩ (fun hHeld => ?_)
                                            clear hK K
                                            refine norm_ (a' := ?_) ?_ ?_
                                            rotate_left
                                            · show Act.put _ (some 64) _ = _
                                              simp only [Act.put, List.setIfInBounds_toArray, List.set_cons_zero, List.set_cons_succ, i64_w, i32_w]
                                              rfl
                                            refine pure_ (i := 7) (N := some 70) (v := ?_) (a' := ?_) #[true, true, true, true, true, true, true, true] rfl rfl (any_of HT_.out (by kernel_rfl)) (fun _ _ _ h => h) (Or.inl ⟨by rfl, ?_⟩) ?_ ?_
                                            rotate_left
                                            · intro w'
                                              go_simp
                                              with_reducible rfl
                                            rotate_left
                                            · simp only [Act.put, List.setIfInBounds_toArray, List.set_cons_zero, List.set_cons_succ, i64_w, i32_w]
                                              rfl
                                            refine done_ (done_of HT_.out (by kernel_rfl)) ?_
                                            have hcz39_0 : w38.cell? ⟨gb211, 0, none⟩ = some (.string (a0.extract ((ji22) : Int).toNat ((wrap64 ((ji22) + (wrap64 (bt a0 (ji10))))) : Int).toNat)) := (blk_cell BK211.out 0).trans rfl
                                            have hcz39_1 : w38.cell? ⟨gb211, 1, none⟩ = some (.int .i64 (wrap64 ((wrap64 (bt a0 x5_1)) + (wrap64 (256 * (wrap64 (bt a0 (ji6)))))))) := (blk_cell BK211.out 1).trans rfl
                                            have hfz39_0 := blk_frozen BK211.out 0
                                            have hfz39_1 := blk_frozen BK211.out 1
                                            obtain ⟨Ao40, co40, eo40⟩ := Kd.R_slice HO_4.out
                                            subst eo40
                                            try go_wp2_with (first | (go_at_call 27; (with_reducible refine (reliquaryref22_Find.calls kj13 _ _ x4_1 (a0.extract ((ji22) : Int).toNat ((wrap64 ((ji22) + (wrap64 (bt a0 (ji10))))) : Int).toNat) t213 _ ?side1 ?side2 A32.out).mono ?_); (case side1 => repeat (first | exact (Kd.R_reads' HO_4.out).2.2 | (with_reducible refine Kd.C_alloc ?_ _) | (with_reducible refine Kd.C_drewN ?_ _) | (with_reducible refine Kd.C_drew ?_))); (case side2 => exact (Kd.R_reads' HO_4.out).2.1); rintro e w' ⟨rfl, ⟨nd, rfl⟩⟩))
                                            go_ret2
                                            exact ⟨_, by first | rfl | (simp [errW_none, errW_some] <;> rfl) | (simp only [← hji6, ← hji10, ← hji22]; first | rfl | (simp [errW_none, errW_some] <;> rfl)) | (simp [*, errW_none, errW_some] <;> rfl), by first | exact Kd.R_nil _ _ _ _ _ | exact Kd.N_nil _ _ _ _ _ | exact Kd.V_nil _ _ _ _ _ | exact Kd.Q_nil _ _ _ _ _ | exact Kd.S_nil _ _ _ _ _, by repeat (first | (with_reducible first | exact HB.out | apply below_alloc | apply pw_below_drewN | apply below_drew1 | refine below_set ?_ GE211.out) | exact HB.out)⟩
                                          · rw [if_neg c33] at H
                                            have c33b0 : decide (0 ≤ t213) = false := decide_eq_false c33
                                            clear c33
                                            by_cases c41 : x4_1.length < 5864062014805
                                            · rw [if_pos c41] at H
                                              have LMc41 := Aside0.mk c41
                                              clear c41
                                              obtain ⟨y214, hy214⟩ : ∃ y_ : List (S30), y_ = (x4_1 ++ [(⟨a0.extract ((ji22) : Int).toNat ((wrap64 ((ji22) + (wrap64 (bt a0 (ji10))))) : Int).toNat, (wrap64 ((wrap64 (bt a0 x5_1)) + (wrap64 (256 * (wrap64 (bt a0 (ji6)))))))⟩ : S30)]) := ⟨_, rfl⟩
                                              replace H : (reliquaryref22_Read.l0 kj13 a0 y214 (wrap64 (x5_1 + 32))) = some (r1, r2) := by first | (rw [hy214]; with_reducible exact H) | (have H2_ := (Option.bind_some _ _).symm.trans H; rw [hy214]; with_reducible exact H2_) | (have H2_ := (Option.bind_some _ _).symm.trans H; with_reducible exact H2_) | with_reducible exact H | (rw [hy214]; exact H) | exact H
                                              have Ny214 := Aside0.mk hy214
                                              clear hy214
                                              have H' := Aside0.mk H
                                              clear H
                                              try go_wp2_with (first | ((with_reducible refine gate_dst (N := 8) rfl ?_); refine box_event ?hg (N := 8) ?hd (cs := #[.string (⟨#[]⟩ : ByteArray), .int .i64 0]) (t := 30) ?hr ?_; (case hd => rfl); (case hg => rfl); (case hr => first | (go_simp; done) | (go_simp; rfl)); intro gb211 hg w42 hbox hb; have n0_ := Aside0.mk (Kd.R_below (Kd.R_elderB (by (with_reducible repeat (first | apply Kd.R_alloc | apply Kd.R_drewN | apply Kd.R_drew)); exact HO_4.out) gb211 (Nat.le_of_eq hg.symm)) hb); have n1_ := Aside0.mk (below_step (by repeat (first | (with_reducible first | exact HB.out | apply below_alloc | apply pw_below_drewN | apply below_drew1) | exact HB.out)) hb); have n2_ := Aside0.mk (hbox); have n3_ := Aside0.mk ((by rw [hg]; exact (below_size (by repeat (first | (with_reducible first | exact HB.out | apply below_alloc | apply pw_below_drewN | apply below_drew1) | exact HB.out))) : w.heap.size ≤ gb211)); have n4_ := Aside0.mk ((by rw [hg]; exact (below_size (by repeat (first | (with_reducible first | exact HB.out | apply below_alloc | apply pw_below_drewN | apply below_drew1) | exact HB.out))) : w.heap.size ≤ gb211)); clear HO_4; clear HB; have HO_4 := n0_; have HB := n1_; have BK211 := n2_; have GW211 := n3_; have GE211 := n4_; clear n0_ n1_ n2_ n3_ n4_; clear hb hbox hg; have hcz43_0 : w42.cell? ⟨gb211, 0, none⟩ = some (.string (⟨#[]⟩ : ByteArray)) := (blk_cell BK211.out 0).trans rfl; have hcz43_1 : w42.cell? ⟨gb211, 1, none⟩ = some (.int .i64 0) := (blk_cell BK211.out 1).trans rfl; have hfz43_0 := blk_frozen BK211.out 0; have hfz43_1 := blk_frozen BK211.out 1))
                                              have n0_ : Aside0 (Kd.R k30 30 ((w42.setCell ⟨gb211, 0, none⟩ (.string (a0.extract ((ji22) : Int).toNat ((wrap64 ((ji22) + (wrap64 (bt a0 (ji10))))) : Int).toNat))).setCell ⟨gb211, 1, none⟩ (.int .i64 (wrap64 ((wrap64 (bt a0 x5_1)) + (wrap64 (256 * (wrap64 (bt a0 (ji6))))))))) w.heap.size (fun k_ => k_ ≠ gb211) u4 x4_1) := ⟨by (with_reducible repeat (first | apply Kd.R_alloc | apply Kd.R_drewN | apply Kd.R_drew)); exact Kd.R_mono (Kd.R_far (p := ⟨gb211, 1, none⟩) (Kd.R_far (p := ⟨gb211, 0, none⟩) (Kd.R_mono HO_4.out (fun k_ hk => (⟨hk, hk.2⟩ : _ ∧ k_ ≠ gb211))) (fun _ hk => hk.2) (.string (a0.extract ((ji22) : Int).toNat ((wrap64 ((ji22) + (wrap64 (bt a0 (ji10))))) : Int).toNat))) (fun _ hk => hk.2) (.int .i64 (wrap64 ((wrap64 (bt a0 x5_1)) + (wrap64 (256 * (wrap64 (bt a0 (ji6))))))))) (fun _ hk => hk.1.2)⟩
                                              have n1_ : Aside0 (((w42.setCell ⟨gb211, 0, none⟩ (.string (a0.extract ((ji22) : Int).toNat ((wrap64 ((ji22) + (wrap64 (bt a0 (ji10))))) : Int).toNat))).setCell ⟨gb211, 1, none⟩ (.int .i64 (wrap64 ((wrap64 (bt a0 x5_1)) + (wrap64 (256 * (wrap64 (bt a0 (ji6))))))))).heap[gb211]? = some (.cells #[.string (a0.extract ((ji22) : Int).toNat ((wrap64 ((ji22) + (wrap64 (bt a0 (ji10))))) : Int).toNat), .int .i64 (wrap64 ((wrap64 (bt a0 x5_1)) + (wrap64 (256 * (wrap64 (bt a0 (ji6)))))))] 30 (0, 0))) := ⟨by (with_reducible repeat (first | refine blk_drewN ?_ _ | refine blk_drew ?_ | refine blk_alloc ?_ _)); refine blk_put (cs := #[.string (a0.extract ((ji22) : Int).toNat ((wrap64 ((ji22) + (wrap64 (bt a0 (ji10))))) : Int).toNat), .int .i64 0]) ?_ 1 _ rfl; (with_reducible repeat (first | refine blk_drewN ?_ _ | refine blk_drew ?_ | refine blk_alloc ?_ _)); refine blk_put (cs := #[.string (⟨#[]⟩ : ByteArray), .int .i64 0]) ?_ 0 _ rfl; (with_reducible repeat (first | refine blk_drewN ?_ _ | refine blk_drew ?_ | refine blk_alloc ?_ _)); exact BK211.out⟩
                                              have n2_ : Aside0 (Below w.heap.size w ((w42.setCell ⟨gb211, 0, none⟩ (.string (a0.extract ((ji22) : Int).toNat ((wrap64 ((ji22) + (wrap64 (bt a0 (ji10))))) : Int).toNat))).setCell ⟨gb211, 1, none⟩ (.int .i64 (wrap64 ((wrap64 (bt a0 x5_1)) + (wrap64 (256 * (wrap64 (bt a0 (ji6)))))))))) := ⟨by repeat (first | (with_reducible first | exact HB.out | apply below_alloc | apply pw_below_drewN | apply below_drew1 | refine below_set ?_ GE211.out) | exact HB.out)⟩
                                              (try clear HO_4)
                                              (try clear BK211)
                                              (try clear HB)
                                              generalize ((w42.setCell ⟨gb211, 0, none⟩ (.string (a0.extract ((ji22) : Int).toNat ((wrap64 ((ji22) + (wrap64 (bt a0 (ji10))))) : Int).toNat))).setCell ⟨gb211, 1, none⟩ (.int .i64 (wrap64 ((wrap64 (bt a0 x5_1)) + (wrap64 (256 * (wrap64 (bt a0 (ji6))))))))) = w44 at n0_ n1_ n2_ ⊢
                                              have HO_4 := n0_
                                              have BK211 := n1_
                                              have HB := n2_
                                              clear n0_ n1_ n2_
                                              have n0_ := Aside0.mk (Kd.R_drew HO_4.out)
                                              have n1_ := Aside0.mk (blk_drew BK211.out)
                                              have n2_ := Aside0.mk (below_drew1 HB.out)
                                              clear HO_4
                                              clear BK211
                                              clear HB
                                              have HO_4 := n0_
                                              have BK211 := n1_
                                              have HB := n2_
                                              clear n0_ n1_ n2_
                                              refine start_ (n := 8) (S := fun w' => w'.cell? ⟨gb211, 0, none⟩ = some (.string (a0.extract ((ji22) : Int).toNat ((wrap64 ((ji22) + (wrap64 (bt a0 (ji10))))) : Int).toNat)) ∧ w'.cell? ⟨gb211, 1, none⟩ = some (.int .i64 (wrap64 ((wrap64 (bt a0 x5_1)) + (wrap64 (256 * (wrap64 (bt a0 (ji6))))))))) (ds := []) #[false, false, false, false, false, false, false, false] (by kernel_rfl) rfl rfl ⟨(blk_cell BK211.out 0).trans rfl, (blk_cell BK211.out 1).trans rfl⟩ (fun hHeld => ?_); refine with_tabW reliquaryref22_Read.tab12 reliquaryref22_Read.bits12 (fun HT_ HW_ => ?_)
                                              generalize w44.drew = w45 at HO_4 BK211 HB hHeld ⊢
                                              refine pure_ (i := 2) (N := some 65) (v := ?_) (a' := ?_) #[false, false, true, false, false, false, false, false] rfl rfl (any_of HT_.out (by kernel_rfl)) (fun _ _ _ h => h) (Or.inl ⟨by rfl, ?_⟩) ?_ ?_
                                              rotate_left
                                              · intro w'
                                                go_simp
                                                with_reducible rfl
                                              rotate_left
                                              · simp only [Act.put, List.setIfInBounds_toArray, List.set_cons_zero, List.set_cons_succ, i64_w, i32_w]
                                                rfl
                                              refine pure_ (i := 3) (N := some 66) (v := ?_) (a' := ?_) #[false, false, true, true, false, false, false, false] rfl rfl (any_of HT_.out (by kernel_rfl)) (fun _ _ _ h => h) (Or.inl ⟨by rfl, ?_⟩) ?_ ?_
                                              rotate_left
                                              · intro w'
                                                go_simp
                                                with_reducible rfl
                                              rotate_left
                                              · simp only [Act.put, List.setIfInBounds_toArray, List.set_cons_zero, List.set_cons_succ, i64_w, i32_w]
                                                rfl
                                              refine pure_ (i := 4) (N := some 67) (v := ?_) (a' := ?_) #[false, false, true, true, true, false, false, false] rfl rfl (any_of HT_.out (by kernel_rfl)) (fun _ _ _ h => h) (Or.inl ⟨by rfl, ?_⟩) ?_ ?_
                                              rotate_left
                                              · intro w'
                                                go_simp
                                                with_reducible rfl
                                              rotate_left
                                              · simp only [Act.put, List.setIfInBounds_toArray, List.set_cons_zero, List.set_cons_succ, i64_w, i32_w]
                                                rfl
                                              refine pure_ (i := 5) (N := some 68) (v := ?_) (a' := ?_) #[false, false, true, true, true, true, false, false] rfl rfl (any_of HT_.out (by kernel_rfl)) (fun _ _ _ h => h) (Or.inl ⟨by rfl, ?_⟩) ?_ ?_
                                              rotate_left
                                              · intro w'
                                                go_simp
                                                with_reducible rfl
                                              rotate_left
                                              · simp only [Act.put, List.setIfInBounds_toArray, List.set_cons_zero, List.set_cons_succ, i64_w, i32_w]
                                                rfl
                                              refine pure_ (i := 6) (N := some 69) (v := ?_) (a' := ?_) #[false, false, true, true, true, true, true, false] rfl rfl (any_of HT_.out (by kernel_rfl)) (fun _ _ _ h => h) (Or.inl ⟨by rfl, ?_⟩) ?_ ?_
                                              rotate_left
                                              · intro w'
                                                go_simp
                                                with_reducible rfl
                                              rotate_left
                                              · simp only [Act.put, List.setIfInBounds_toArray, List.set_cons_zero, List.set_cons_succ, i64_w, i32_w]
                                                rfl
                                              refine take_ (i := 0) (N := some 63) (v := ?_) (a' := ?_) #[true, false, true, true, true, true, true, false] rfl rfl (take_ofW HT_.out HW_.out (by kernel_rfl)) (fun _ _ _ h => h) (Or.inl ⟨by rfl, ?_⟩) hHeld ?_ ?_
                                              rotate_left
                                              · rintro w' ⟨s0, s1⟩
                                                go_simp
                                                with_reducible rfl
                                              rotate_left
                                              · simp only [Act.put, List.setIfInBounds_toArray, List.set_cons_zero, List.set_cons_succ, i64_w, i32_w]
                                                rfl
                                              refine one_ (i := 1) (N := some 64) #[true, true, true, true, true, true, true, false] rfl rfl (one_of HT_.out (by kernel_rfl)) (by decide) (fun K hK => ?_)
                                              refine goes_ Try.func23 (by kernel_rfl) rfl #[.agg #[.string (a0.extract ((ji22) : Int).toNat ((wrap64 ((ji22) + (wrap64 (bt a0 (ji10))))) : Int).toNat), .int .i64 (wrap64 ((wrap64 (bt a0 x5_1)) + (wrap64 (256 * (wrap64 (bt a0 (ji6)))))))]] (by rfl) rfl rfl (by (try simp only [List.map_toArray, List.map_cons, List.map_nil]); first | done | (simp only [hji10, hji22, hji6]; rfl) | rfl | (simp only [List.length_drop, List.length_take]; rfl)) ?_
                                              with_reducible refine (reliquaryref22_Piece.calls kj13 (a0.extract ((ji22) : Int).toNat ((wrap64 ((ji22) + (wrap64 (bt a0 (ji10))))) : Int).toNat) (wrap64 ((wrap64 (bt a0 x5_1)) + (wrap64 (256 * (wrap64 (bt a0 (ji6))))))) t212 _ A26.out).mono ?_
                                              rintro e w46 ⟨rfl, hb⟩
                                              refine ⟨_, rfl, ?_⟩
                                              have n0_ := Aside0.mk (Kd.R_below (by (with_reducible repeat (first | apply Kd.R_alloc | apply Kd.R_drewN | apply Kd.R_drew)); exact HO_4.out) hb)
                                              have n1_ := Aside0.mk (blk_below (g := gb211) (o := .cells #[.string (a0.extract ((ji22) : Int).toNat ((wrap64 ((ji22) + (wrap64 (bt a0 (ji10))))) : Int).toNat), .int .i64 (wrap64 ((wrap64 (bt a0 x5_1)) + (wrap64 (256 * (wrap64 (bt a0 (ji6)))))))] 30 (0, 0)) (by (with_reducible repeat (first | refine blk_drewN ?_ _ | refine blk_drew ?_ | refine blk_alloc ?_ _)); exact BK211.out) hb)
                                              have n2_ := Aside0.mk (below_step (by repeat (first | (with_reducible first | exact HB.out | apply below_alloc | apply pw_below_drewN | apply below_drew1 | refine below_set ?_ GE211.out) | exact HB.out)) hb)
                                              clear HO_4
                                              clear BK211
                                              clear HB
                                              have HO_4 := n0_
                                              have BK211 := n1_
                                              have HB := n2_
                                              clear n0_ n1_ n2_
                                              (try clear hb)
                                              (try clear hb2)
                                              (try clear hk)
                                              (try clear hi)
                                              refine hK.out _ _ ⟨(blk_cell BK211.out 0).trans rfl, (blk_cell BK211.out 1).trans rfl⟩ (fun hHeld => ?_)
                                              clear hK K
                                              refine norm_ (a' := ?_) ?_ ?_
                                              rotate_left
                                              · show Act.put _ (some 64) _ = _
                                                simp only [Act.put, List.setIfInBounds_toArray, List.set_cons_zero, List.set_cons_succ, i64_w, i32_w]
                                                rfl
                                              refine pure_ (i := 7) (N := some 70) (v := ?_) (a' := ?_) #[true, true, true, true, true, true, true, true] rfl rfl (any_of HT_.out (by kernel_rfl)) (fun _ _ _ h => h) (Or.inl ⟨by rfl, ?_⟩) ?_ ?_
                                              rotate_left
                                              · intro w'
                                                go_simp
                                                with_reducible rfl
                                              rotate_left
                                              · simp only [Act.put, List.setIfInBounds_toArray, List.set_cons_zero, List.set_cons_succ, i64_w, i32_w]
                                                rfl
                                              refine done_ (done_of HT_.out (by kernel_rfl)) ?_
                                              have hcz47_0 : w46.cell? ⟨gb211, 0, none⟩ = some (.string (a0.extract ((ji22) : Int).toNat ((wrap64 ((ji22) + (wrap64 (bt a0 (ji10))))) : Int).toNat)) := (blk_cell BK211.out 0).trans rfl
                                              have hcz47_1 : w46.cell? ⟨gb211, 1, none⟩ = some (.int .i64 (wrap64 ((wrap64 (bt a0 x5_1)) + (wrap64 (256 * (wrap64 (bt a0 (ji6)))))))) := (blk_cell BK211.out 1).trans rfl
                                              have hfz47_0 := blk_frozen BK211.out 0
                                              have hfz47_1 := blk_frozen BK211.out 1
                                              obtain ⟨Ao48, co48, eo48⟩ := Kd.R_slice HO_4.out
                                              subst eo48
                                              try go_wp2_with (first | (go_at_call 27; (with_reducible refine (reliquaryref22_Find.calls kj13 _ _ x4_1 (a0.extract ((ji22) : Int).toNat ((wrap64 ((ji22) + (wrap64 (bt a0 (ji10))))) : Int).toNat) t213 _ ?side1 ?side2 A32.out).mono ?_); (case side1 => repeat (first | exact (Kd.R_reads' HO_4.out).2.2 | (with_reducible refine Kd.C_alloc ?_ _) | (with_reducible refine Kd.C_drewN ?_ _) | (with_reducible refine Kd.C_drew ?_))); (case side2 => exact (Kd.R_reads' HO_4.out).2.1); rintro e w' ⟨rfl, ⟨nd, rfl⟩⟩) | ((with_reducible refine gate_builtin (b := .append) (xs := #[.tmp 80, .tmp 82]) rfl ?_); at_builtin; refine Kd.R_append k30 (w0 := w) w.heap.size rfl (.tmp 80) (.tmp 82) 45 30 (.agg #[(.string ⟨#[]⟩), (.int .i64 0)]) 24 rfl Try.underlying45 info30 rfl (by decide) (by omega) (.slice Ao48 x4_1.length co48) x4_1 (⟨a0.extract ((ji22) : Int).toNat ((wrap64 ((ji22) + (wrap64 (bt a0 (ji10))))) : Int).toNat, (wrap64 ((wrap64 (bt a0 x5_1)) + (wrap64 (256 * (wrap64 (bt a0 (ji6)))))))⟩ : S30) [.string (a0.extract ((ji22) : Int).toNat ((wrap64 ((ji22) + (wrap64 (bt a0 (ji10))))) : Int).toNat), .int .i64 (wrap64 ((wrap64 (bt a0 x5_1)) + (wrap64 (256 * (wrap64 (bt a0 (ji6)))))))] (fun k_ => k_ ≠ gb211) (fun _ => False) rfl rfl ?aP (fun _ hk => hk.elim) ?aF ?aO ?aB ?aS ?aL ?_; (case aP => exact k30_mkM _ _ _ (⟨a0.extract ((ji22) : Int).toNat ((wrap64 ((ji22) + (wrap64 (bt a0 (ji10))))) : Int).toNat, (wrap64 ((wrap64 (bt a0 x5_1)) + (wrap64 (256 * (wrap64 (bt a0 (ji6)))))))⟩ : S30)); (case aB => exact (by repeat (first | (with_reducible first | exact HB.out | apply below_alloc | apply pw_below_drewN | apply below_drew1 | refine below_set ?_ GE211.out) | exact HB.out))); (case aF => exact (fun k_ hk => Kd.freshB (g := gb211) (o := .cells #[.string (a0.extract ((ji22) : Int).toNat ((wrap64 ((ji22) + (wrap64 (bt a0 (ji10))))) : Int).toNat), .int .i64 (wrap64 ((wrap64 (bt a0 x5_1)) + (wrap64 (256 * (wrap64 (bt a0 (ji6)))))))] 30 (0, 0)) (by (with_reducible repeat (first | refine blk_drewN ?_ _ | refine blk_drew ?_ | refine blk_alloc ?_ _)); exact BK211.out) k_ hk)); (case aO => exact (by (with_reducible repeat (first | apply Kd.R_alloc | apply Kd.R_drewN | apply Kd.R_drew)); exact HO_4.out)); (case aS => exact (below_size (by repeat (first | (with_reducible first | exact HB.out | apply below_alloc | apply pw_below_drewN | apply below_drew1 | refine below_set ?_ GE211.out) | exact HB.out)))); (case aL => have := LMc41.out; omega); intro v215 w49 ho hb hg hat; rw [← Ny214.out] at ho; have n0_ := Aside0.mk (blk_grown (g := gb211) (o := .cells #[.string (a0.extract ((ji22) : Int).toNat ((wrap64 ((ji22) + (wrap64 (bt a0 (ji10))))) : Int).toNat), .int .i64 (wrap64 ((wrap64 (bt a0 x5_1)) + (wrap64 (256 * (wrap64 (bt a0 (ji6)))))))] 30 (0, 0)) (by (with_reducible repeat (first | refine blk_drewN ?_ _ | refine blk_drew ?_ | refine blk_alloc ?_ _)); exact BK211.out) hg (Kd.R_away HO_4.out (fun _ hk => hk))); have n1_ := Aside0.mk (hb); have n2_ := Aside0.mk (ho); clear BK211; clear HB; clear HO_4; have BK211 := n0_; have HB := n1_; have HO216 := n2_; clear n0_ n1_ n2_; clear ho hb hg hat))
                                              go_roundg kj13
                                              case measure => have := HK1.out; have := HJ13.out; omega
                                              case rel => exact ⟨(y214), (wrap64 (x5_1 + 32)), (by first | rfl | (simp; done) | (simp [*]; done)), H', ⟨by have := HK1.out; have := HJ13.out; omega⟩, ⟨by (with_reducible repeat (first | apply Kd.R_alloc | apply Kd.R_drewN | apply Kd.R_drew)); exact Kd.R_mono HO216.out (fun _ hk => trivial)⟩, ⟨by repeat (first | (with_reducible first | exact HB.out | apply below_alloc | apply pw_below_drewN | apply below_drew1 | refine below_set ?_ GE211.out) | exact HB.out)⟩⟩
                                            · rw [if_neg c41] at H
                                              exact absurd H (by simp)
                                        · rw [if_neg c31] at H
                                          have c31b0 : decide (0 < (wrap64 ((wrap64 (bt a0 x5_1)) + (wrap64 (256 * (wrap64 (bt a0 (ji6)))))))) = false := decide_eq_false c31
                                          clear c31
                                          by_cases c50 : x4_1.length < 5864062014805
                                          · rw [if_pos c50] at H
                                            have LMc50 := Aside0.mk c50
                                            clear c50
                                            obtain ⟨y217, hy217⟩ : ∃ y_ : List (S30), y_ = (x4_1 ++ [(⟨a0.extract ((ji22) : Int).toNat ((wrap64 ((ji22) + (wrap64 (bt a0 (ji10))))) : Int).toNat, (wrap64 ((wrap64 (bt a0 x5_1)) + (wrap64 (256 * (wrap64 (bt a0 (ji6)))))))⟩ : S30)]) := ⟨_, rfl⟩
                                            replace H : (reliquaryref22_Read.l0 kj13 a0 y217 (wrap64 (x5_1 + 32))) = some (r1, r2) := by first | (rw [hy217]; with_reducible exact H) | (have H2_ := (Option.bind_some _ _).symm.trans H; rw [hy217]; with_reducible exact H2_) | (have H2_ := (Option.bind_some _ _).symm.trans H; with_reducible exact H2_) | with_reducible exact H | (rw [hy217]; exact H) | exact H
                                            have Ny217 := Aside0.mk hy217
                                            clear hy217
                                            have H' := Aside0.mk H
                                            clear H
                                            try go_wp2_with (first | ((with_reducible refine gate_dst (N := 8) rfl ?_); refine box_event ?hg (N := 8) ?hd (cs := #[.string (⟨#[]⟩ : ByteArray), .int .i64 0]) (t := 30) ?hr ?_; (case hd => rfl); (case hg => rfl); (case hr => first | (go_simp; done) | (go_simp; rfl)); intro gb211 hg w51 hbox hb; have n0_ := Aside0.mk (Kd.R_below (Kd.R_elderB (by (with_reducible repeat (first | apply Kd.R_alloc | apply Kd.R_drewN | apply Kd.R_drew)); exact HO_4.out) gb211 (Nat.le_of_eq hg.symm)) hb); have n1_ := Aside0.mk (below_step (by repeat (first | (with_reducible first | exact HB.out | apply below_alloc | apply pw_below_drewN | apply below_drew1) | exact HB.out)) hb); have n2_ := Aside0.mk (hbox); have n3_ := Aside0.mk ((by rw [hg]; exact (below_size (by repeat (first | (with_reducible first | exact HB.out | apply below_alloc | apply pw_below_drewN | apply below_drew1) | exact HB.out))) : w.heap.size ≤ gb211)); have n4_ := Aside0.mk ((by rw [hg]; exact (below_size (by repeat (first | (with_reducible first | exact HB.out | apply below_alloc | apply pw_below_drewN | apply below_drew1) | exact HB.out))) : w.heap.size ≤ gb211)); clear HO_4; clear HB; have HO_4 := n0_; have HB := n1_; have BK211 := n2_; have GW211 := n3_; have GE211 := n4_; clear n0_ n1_ n2_ n3_ n4_; clear hb hbox hg; have hcz52_0 : w51.cell? ⟨gb211, 0, none⟩ = some (.string (⟨#[]⟩ : ByteArray)) := (blk_cell BK211.out 0).trans rfl; have hcz52_1 : w51.cell? ⟨gb211, 1, none⟩ = some (.int .i64 0) := (blk_cell BK211.out 1).trans rfl; have hfz52_0 := blk_frozen BK211.out 0; have hfz52_1 := blk_frozen BK211.out 1))
                                            have n0_ : Aside0 (Kd.R k30 30 ((w51.setCell ⟨gb211, 0, none⟩ (.string (a0.extract ((ji22) : Int).toNat ((wrap64 ((ji22) + (wrap64 (bt a0 (ji10))))) : Int).toNat))).setCell ⟨gb211, 1, none⟩ (.int .i64 (wrap64 ((wrap64 (bt a0 x5_1)) + (wrap64 (256 * (wrap64 (bt a0 (ji6))))))))) w.heap.size (fun k_ => k_ ≠ gb211) u4 x4_1) := ⟨by (with_reducible repeat (first | apply Kd.R_alloc | apply Kd.R_drewN | apply Kd.R_drew)); exact Kd.R_mono (Kd.R_far (p := ⟨gb211, 1, none⟩) (Kd.R_far (p := ⟨gb211, 0, none⟩) (Kd.R_mono HO_4.out (fun k_ hk => (⟨hk, hk.2⟩ : _ ∧ k_ ≠ gb211))) (fun _ hk => hk.2) (.string (a0.extract ((ji22) : Int).toNat ((wrap64 ((ji22) + (wrap64 (bt a0 (ji10))))) : Int).toNat))) (fun _ hk => hk.2) (.int .i64 (wrap64 ((wrap64 (bt a0 x5_1)) + (wrap64 (256 * (wrap64 (bt a0 (ji6))))))))) (fun _ hk => hk.1.2)⟩
                                            have n1_ : Aside0 (((w51.setCell ⟨gb211, 0, none⟩ (.string (a0.extract ((ji22) : Int).toNat ((wrap64 ((ji22) + (wrap64 (bt a0 (ji10))))) : Int).toNat))).setCell ⟨gb211, 1, none⟩ (.int .i64 (wrap64 ((wrap64 (bt a0 x5_1)) + (wrap64 (256 * (wrap64 (bt a0 (ji6))))))))).heap[gb211]? = some (.cells #[.string (a0.extract ((ji22) : Int).toNat ((wrap64 ((ji22) + (wrap64 (bt a0 (ji10))))) : Int).toNat), .int .i64 (wrap64 ((wrap64 (bt a0 x5_1)) + (wrap64 (256 * (wrap64 (bt a0 (ji6)))))))] 30 (0, 0))) := ⟨by (with_reducible repeat (first | refine blk_drewN ?_ _ | refine blk_drew ?_ | refine blk_alloc ?_ _)); refine blk_put (cs := #[.string (a0.extract ((ji22) : Int).toNat ((wrap64 ((ji22) + (wrap64 (bt a0 (ji10))))) : Int).toNat), .int .i64 0]) ?_ 1 _ rfl; (with_reducible repeat (first | refine blk_drewN ?_ _ | refine blk_drew ?_ | refine blk_alloc ?_ _)); refine blk_put (cs := #[.string (⟨#[]⟩ : ByteArray), .int .i64 0]) ?_ 0 _ rfl; (with_reducible repeat (first | refine blk_drewN ?_ _ | refine blk_drew ?_ | refine blk_alloc ?_ _)); exact BK211.out⟩
                                            have n2_ : Aside0 (Below w.heap.size w ((w51.setCell ⟨gb211, 0, none⟩ (.string (a0.extract ((ji22) : Int).toNat ((wrap64 ((ji22) + (wrap64 (bt a0 (ji10))))) : Int).toNat))).setCell ⟨gb211, 1, none⟩ (.int .i64 (wrap64 ((wrap64 (bt a0 x5_1)) + (wrap64 (256 * (wrap64 (bt a0 (ji6)))))))))) := ⟨by repeat (first | (with_reducible first | exact HB.out | apply below_alloc | apply pw_below_drewN | apply below_drew1 | refine below_set ?_ GE211.out) | exact HB.out)⟩
                                            (try clear HO_4)
                                            (try clear BK211)
                                            (try clear HB)
                                            generalize ((w51.setCell ⟨gb211, 0, none⟩ (.string (a0.extract ((ji22) : Int).toNat ((wrap64 ((ji22) + (wrap64 (bt a0 (ji10))))) : Int).toNat))).setCell ⟨gb211, 1, none⟩ (.int .i64 (wrap64 ((wrap64 (bt a0 x5_1)) + (wrap64 (256 * (wrap64 (bt a0 (ji6))))))))) = w53 at n0_ n1_ n2_ ⊢
                                            have HO_4 := n0_
                                            have BK211 := n1_
                                            have HB := n2_
                                            clear n0_ n1_ n2_
                                            have n0_ := Aside0.mk (Kd.R_drew HO_4.out)
                                            have n1_ := Aside0.mk (blk_drew BK211.out)
                                            have n2_ := Aside0.mk (below_drew1 HB.out)
                                            clear HO_4
                                            clear BK211
                                            clear HB
                                            have HO_4 := n0_
                                            have BK211 := n1_
                                            have HB := n2_
                                            clear n0_ n1_ n2_
                                            refine start_ (n := 8) (S := fun w' => w'.cell? ⟨gb211, 0, none⟩ = some (.string (a0.extract ((ji22) : Int).toNat ((wrap64 ((ji22) + (wrap64 (bt a0 (ji10))))) : Int).toNat)) ∧ w'.cell? ⟨gb211, 1, none⟩ = some (.int .i64 (wrap64 ((wrap64 (bt a0 x5_1)) + (wrap64 (256 * (wrap64 (bt a0 (ji6))))))))) (ds := []) #[false, false, false, false, false, false, false, false] (by kernel_rfl) rfl rfl ⟨(blk_cell BK211.out 0).trans rfl, (blk_cell BK211.out 1).trans rfl⟩ (fun hHeld => ?_); refine with_tabW reliquaryref22_Read.tab12 reliquaryref22_Read.bits12 (fun HT_ HW_ => ?_)
                                            generalize w53.drew = w54 at HO_4 BK211 HB hHeld ⊢
                                            refine pure_ (i := 2) (N := some 65) (v := ?_) (a' := ?_) #[false, false, true, false, false, false, false, false] rfl rfl (any_of HT_.out (by kernel_rfl)) (fun _ _ _ h => h) (Or.inl ⟨by rfl, ?_⟩) ?_ ?_
                                            rotate_left
                                            · intro w'
                                              go_simp
                                              with_reducible rfl
                                            rotate_left
                                            · simp only [Act.put, List.setIfInBounds_toArray, List.set_cons_zero, List.set_cons_succ, i64_w, i32_w]
                                              rfl
                                            refine pure_ (i := 3) (N := some 66) (v := ?_) (a' := ?_) #[false, false, true, true, false, false, false, false] rfl rfl (any_of HT_.out (by kernel_rfl)) (fun _ _ _ h => h) (Or.inl ⟨by rfl, ?_⟩) ?_ ?_
                                            rotate_left
                                            · intro w'
                                              go_simp
                                              with_reducible rfl
                                            rotate_left
                                            · simp only [Act.put, List.setIfInBounds_toArray, List.set_cons_zero, List.set_cons_succ, i64_w, i32_w]
                                              rfl
                                            refine pure_ (i := 4) (N := some 67) (v := ?_) (a' := ?_) #[false, false, true, true, true, false, false, false] rfl rfl (any_of HT_.out (by kernel_rfl)) (fun _ _ _ h => h) (Or.inl ⟨by rfl, ?_⟩) ?_ ?_
                                            rotate_left
                                            · intro w'
                                              go_simp
                                              with_reducible rfl
                                            rotate_left
                                            · simp only [Act.put, List.setIfInBounds_toArray, List.set_cons_zero, List.set_cons_succ, i64_w, i32_w]
                                              rfl
                                            refine pure_ (i := 5) (N := some 68) (v := ?_) (a' := ?_) #[false, false, true, true, true, true, false, false] rfl rfl (any_of HT_.out (by kernel_rfl)) (fun _ _ _ h => h) (Or.inl ⟨by rfl, ?_⟩) ?_ ?_
                                            rotate_left
                                            · intro w'
                                              go_simp
                                              with_reducible rfl
                                            rotate_left
                                            · simp only [Act.put, List.setIfInBounds_toArray, List.set_cons_zero, List.set_cons_succ, i64_w, i32_w]
                                              rfl
                                            refine pure_ (i := 6) (N := some 69) (v := ?_) (a' := ?_) #[false, false, true, true, true, true, true, false] rfl rfl (any_of HT_.out (by kernel_rfl)) (fun _ _ _ h => h) (Or.inl ⟨by rfl, ?_⟩) ?_ ?_
                                            rotate_left
                                            · intro w'
                                              go_simp
                                              with_reducible rfl
                                            rotate_left
                                            · simp only [Act.put, List.setIfInBounds_toArray, List.set_cons_zero, List.set_cons_succ, i64_w, i32_w]
                                              rfl
                                            refine take_ (i := 0) (N := some 63) (v := ?_) (a' := ?_) #[true, false, true, true, true, true, true, false] rfl rfl (take_ofW HT_.out HW_.out (by kernel_rfl)) (fun _ _ _ h => h) (Or.inl ⟨by rfl, ?_⟩) hHeld ?_ ?_
                                            rotate_left
                                            · rintro w' ⟨s0, s1⟩
                                              go_simp
                                              with_reducible rfl
                                            rotate_left
                                            · simp only [Act.put, List.setIfInBounds_toArray, List.set_cons_zero, List.set_cons_succ, i64_w, i32_w]
                                              rfl
                                            refine one_ (i := 1) (N := some 64) #[true, true, true, true, true, true, true, false] rfl rfl (one_of HT_.out (by kernel_rfl)) (by decide) (fun K hK => ?_)
                                            refine goes_ Try.func23 (by kernel_rfl) rfl #[.agg #[.string (a0.extract ((ji22) : Int).toNat ((wrap64 ((ji22) + (wrap64 (bt a0 (ji10))))) : Int).toNat), .int .i64 (wrap64 ((wrap64 (bt a0 x5_1)) + (wrap64 (256 * (wrap64 (bt a0 (ji6)))))))]] (by rfl) rfl rfl (by (try simp only [List.map_toArray, List.map_cons, List.map_nil]); first | done | (simp only [hji10, hji22, hji6]; rfl) | rfl | (simp only [List.length_drop, List.length_take]; rfl)) ?_
                                            with_reducible refine (reliquaryref22_Piece.calls kj13 (a0.extract ((ji22) : Int).toNat ((wrap64 ((ji22) + (wrap64 (bt a0 (ji10))))) : Int).toNat) (wrap64 ((wrap64 (bt a0 x5_1)) + (wrap64 (256 * (wrap64 (bt a0 (ji6))))))) t212 _ A26.out).mono ?_
                                            rintro e w55 ⟨rfl, hb⟩
                                            refine ⟨_, rfl, ?_⟩
                                            have n0_ := Aside0.mk (Kd.R_below (by (with_reducible repeat (first | apply Kd.R_alloc | apply Kd.R_drewN | apply Kd.R_drew)); exact HO_4.out) hb)
                                            have n1_ := Aside0.mk (blk_below (g := gb211) (o := .cells #[.string (a0.extract ((ji22) : Int).toNat ((wrap64 ((ji22) + (wrap64 (bt a0 (ji10))))) : Int).toNat), .int .i64 (wrap64 ((wrap64 (bt a0 x5_1)) + (wrap64 (256 * (wrap64 (bt a0 (ji6)))))))] 30 (0, 0)) (by (with_reducible repeat (first | refine blk_drewN ?_ _ | refine blk_drew ?_ | refine blk_alloc ?_ _)); exact BK211.out) hb)
                                            have n2_ := Aside0.mk (below_step (by repeat (first | (with_reducible first | exact HB.out | apply below_alloc | apply pw_below_drewN | apply below_drew1 | refine below_set ?_ GE211.out) | exact HB.out)) hb)
                                            clear HO_4
                                            clear BK211
                                            clear HB
                                            have HO_4 := n0_
                                            have BK211 := n1_
                                            have HB := n2_
                                            clear n0_ n1_ n2_
                                            (try clear hb)
                                            (try clear hb2)
                                            (try clear hk)
                                            (try clear hi)
                                            refine hK.out _ _ ⟨(blk_cell BK211.out 0).trans rfl, (blk_cell BK211.out 1).trans rfl⟩ (fun hHeld => ?_)
                                            clear hK K
                                            refine norm_ (a' := ?_) ?_ ?_
                                            rotate_left
                                            · show Act.put _ (some 64) _ = _
                                              simp only [Act.put, List.setIfInBounds_toArray, List.set_cons_zero, List.set_cons_succ, i64_w, i32_w]
                                              rfl
                                            refine pure_ (i := 7) (N := some 70) (v := ?_) (a' := ?_) #[true, true, true, true, true, true, true, true] rfl rfl (any_of HT_.out (by kernel_rfl)) (fun _ _ _ h => h) (Or.inl ⟨by rfl, ?_⟩) ?_ ?_
                                            rotate_left
                                            · intro w'
                                              go_simp
                                              with_reducible rfl
                                            rotate_left
                                            · simp only [Act.put, List.setIfInBounds_toArray, List.set_cons_zero, List.set_cons_succ, i64_w, i32_w]
                                              rfl
                                            refine done_ (done_of HT_.out (by kernel_rfl)) ?_
                                            have hcz56_0 : w55.cell? ⟨gb211, 0, none⟩ = some (.string (a0.extract ((ji22) : Int).toNat ((wrap64 ((ji22) + (wrap64 (bt a0 (ji10))))) : Int).toNat)) := (blk_cell BK211.out 0).trans rfl
                                            have hcz56_1 : w55.cell? ⟨gb211, 1, none⟩ = some (.int .i64 (wrap64 ((wrap64 (bt a0 x5_1)) + (wrap64 (256 * (wrap64 (bt a0 (ji6)))))))) := (blk_cell BK211.out 1).trans rfl
                                            have hfz56_0 := blk_frozen BK211.out 0
                                            have hfz56_1 := blk_frozen BK211.out 1
                                            try go_wp2_with (first | ((with_reducible refine gate_builtin (b := .append) (xs := #[.tmp 80, .tmp 82]) rfl ?_); at_builtin; refine Kd.R_append k30 (w0 := w) w.heap.size rfl (.tmp 80) (.tmp 82) 45 30 (.agg #[(.string ⟨#[]⟩), (.int .i64 0)]) 24 rfl Try.underlying45 info30 rfl (by decide) (by omega) u4 x4_1 (⟨a0.extract ((ji22) : Int).toNat ((wrap64 ((ji22) + (wrap64 (bt a0 (ji10))))) : Int).toNat, (wrap64 ((wrap64 (bt a0 x5_1)) + (wrap64 (256 * (wrap64 (bt a0 (ji6)))))))⟩ : S30) [.string (a0.extract ((ji22) : Int).toNat ((wrap64 ((ji22) + (wrap64 (bt a0 (ji10))))) : Int).toNat), .int .i64 (wrap64 ((wrap64 (bt a0 x5_1)) + (wrap64 (256 * (wrap64 (bt a0 (ji6)))))))] (fun k_ => k_ ≠ gb211) (fun _ => False) rfl rfl ?aP (fun _ hk => hk.elim) ?aF ?aO ?aB ?aS ?aL ?_; (case aP => exact k30_mkM _ _ _ (⟨a0.extract ((ji22) : Int).toNat ((wrap64 ((ji22) + (wrap64 (bt a0 (ji10))))) : Int).toNat, (wrap64 ((wrap64 (bt a0 x5_1)) + (wrap64 (256 * (wrap64 (bt a0 (ji6)))))))⟩ : S30)); (case aB => exact (by repeat (first | (with_reducible first | exact HB.out | apply below_alloc | apply pw_below_drewN | apply below_drew1 | refine below_set ?_ GE211.out) | exact HB.out))); (case aF => exact (fun k_ hk => Kd.freshB (g := gb211) (o := .cells #[.string (a0.extract ((ji22) : Int).toNat ((wrap64 ((ji22) + (wrap64 (bt a0 (ji10))))) : Int).toNat), .int .i64 (wrap64 ((wrap64 (bt a0 x5_1)) + (wrap64 (256 * (wrap64 (bt a0 (ji6)))))))] 30 (0, 0)) (by (with_reducible repeat (first | refine blk_drewN ?_ _ | refine blk_drew ?_ | refine blk_alloc ?_ _)); exact BK211.out) k_ hk)); (case aO => exact (by (with_reducible repeat (first | apply Kd.R_alloc | apply Kd.R_drewN | apply Kd.R_drew)); exact HO_4.out)); (case aS => exact (below_size (by repeat (first | (with_reducible first | exact HB.out | apply below_alloc | apply pw_below_drewN | apply below_drew1 | refine below_set ?_ GE211.out) | exact HB.out)))); (case aL => have := LMc50.out; omega); intro v218 w57 ho hb hg hat; rw [← Ny217.out] at ho; have n0_ := Aside0.mk (blk_grown (g := gb211) (o := .cells #[.string (a0.extract ((ji22) : Int).toNat ((wrap64 ((ji22) + (wrap64 (bt a0 (ji10))))) : Int).toNat), .int .i64 (wrap64 ((wrap64 (bt a0 x5_1)) + (wrap64 (256 * (wrap64 (bt a0 (ji6)))))))] 30 (0, 0)) (by (with_reducible repeat (first | refine blk_drewN ?_ _ | refine blk_drew ?_ | refine blk_alloc ?_ _)); exact BK211.out) hg (Kd.R_away HO_4.out (fun _ hk => hk))); have n1_ := Aside0.mk (hb); have n2_ := Aside0.mk (ho); clear BK211; clear HB; clear HO_4; have BK211 := n0_; have HB := n1_; have HO219 := n2_; clear n0_ n1_ n2_; clear ho hb hg hat))
                                            go_roundg kj13
                                            case measure => have := HK1.out; have := HJ13.out; omega
                                            case rel => exact ⟨(y217), (wrap64 (x5_1 + 32)), (by first | rfl | (simp; done) | (simp [*]; done)), H', ⟨by have := HK1.out; have := HJ13.out; omega⟩, ⟨by (with_reducible repeat (first | apply Kd.R_alloc | apply Kd.R_drewN | apply Kd.R_drew)); exact Kd.R_mono HO219.out (fun _ hk => trivial)⟩, ⟨by repeat (first | (with_reducible first | exact HB.out | apply below_alloc | apply pw_below_drewN | apply below_drew1 | refine below_set ?_ GE211.out) | exact HB.out)⟩⟩
                                          · rw [if_neg c50] at H
                                            exact absurd H (by simp)
                                      · rw [if_neg c30] at H
                                        have c30b0 : (t212.toList == (a0.extract (x5_1 : Int).toNat ((wrap64 (x5_1 + 32)) : Int).toNat).toList) = false := beq_eq_false_iff_ne.mpr c30
                                        have c30b1 : (t212.toList != (a0.extract (x5_1 : Int).toNat ((wrap64 (x5_1 + 32)) : Int).toNat).toList) = true := bne_iff_ne.mpr c30
                                        simp only [Option.some.injEq, Prod.mk.injEq] at H
                                        obtain ⟨rfl, rfl⟩ := H
                                        try go_wp2_with (first | ((with_reducible refine gate_dst (N := 8) rfl ?_); refine box_event ?hg (N := 8) ?hd (cs := #[.string (⟨#[]⟩ : ByteArray), .int .i64 0]) (t := 30) ?hr ?_; (case hd => rfl); (case hg => rfl); (case hr => first | (go_simp; done) | (go_simp; rfl)); intro gb211 hg w58 hbox hb; have n0_ := Aside0.mk (Kd.R_below (Kd.R_elderB (by (with_reducible repeat (first | apply Kd.R_alloc | apply Kd.R_drewN | apply Kd.R_drew)); exact HO_4.out) gb211 (Nat.le_of_eq hg.symm)) hb); have n1_ := Aside0.mk (below_step (by repeat (first | (with_reducible first | exact HB.out | apply below_alloc | apply pw_below_drewN | apply below_drew1) | exact HB.out)) hb); have n2_ := Aside0.mk (hbox); have n3_ := Aside0.mk ((by rw [hg]; exact (below_size (by repeat (first | (with_reducible first | exact HB.out | apply below_alloc | apply pw_below_drewN | apply below_drew1) | exact HB.out))) : w.heap.size ≤ gb211)); have n4_ := Aside0.mk ((by rw [hg]; exact (below_size (by repeat (first | (with_reducible first | exact HB.out | apply below_alloc | apply pw_below_drewN | apply below_drew1) | exact HB.out))) : w.heap.size ≤ gb211)); clear HO_4; clear HB; have HO_4 := n0_; have HB := n1_; have BK211 := n2_; have GW211 := n3_; have GE211 := n4_; clear n0_ n1_ n2_ n3_ n4_; clear hb hbox hg; have hcz59_0 : w58.cell? ⟨gb211, 0, none⟩ = some (.string (⟨#[]⟩ : ByteArray)) := (blk_cell BK211.out 0).trans rfl; have hcz59_1 : w58.cell? ⟨gb211, 1, none⟩ = some (.int .i64 0) := (blk_cell BK211.out 1).trans rfl; have hfz59_0 := blk_frozen BK211.out 0; have hfz59_1 := blk_frozen BK211.out 1))
                                        have n0_ : Aside0 (Kd.R k30 30 ((w58.setCell ⟨gb211, 0, none⟩ (.string (a0.extract ((ji22) : Int).toNat ((wrap64 ((ji22) + (wrap64 (bt a0 (ji10))))) : Int).toNat))).setCell ⟨gb211, 1, none⟩ (.int .i64 (wrap64 ((wrap64 (bt a0 x5_1)) + (wrap64 (256 * (wrap64 (bt a0 (ji6))))))))) w.heap.size (fun k_ => k_ ≠ gb211) u4 x4_1) := ⟨by (with_reducible repeat (first | apply Kd.R_alloc | apply Kd.R_drewN | apply Kd.R_drew)); exact Kd.R_mono (Kd.R_far (p := ⟨gb211, 1, none⟩) (Kd.R_far (p := ⟨gb211, 0, none⟩) (Kd.R_mono HO_4.out (fun k_ hk => (⟨hk, hk.2⟩ : _ ∧ k_ ≠ gb211))) (fun _ hk => hk.2) (.string (a0.extract ((ji22) : Int).toNat ((wrap64 ((ji22) + (wrap64 (bt a0 (ji10))))) : Int).toNat))) (fun _ hk => hk.2) (.int .i64 (wrap64 ((wrap64 (bt a0 x5_1)) + (wrap64 (256 * (wrap64 (bt a0 (ji6))))))))) (fun _ hk => hk.1.2)⟩
                                        have n1_ : Aside0 (((w58.setCell ⟨gb211, 0, none⟩ (.string (a0.extract ((ji22) : Int).toNat ((wrap64 ((ji22) + (wrap64 (bt a0 (ji10))))) : Int).toNat))).setCell ⟨gb211, 1, none⟩ (.int .i64 (wrap64 ((wrap64 (bt a0 x5_1)) + (wrap64 (256 * (wrap64 (bt a0 (ji6))))))))).heap[gb211]? = some (.cells #[.string (a0.extract ((ji22) : Int).toNat ((wrap64 ((ji22) + (wrap64 (bt a0 (ji10))))) : Int).toNat), .int .i64 (wrap64 ((wrap64 (bt a0 x5_1)) + (wrap64 (256 * (wrap64 (bt a0 (ji6)))))))] 30 (0, 0))) := ⟨by (with_reducible repeat (first | refine blk_drewN ?_ _ | refine blk_drew ?_ | refine blk_alloc ?_ _)); refine blk_put (cs := #[.string (a0.extract ((ji22) : Int).toNat ((wrap64 ((ji22) + (wrap64 (bt a0 (ji10))))) : Int).toNat), .int .i64 0]) ?_ 1 _ rfl; (with_reducible repeat (first | refine blk_drewN ?_ _ | refine blk_drew ?_ | refine blk_alloc ?_ _)); refine blk_put (cs := #[.string (⟨#[]⟩ : ByteArray), .int .i64 0]) ?_ 0 _ rfl; (with_reducible repeat (first | refine blk_drewN ?_ _ | refine blk_drew ?_ | refine blk_alloc ?_ _)); exact BK211.out⟩
                                        have n2_ : Aside0 (Below w.heap.size w ((w58.setCell ⟨gb211, 0, none⟩ (.string (a0.extract ((ji22) : Int).toNat ((wrap64 ((ji22) + (wrap64 (bt a0 (ji10))))) : Int).toNat))).setCell ⟨gb211, 1, none⟩ (.int .i64 (wrap64 ((wrap64 (bt a0 x5_1)) + (wrap64 (256 * (wrap64 (bt a0 (ji6)))))))))) := ⟨by repeat (first | (with_reducible first | exact HB.out | apply below_alloc | apply pw_below_drewN | apply below_drew1 | refine below_set ?_ GE211.out) | exact HB.out)⟩
                                        (try clear HO_4)
                                        (try clear BK211)
                                        (try clear HB)
                                        generalize ((w58.setCell ⟨gb211, 0, none⟩ (.string (a0.extract ((ji22) : Int).toNat ((wrap64 ((ji22) + (wrap64 (bt a0 (ji10))))) : Int).toNat))).setCell ⟨gb211, 1, none⟩ (.int .i64 (wrap64 ((wrap64 (bt a0 x5_1)) + (wrap64 (256 * (wrap64 (bt a0 (ji6))))))))) = w60 at n0_ n1_ n2_ ⊢
                                        have HO_4 := n0_
                                        have BK211 := n1_
                                        have HB := n2_
                                        clear n0_ n1_ n2_
                                        have n0_ := Aside0.mk (Kd.R_drew HO_4.out)
                                        have n1_ := Aside0.mk (blk_drew BK211.out)
                                        have n2_ := Aside0.mk (below_drew1 HB.out)
                                        clear HO_4
                                        clear BK211
                                        clear HB
                                        have HO_4 := n0_
                                        have BK211 := n1_
                                        have HB := n2_
                                        clear n0_ n1_ n2_
                                        refine start_ (n := 8) (S := fun w' => w'.cell? ⟨gb211, 0, none⟩ = some (.string (a0.extract ((ji22) : Int).toNat ((wrap64 ((ji22) + (wrap64 (bt a0 (ji10))))) : Int).toNat)) ∧ w'.cell? ⟨gb211, 1, none⟩ = some (.int .i64 (wrap64 ((wrap64 (bt a0 x5_1)) + (wrap64 (256 * (wrap64 (bt a0 (ji6))))))))) (ds := []) #[false, false, false, false, false, false, false, false] (by kernel_rfl) rfl rfl ⟨(blk_cell BK211.out 0).trans rfl, (blk_cell BK211.out 1).trans rfl⟩ (fun hHeld => ?_); refine with_tabW reliquaryref22_Read.tab12 reliquaryref22_Read.bits12 (fun HT_ HW_ => ?_)
                                        generalize w60.drew = w61 at HO_4 BK211 HB hHeld ⊢
                                        refine pure_ (i := 2) (N := some 65) (v := ?_) (a' := ?_) #[false, false, true, false, false, false, false, false] rfl rfl (any_of HT_.out (by kernel_rfl)) (fun _ _ _ h => h) (Or.inl ⟨by rfl, ?_⟩) ?_ ?_
                                        rotate_left
                                        · intro w'
                                          go_simp
                                          with_reducible rfl
                                        rotate_left
                                        · simp only [Act.put, List.setIfInBounds_toArray, List.set_cons_zero, List.set_cons_succ, i64_w, i32_w]
                                          rfl
                                        refine pure_ (i := 3) (N := some 66) (v := ?_) (a' := ?_) #[false, false, true, true, false, false, false, false] rfl rfl (any_of HT_.out (by kernel_rfl)) (fun _ _ _ h => h) (Or.inl ⟨by rfl, ?_⟩) ?_ ?_
                                        rotate_left
                                        · intro w'
                                          go_simp
                                          with_reducible rfl
                                        rotate_left
                                        · simp only [Act.put, List.setIfInBounds_toArray, List.set_cons_zero, List.set_cons_succ, i64_w, i32_w]
                                          rfl
                                        refine pure_ (i := 4) (N := some 67) (v := ?_) (a' := ?_) #[false, false, true, true, true, false, false, false] rfl rfl (any_of HT_.out (by kernel_rfl)) (fun _ _ _ h => h) (Or.inl ⟨by rfl, ?_⟩) ?_ ?_
                                        rotate_left
                                        · intro w'
                                          go_simp
                                          with_reducible rfl
                                        rotate_left
                                        · simp only [Act.put, List.setIfInBounds_toArray, List.set_cons_zero, List.set_cons_succ, i64_w, i32_w]
                                          rfl
                                        refine pure_ (i := 5) (N := some 68) (v := ?_) (a' := ?_) #[false, false, true, true, true, true, false, false] rfl rfl (any_of HT_.out (by kernel_rfl)) (fun _ _ _ h => h) (Or.inl ⟨by rfl, ?_⟩) ?_ ?_
                                        rotate_left
                                        · intro w'
                                          go_simp
                                          with_reducible rfl
                                        rotate_left
                                        · simp only [Act.put, List.setIfInBounds_toArray, List.set_cons_zero, List.set_cons_succ, i64_w, i32_w]
                                          rfl
                                        refine pure_ (i := 6) (N := some 69) (v := ?_) (a' := ?_) #[false, false, true, true, true, true, true, false] rfl rfl (any_of HT_.out (by kernel_rfl)) (fun _ _ _ h => h) (Or.inl ⟨by rfl, ?_⟩) ?_ ?_
                                        rotate_left
                                        · intro w'
                                          go_simp
                                          with_reducible rfl
                                        rotate_left
                                        · simp only [Act.put, List.setIfInBounds_toArray, List.set_cons_zero, List.set_cons_succ, i64_w, i32_w]
                                          rfl
                                        refine take_ (i := 0) (N := some 63) (v := ?_) (a' := ?_) #[true, false, true, true, true, true, true, false] rfl rfl (take_ofW HT_.out HW_.out (by kernel_rfl)) (fun _ _ _ h => h) (Or.inl ⟨by rfl, ?_⟩) hHeld ?_ ?_
                                        rotate_left
                                        · rintro w' ⟨s0, s1⟩
                                          go_simp
                                          with_reducible rfl
                                        rotate_left
                                        · simp only [Act.put, List.setIfInBounds_toArray, List.set_cons_zero, List.set_cons_succ, i64_w, i32_w]
                                          rfl
                                        refine one_ (i := 1) (N := some 64) #[true, true, true, true, true, true, true, false] rfl rfl (one_of HT_.out (by kernel_rfl)) (by decide) (fun K hK => ?_)
                                        refine goes_ Try.func23 (by kernel_rfl) rfl #[.agg #[.string (a0.extract ((ji22) : Int).toNat ((wrap64 ((ji22) + (wrap64 (bt a0 (ji10))))) : Int).toNat), .int .i64 (wrap64 ((wrap64 (bt a0 x5_1)) + (wrap64 (256 * (wrap64 (bt a0 (ji6)))))))]] (by rfl) rfl rfl (by (try simp only [List.map_toArray, List.map_cons, List.map_nil]); first | done | (simp only [hji10, hji22, hji6]; rfl) | rfl | (simp only [List.length_drop, List.length_take]; rfl)) ?_
                                        with_reducible refine (reliquaryref22_Piece.calls kj13 (a0.extract ((ji22) : Int).toNat ((wrap64 ((ji22) + (wrap64 (bt a0 (ji10))))) : Int).toNat) (wrap64 ((wrap64 (bt a0 x5_1)) + (wrap64 (256 * (wrap64 (bt a0 (ji6))))))) t212 _ A26.out).mono ?_
                                        rintro e w62 ⟨rfl, hb⟩
                                        refine ⟨_, rfl, ?_⟩
                                        have n0_ := Aside0.mk (Kd.R_below (by (with_reducible repeat (first | apply Kd.R_alloc | apply Kd.R_drewN | apply Kd.R_drew)); exact HO_4.out) hb)
                                        have n1_ := Aside0.mk (blk_below (g := gb211) (o := .cells #[.string (a0.extract ((ji22) : Int).toNat ((wrap64 ((ji22) + (wrap64 (bt a0 (ji10))))) : Int).toNat), .int .i64 (wrap64 ((wrap64 (bt a0 x5_1)) + (wrap64 (256 * (wrap64 (bt a0 (ji6)))))))] 30 (0, 0)) (by (with_reducible repeat (first | refine blk_drewN ?_ _ | refine blk_drew ?_ | refine blk_alloc ?_ _)); exact BK211.out) hb)
                                        have n2_ := Aside0.mk (below_step (by repeat (first | (with_reducible first | exact HB.out | apply below_alloc | apply pw_below_drewN | apply below_drew1 | refine below_set ?_ GE211.out) | exact HB.out)) hb)
                                        clear HO_4
                                        clear BK211
                                        clear HB
                                        have HO_4 := n0_
                                        have BK211 := n1_
                                        have HB := n2_
                                        clear n0_ n1_ n2_
                                        (try clear hb)
                                        (try clear hb2)
                                        (try clear hk)
                                        (try clear hi)
                                        refine hK.out _ _ ⟨(blk_cell BK211.out 0).trans rfl, (blk_cell BK211.out 1).trans rfl⟩ (fun hHeld => ?_)
                                        clear hK K
                                        refine norm_ (a' := ?_) ?_ ?_
                                        rotate_left
                                        · show Act.put _ (some 64) _ = _
                                          simp only [Act.put, List.setIfInBounds_toArray, List.set_cons_zero, List.set_cons_succ, i64_w, i32_w]
                                          rfl
                                        refine pure_ (i := 7) (N := some 70) (v := ?_) (a' := ?_) #[true, true, true, true, true, true, true, true] rfl rfl (any_of HT_.out (by kernel_rfl)) (fun _ _ _ h => h) (Or.inl ⟨by rfl, ?_⟩) ?_ ?_
                                        rotate_left
                                        · intro w'
                                          go_simp
                                          with_reducible rfl
                                        rotate_left
                                        · simp only [Act.put, List.setIfInBounds_toArray, List.set_cons_zero, List.set_cons_succ, i64_w, i32_w]
                                          rfl
                                        refine done_ (done_of HT_.out (by kernel_rfl)) ?_
                                        try go_wp2
                                        go_ret2
                                        exact ⟨_, by first | rfl | (simp [errW_none, errW_some] <;> rfl) | (simp only [← hji6, ← hji10, ← hji22]; first | rfl | (simp [errW_none, errW_some] <;> rfl)) | (simp [*, errW_none, errW_some] <;> rfl), by first | exact Kd.R_nil _ _ _ _ _ | exact Kd.N_nil _ _ _ _ _ | exact Kd.V_nil _ _ _ _ _ | exact Kd.Q_nil _ _ _ _ _ | exact Kd.S_nil _ _ _ _ _, by repeat (first | (with_reducible first | exact HB.out | apply below_alloc | apply pw_below_drewN | apply below_drew1 | refine below_set ?_ GE211.out) | exact HB.out)⟩
                                    · rw [if_neg c29] at H
                                      exact absurd H (by simp)
                                  · rw [if_neg c28] at H
                                    exact absurd H (by simp)
                                · rw [if_neg c27] at H
                                  exact absurd H (by simp)
                              · rw [if_neg c25] at H
                                exact absurd H (by simp)
                            · rw [if_neg c24] at H
                              exact absurd H (by simp)
                          · rw [if_neg c23] at H
                            exact absurd H (by simp)
                  · rw [if_neg c12] at H
                    exact absurd H (by simp)
                · rw [if_neg c11] at H
                  exact absurd H (by simp)
              · rw [if_neg c8] at H
                exact absurd H (by simp)
            · rw [if_neg c7] at H
              exact absurd H (by simp)
          · rw [if_neg c4] at H
            exact absurd H (by simp)
        · rw [if_neg c3] at H
          have c3b0 : decide (x5_1 < (a0.size : Int)) = false := decide_eq_false c3
          clear c3
          simp only [Option.some.injEq, Prod.mk.injEq] at H
          obtain ⟨rfl, rfl⟩ := H
          go_wp2
          go_ret2
          exact ⟨_, by first | rfl | (simp [errW_none, errW_some] <;> rfl) | (simp [*, errW_none, errW_some] <;> rfl), by (with_reducible repeat (first | apply Kd.R_alloc | apply Kd.R_drewN | apply Kd.R_drew)); exact HO_4.out, by repeat (first | (with_reducible first | exact HB.out | apply below_alloc | apply pw_below_drewN | apply below_drew1) | exact HB.out)⟩

end Go.Proofs.Ytkkflgdobgbmmaa.Q
end
section
namespace Go.Proofs.Ytkkflgdobgbmmaa.Q
open Go.RowKit Go.Proofs.YtkkflgdobgbmmaaW.PrintWords Go.Proofs.YtkkflgdobgbmmaaW.PrintLast Go.Proofs.YtkkflgdobgbmmaaW.PrintMore
attribute [local go_sem] max2_int min2_int max_two min_two max_three min_three max_four min_four   -- for this text's walks alone
set_option linter.unusedVariables false
set_option linter.unusedSimpArgs false

/-! ### reliquaryref22_List: function 21 -/
def reliquaryref22_List.l0 : Nat → List (S30) → List (S30) → Int → Option ((List (S30)) × Int)
  | 0, _, _, _ => none
  | k + 1, x4, x6, x7 => if x7 < (x4.length : Int) then (if 0 ≤ x7 then (if ((rd_T30 x4 x7).f1) > 0 then (if ((rd_T30 x4 x7).f0).toList = ([46, 46] : List UInt8) then (reliquaryref22_List.l0 k x4 x6 (wrap64 (x7 + 1))) else (if x6.length < 5864062014805 then (reliquaryref22_List.l0 k x4 (x6 ++ [(⟨(rd_T30 x4 x7).f0, (rd_T30 x4 x7).f1⟩ : S30)]) (wrap64 (x7 + 1))) else (none))) else (reliquaryref22_List.l0 k x4 x6 (wrap64 (x7 + 1)))) else (none)) else (some (x6, 0))
def reliquaryref22_List.f (k : Nat) (a0 : ByteArray) : Option ((List (S30)) × Int) := (reliquaryref22_Read.f k a0).bind fun bt318 => (if bt318.2 = 0 then (reliquaryref22_List.l0 k bt318.1 ([] : List (S30)) 0) else (some (([] : List (S30)), bt318.2)))
set_option maxHeartbeats 8000000 in
set_option maxRecDepth 100000 in
theorem reliquaryref22_List.calls (k : Nat) (a0 : ByteArray) (r1 : List (S30)) (r2 : Int) (w : World) (h : reliquaryref22_List.f k a0 = some (r1, r2)) :
    Calls Try.prog 21 #[.string a0] w fun e w' => ∃ v0_ : Value, e = .returned (.tuple #[v0_, .int .i64 r2]) ∧ Kd.R k30 30 w' w.heap.size (fun _ => True) v0_ r1 ∧ Below w.heap.size w w' := by
  have hu30 := Try.underlying30
  have HB := Aside0.mk (Below.refl w.heap.size w)
  have H : ((reliquaryref22_Read.f k a0).bind fun bt318 => (if bt318.2 = 0 then (reliquaryref22_List.l0 k bt318.1 ([] : List (S30)) 0) else (some (([] : List (S30)), bt318.2)))) = some (r1, r2) := h
  clear h
  replace H := Option.bind_eq_some_iff.mp H
  obtain ⟨⟨t318, t319⟩, A20, H⟩ := H
  replace H : (if t319 = 0 then (reliquaryref22_List.l0 k t318 ([] : List (S30)) 0) else (some (([] : List (S30)), t319))) = some (r1, r2) := H
  have A2 := Aside0.mk A20
  clear A20
  by_cases c3 : t319 = 0
  · rw [if_pos c3] at H
    have c3b0 : (t319 == 0) = true := beq_iff_eq.mpr c3
    have c3b1 : (t319 != 0) = false := bne_eq_false_iff_eq.mpr c3
    clear c3
    have H' := Aside0.mk H
    clear H
    go_enter Try.func21, Try.ntmps21
    go_wp2_with (first | ((with_reducible refine gate_callee (f := 26) rfl ?_); refine goesL_ (some 10) rfl rfl Try.func26 (by kernel_rfl) rfl #[.string a0] rfl (by (try simp only [List.map_toArray, List.map_cons, List.map_nil]); first | done | rfl | (simp only [List.length_drop, List.length_take]; rfl)) ?_; (with_reducible refine (reliquaryref22_Read.calls k a0 t318 t319 _ A2.out).mono ?_); rintro e w4 ⟨v320, rfl, ho0, hb⟩; refine ⟨_, rfl, ?_⟩; have n0_ := Aside0.mk (Kd.R_lower ho0 (below_size (by repeat (first | (with_reducible first | exact HB.out | apply below_alloc | apply pw_below_drewN | apply below_drew1) | exact HB.out)))); have n1_ := Aside0.mk (below_step (by repeat (first | (with_reducible first | exact HB.out | apply below_alloc | apply pw_below_drewN | apply below_drew1) | exact HB.out)) hb); clear HB; have HO321 := n0_; have HB := n1_; clear n0_ n1_; (try clear hb); (try clear hb2); (try clear hk); (try clear hi); (try clear ho0)))
    go_loopg [6, 7] k (fun kq v6 v7 w' => ∃ (x6_1 : List (S30)) (x7_1 : Int), v7 = .int .i64 x7_1 ∧ Aside0 (reliquaryref22_List.l0 kq t318 x6_1 x7_1 = some (r1, r2)) ∧ Aside0 (kq ≤ k) ∧ Aside0 (Kd.R k30 30 w' w.heap.size (fun k_ => some k_ ≠ (v6 : Value).ownBlock) v320 t318) ∧ Aside0 (Kd.R k30 30 w' w.heap.size (fun k_ => some k_ ≠ (v320 : Value).ownBlock) v6 x6_1) ∧ Aside0 (Below w.heap.size w w'))
    case atStart => exact ⟨(([] : List (S30))), (0), (by first | rfl | (simp; done) | (simp [*]; done)), H', ⟨Nat.le_refl _⟩, ⟨by (with_reducible repeat (first | apply Kd.R_alloc | apply Kd.R_drewN | apply Kd.R_drew)); exact Kd.R_mono HO321.out (fun _ hk => (by simp [Value.ownBlock]))⟩, ⟨by first | exact Kd.R_nil _ _ _ _ _ | exact Kd.N_nil _ _ _ _ _ | exact Kd.V_nil _ _ _ _ _ | exact Kd.Q_nil _ _ _ _ _ | exact Kd.S_nil _ _ _ _ _⟩, ⟨by repeat (first | (with_reducible first | exact HB.out | apply below_alloc | apply pw_below_drewN | apply below_drew1) | exact HB.out)⟩⟩
    case round =>
      clear H'
      try clear c2
      try clear p2
      try clear c3
      try clear c3b0
      try clear c3b1
      obtain ⟨x6_1, x7_1, rfl, HA, HK1, HO_4, HO_6, HB⟩ := hrel
      cases gk with
      | zero => exact absurd HA.out (by simp [reliquaryref22_List.l0])
      | succ k1 =>
        have H := HA.out
        clear HA
        simp only [reliquaryref22_List.l0] at H
        by_cases c5 : x7_1 < (t318.length : Int)
        · rw [if_pos c5] at H
          have c5b0 : decide (x7_1 < (t318.length : Int)) = true := decide_eq_true c5
          clear c5
          by_cases c6 : 0 ≤ x7_1
          · rw [if_pos c6] at H
            have c6b0 : decide (0 ≤ x7_1) = true := decide_eq_true c6
            clear c6
            by_cases c7 : ((rd_T30 t318 x7_1).f1) > 0
            · rw [if_pos c7] at H
              have c7b0 : decide (0 < ((rd_T30 t318 x7_1).f1)) = true := decide_eq_true c7
              clear c7
              by_cases c8 : ((rd_T30 t318 x7_1).f0).toList = ([46, 46] : List UInt8)
              · rw [if_pos c8] at H
                have c8b0 : (((rd_T30 t318 x7_1).f0).toList == ([46, 46] : List UInt8)) = true := beq_iff_eq.mpr c8
                have c8b1 : (((rd_T30 t318 x7_1).f0).toList != ([46, 46] : List UInt8)) = false := bne_eq_false_iff_eq.mpr c8
                clear c8
                have H' := Aside0.mk H
                clear H
                obtain ⟨Ao9, co9, eo9⟩ := Kd.R_slice HO_4.out
                subst eo9
                have p322 : 0 ≤ (x7_1 : Int) := of_decide_eq_true (by first | (with_reducible assumption) | assumption)
                have q322 : x7_1 < (t318.length : Int) := of_decide_eq_true (by first | (with_reducible assumption) | assumption)
                obtain ⟨ad322, e322, hx322_0, hx322_1⟩ := at_T30 (Kd.R_reads' HO_4.out).2.2 x7_1 p322 q322
                cases e322
                replace p322 := eq_true p322
                replace q322 := eq_true q322
                have p323 : 0 ≤ (x7_1 : Int) := of_decide_eq_true (by first | (with_reducible assumption) | assumption)
                have q323 : x7_1 < (t318.length : Int) := of_decide_eq_true (by first | (with_reducible assumption) | assumption)
                obtain ⟨ad323, e323, hx323_0, hx323_1⟩ := at_T30 (Kd.R_reads' HO_4.out).2.2 x7_1 p323 q323
                obtain rfl : ad322 = ad323 := (by injection e323)
                replace p323 := eq_true p323
                replace q323 := eq_true q323
                go_wp2
                go_roundg k1
                case measure => have := HK1.out; omega
                case rel => exact ⟨(x6_1), (wrap64 (x7_1 + 1)), (by first | rfl | (simp; done) | (simp [*]; done)), H', ⟨by have := HK1.out; omega⟩, ⟨by (with_reducible repeat (first | apply Kd.R_alloc | apply Kd.R_drewN | apply Kd.R_drew)); exact HO_4.out⟩, ⟨by (with_reducible repeat (first | apply Kd.R_alloc | apply Kd.R_drewN | apply Kd.R_drew)); exact HO_6.out⟩, ⟨by repeat (first | (with_reducible first | exact HB.out | apply below_alloc | apply pw_below_drewN | apply below_drew1) | exact HB.out)⟩⟩
              · rw [if_neg c8] at H
                have c8b0 : (((rd_T30 t318 x7_1).f0).toList == ([46, 46] : List UInt8)) = false := beq_eq_false_iff_ne.mpr c8
                have c8b1 : (((rd_T30 t318 x7_1).f0).toList != ([46, 46] : List UInt8)) = true := bne_iff_ne.mpr c8
                by_cases c10 : x6_1.length < 5864062014805
                · rw [if_pos c10] at H
                  have LMc10 := Aside0.mk c10
                  clear c10
                  obtain ⟨y325, hy325⟩ : ∃ y_ : List (S30), y_ = (x6_1 ++ [(⟨(rd_T30 t318 x7_1).f0, (rd_T30 t318 x7_1).f1⟩ : S30)]) := ⟨_, rfl⟩
                  replace H : (reliquaryref22_List.l0 k1 t318 y325 (wrap64 (x7_1 + 1))) = some (r1, r2) := by first | (rw [hy325]; with_reducible exact H) | (have H2_ := (Option.bind_some _ _).symm.trans H; rw [hy325]; with_reducible exact H2_) | (have H2_ := (Option.bind_some _ _).symm.trans H; with_reducible exact H2_) | with_reducible exact H | (rw [hy325]; exact H) | exact H
                  have Ny325 := Aside0.mk hy325
                  clear hy325
                  have H' := Aside0.mk H
                  clear H
                  obtain ⟨Ao11, co11, eo11⟩ := Kd.R_slice HO_4.out
                  subst eo11
                  have p322 : 0 ≤ (x7_1 : Int) := of_decide_eq_true (by first | (with_reducible assumption) | assumption)
                  have q322 : x7_1 < (t318.length : Int) := of_decide_eq_true (by first | (with_reducible assumption) | assumption)
                  obtain ⟨ad322, e322, hx322_0, hx322_1⟩ := at_T30 (Kd.R_reads' HO_4.out).2.2 x7_1 p322 q322
                  cases e322
                  replace p322 := eq_true p322
                  replace q322 := eq_true q322
                  have p323 : 0 ≤ (x7_1 : Int) := of_decide_eq_true (by first | (with_reducible assumption) | assumption)
                  have q323 : x7_1 < (t318.length : Int) := of_decide_eq_true (by first | (with_reducible assumption) | assumption)
                  obtain ⟨ad323, e323, hx323_0, hx323_1⟩ := at_T30 (Kd.R_reads' HO_4.out).2.2 x7_1 p323 q323
                  obtain rfl : ad322 = ad323 := (by injection e323)
                  replace p323 := eq_true p323
                  replace q323 := eq_true q323
                  have p324 : 0 ≤ (x7_1 : Int) := of_decide_eq_true (by first | (with_reducible assumption) | assumption)
                  have q324 : x7_1 < (t318.length : Int) := of_decide_eq_true (by first | (with_reducible assumption) | assumption)
                  obtain ⟨ad324, e324, hx324_0, hx324_1⟩ := at_T30 (Kd.R_reads' HO_4.out).2.2 x7_1 p324 q324
                  obtain rfl : ad322 = ad324 := (by injection e324)
                  replace p324 := eq_true p324
                  replace q324 := eq_true q324
                  go_wp2_with (first | ((with_reducible refine gate_builtin (b := .append) (xs := #[.tmp 36, .tmp 41]) rfl ?_); at_builtin; refine Kd.R_append k30 (w0 := w) w.heap.size rfl (.tmp 36) (.tmp 41) 45 30 (.agg #[(.string ⟨#[]⟩), (.int .i64 0)]) 24 rfl Try.underlying45 info30 rfl (by decide) (by omega) u6 x6_1 (⟨(rd_T30 t318 x7_1).f0, (rd_T30 t318 x7_1).f1⟩ : S30) [.string ((rd_T30 t318 x7_1).f0), .int .i64 ((rd_T30 t318 x7_1).f1)] (fun k_ => some k_ ≠ (.slice (some ad322) t318.length co11 : Value).ownBlock) (fun _ => False) rfl rfl ?aP (fun _ hk => hk.elim) ?aF ?aO ?aB ?aS ?aL ?_; (case aP => exact k30_mkM _ _ _ (⟨(rd_T30 t318 x7_1).f0, (rd_T30 t318 x7_1).f1⟩ : S30)); (case aB => exact (by repeat (first | (with_reducible first | exact HB.out | apply below_alloc | apply pw_below_drewN | apply below_drew1) | exact HB.out))); (case aF => exact (fun k_ hk => Kd.fresh' (Kd.R_lt (by (with_reducible repeat (first | apply Kd.R_alloc | apply Kd.R_drewN | apply Kd.R_drew)); exact HO_4.out)) k_ hk)); (case aO => exact (by (with_reducible repeat (first | apply Kd.R_alloc | apply Kd.R_drewN | apply Kd.R_drew)); exact HO_6.out)); (case aS => exact (below_size (by repeat (first | (with_reducible first | exact HB.out | apply below_alloc | apply pw_below_drewN | apply below_drew1) | exact HB.out)))); (case aL => have := LMc10.out; omega); intro v326 w12 ho hb hg hat; rw [← Ny325.out] at ho; have n0_ := Aside0.mk (Kd.R_after (ok := (fun _ => True)) (by (with_reducible repeat (first | apply Kd.R_alloc | apply Kd.R_drewN | apply Kd.R_drew)); exact Kd.R_mono HO_4.out (fun _ hk => ⟨trivial, hk⟩)) hg hat); have n1_ := Aside0.mk (hb); have n2_ := Aside0.mk (ho); clear HO_4; clear HB; clear HO_6; have HO_4 := n0_; have HB := n1_; have HO327 := n2_; clear n0_ n1_ n2_; clear ho hb hg hat))
                  go_roundg k1
                  case measure => have := HK1.out; omega
                  case rel => exact ⟨(y325), (wrap64 (x7_1 + 1)), (by first | rfl | (simp; done) | (simp [*]; done)), H', ⟨by have := HK1.out; omega⟩, ⟨by (with_reducible repeat (first | apply Kd.R_alloc | apply Kd.R_drewN | apply Kd.R_drew)); exact Kd.R_mono HO_4.out (fun _ hk => hk.2)⟩, ⟨by (with_reducible repeat (first | apply Kd.R_alloc | apply Kd.R_drewN | apply Kd.R_drew)); exact HO327.out⟩, ⟨by repeat (first | (with_reducible first | exact HB.out | apply below_alloc | apply pw_below_drewN | apply below_drew1) | exact HB.out)⟩⟩
                · rw [if_neg c10] at H
                  exact absurd H (by simp)
            · rw [if_neg c7] at H
              have c7b0 : decide (0 < ((rd_T30 t318 x7_1).f1)) = false := decide_eq_false c7
              clear c7
              have H' := Aside0.mk H
              clear H
              obtain ⟨Ao13, co13, eo13⟩ := Kd.R_slice HO_4.out
              subst eo13
              have p322 : 0 ≤ (x7_1 : Int) := of_decide_eq_true (by first | (with_reducible assumption) | assumption)
              have q322 : x7_1 < (t318.length : Int) := of_decide_eq_true (by first | (with_reducible assumption) | assumption)
              obtain ⟨ad322, e322, hx322_0, hx322_1⟩ := at_T30 (Kd.R_reads' HO_4.out).2.2 x7_1 p322 q322
              cases e322
              replace p322 := eq_true p322
              replace q322 := eq_true q322
              go_wp2
              go_roundg k1
              case measure => have := HK1.out; omega
              case rel => exact ⟨(x6_1), (wrap64 (x7_1 + 1)), (by first | rfl | (simp; done) | (simp [*]; done)), H', ⟨by have := HK1.out; omega⟩, ⟨by (with_reducible repeat (first | apply Kd.R_alloc | apply Kd.R_drewN | apply Kd.R_drew)); exact HO_4.out⟩, ⟨by (with_reducible repeat (first | apply Kd.R_alloc | apply Kd.R_drewN | apply Kd.R_drew)); exact HO_6.out⟩, ⟨by repeat (first | (with_reducible first | exact HB.out | apply below_alloc | apply pw_below_drewN | apply below_drew1) | exact HB.out)⟩⟩
          · rw [if_neg c6] at H
            exact absurd H (by simp)
        · rw [if_neg c5] at H
          have c5b0 : decide (x7_1 < (t318.length : Int)) = false := decide_eq_false c5
          clear c5
          simp only [Option.some.injEq, Prod.mk.injEq] at H
          obtain ⟨rfl, rfl⟩ := H
          obtain ⟨Ao14, co14, eo14⟩ := Kd.R_slice HO_4.out
          subst eo14
          go_wp2
          go_ret2
          exact ⟨_, by first | rfl | (simp [errW_none, errW_some] <;> rfl) | (simp [*, errW_none, errW_some] <;> rfl), by (with_reducible repeat (first | apply Kd.R_alloc | apply Kd.R_drewN | apply Kd.R_drew)); exact Kd.R_mono HO_6.out (fun _ hk => trivial), by repeat (first | (with_reducible first | exact HB.out | apply below_alloc | apply pw_below_drewN | apply below_drew1) | exact HB.out)⟩
  · rw [if_neg c3] at H
    have c3b0 : (t319 == 0) = false := beq_eq_false_iff_ne.mpr c3
    have c3b1 : (t319 != 0) = true := bne_iff_ne.mpr c3
    simp only [Option.some.injEq, Prod.mk.injEq] at H
    obtain ⟨rfl, rfl⟩ := H
    go_enter Try.func21, Try.ntmps21
    go_wp2_with (first | ((with_reducible refine gate_callee (f := 26) rfl ?_); refine goesL_ (some 10) rfl rfl Try.func26 (by kernel_rfl) rfl #[.string a0] rfl (by (try simp only [List.map_toArray, List.map_cons, List.map_nil]); first | done | rfl | (simp only [List.length_drop, List.length_take]; rfl)) ?_; (with_reducible refine (reliquaryref22_Read.calls k a0 t318 t319 _ A2.out).mono ?_); rintro e w15 ⟨v320, rfl, ho0, hb⟩; refine ⟨_, rfl, ?_⟩; have n0_ := Aside0.mk (Kd.R_lower ho0 (below_size (by repeat (first | (with_reducible first | exact HB.out | apply below_alloc | apply pw_below_drewN | apply below_drew1) | exact HB.out)))); have n1_ := Aside0.mk (below_step (by repeat (first | (with_reducible first | exact HB.out | apply below_alloc | apply pw_below_drewN | apply below_drew1) | exact HB.out)) hb); clear HB; have HO321 := n0_; have HB := n1_; clear n0_ n1_; (try clear hb); (try clear hb2); (try clear hk); (try clear hi); (try clear ho0)))
    go_ret2
    exact ⟨_, by first | rfl | (simp [errW_none, errW_some] <;> rfl) | (simp [*, errW_none, errW_some] <;> rfl), by first | exact Kd.R_nil _ _ _ _ _ | exact Kd.N_nil _ _ _ _ _ | exact Kd.V_nil _ _ _ _ _ | exact Kd.Q_nil _ _ _ _ _ | exact Kd.S_nil _ _ _ _ _, by repeat (first | (with_reducible first | exact HB.out | apply below_alloc | apply pw_below_drewN | apply below_drew1) | exact HB.out)⟩

end Go.Proofs.Ytkkflgdobgbmmaa.Q
end
section
namespace Go.Proofs.Ytkkflgdobgbmmaa.Q
open Go.RowKit Go.Proofs.YtkkflgdobgbmmaaW.PrintWords Go.Proofs.YtkkflgdobgbmmaaW.PrintLast Go.Proofs.YtkkflgdobgbmmaaW.PrintMore
attribute [local go_sem] max2_int min2_int max_two min_two max_three min_three max_four min_four   -- for this text's walks alone
set_option linter.unusedVariables false
set_option linter.unusedSimpArgs false

-- EXT entries_piece: function 37
/-! ### entries_piece: function 37 -/
-- IMPORT HPiece
def entries_piece.f (a0_0 : ByteArray) (a0_1 : Int) : Option (List Int) := if 0 ≤ a0_1 ∧ a0_1 < 18446744073709551616 ∧ a0_0.size ≤ 200 then some (pieceL (bytesOf a0_0) a0_1) else none
theorem entries_piece.calls (a0_0 : ByteArray) (a0_1 : Int) (r : List Int) (w : World) (h : entries_piece.f a0_0 a0_1 = some r) :
    Calls Try.prog 37 #[.agg #[.string a0_0, .int .i64 a0_1]] w fun e w' => ∃ v0_ : Value, e = .returned (v0_) ∧ Kd.R (Kd.int .u8) 5 w' w.heap.size (fun _ => True) v0_ r ∧ Below w.heap.size w w' := by
  unfold entries_piece.f at h
  split at h
  · rename_i c
    injection h with h
    subst h
    exact piece.calls a0_0 a0_1 c.1 c.2.1 c.2.2 w
  · cases h

end Go.Proofs.Ytkkflgdobgbmmaa.Q
end
section
namespace Go.Proofs.Ytkkflgdobgbmmaa.Q
open Go.RowKit Go.Proofs.YtkkflgdobgbmmaaW.PrintWords Go.Proofs.YtkkflgdobgbmmaaW.PrintLast Go.Proofs.YtkkflgdobgbmmaaW.PrintMore
attribute [local go_sem] max2_int min2_int max_two min_two max_three min_three max_four min_four   -- for this text's walks alone
set_option linter.unusedVariables false
set_option linter.unusedSimpArgs false

/-! ### entries_New: function 22 -/
def entries_New.f (a0 : Int) : Option (List Int) := (entries_piece.f (⟨#[46, 46]⟩ : ByteArray) a0).bind fun t168 => (some t168)
set_option maxHeartbeats 8000000 in
set_option maxRecDepth 100000 in
theorem entries_New.calls (a0 : Int) (r : List Int) (w : World) (h : entries_New.f a0 = some r) :
    Calls Try.prog 22 #[.int .i64 a0] w fun e w' => ∃ v0_ : Value, e = .returned (v0_) ∧ Kd.R (Kd.int .u8) 5 w' w.heap.size (fun _ => True) v0_ r ∧ Below w.heap.size w w' := by
  have hu28 := Try.underlying28
  have HB := Aside0.mk (Below.refl w.heap.size w)
  have H : ((entries_piece.f (⟨#[46, 46]⟩ : ByteArray) a0).bind fun t168 => (some t168)) = some r := h
  clear h
  replace H := Option.bind_eq_some_iff.mp H
  obtain ⟨t168, A20, H⟩ := H
  replace H : (some t168) = some r := H
  have A2 := Aside0.mk A20
  clear A20
  obtain rfl := Option.some.inj H
  go_enter Try.func22, Try.ntmps22
  go_wp2_with (first | ((with_reducible refine gate_callee (f := 37) rfl ?_); refine goesL_ (some 5) rfl rfl Try.func37 (by kernel_rfl) rfl #[.agg #[.string (⟨#[46, 46]⟩ : ByteArray), .int .i64 a0]] rfl (by (try simp only [List.map_toArray, List.map_cons, List.map_nil]); first | done | rfl | (simp only [List.length_drop, List.length_take]; rfl)) ?_; (with_reducible refine (entries_piece.calls (⟨#[46, 46]⟩ : ByteArray) a0 t168 _ A2.out).mono ?_); rintro e w3 ⟨v169, rfl, ho0, hb⟩; refine ⟨_, rfl, ?_⟩; have n0_ := Aside0.mk (Kd.R_lower ho0 (below_size (by repeat (first | (with_reducible first | exact HB.out | apply below_alloc | apply pw_below_drewN | apply below_drew1) | exact HB.out)))); have n1_ := Aside0.mk (below_step (by repeat (first | (with_reducible first | exact HB.out | apply below_alloc | apply pw_below_drewN | apply below_drew1) | exact HB.out)) hb); clear HB; have HO170 := n0_; have HB := n1_; clear n0_ n1_; (try clear hb); (try clear hb2); (try clear hk); (try clear hi); (try clear ho0)))
  go_ret
  exact ⟨_, by first | rfl | (simp [errW_none, errW_some] <;> rfl) | (simp [*, errW_none, errW_some] <;> rfl), by (with_reducible repeat (first | apply Kd.R_alloc | apply Kd.R_drewN | apply Kd.R_drew)); exact HO170.out, by repeat (first | (with_reducible first | exact HB.out | apply below_alloc | apply pw_below_drewN | apply below_drew1) | exact HB.out)⟩

end Go.Proofs.Ytkkflgdobgbmmaa.Q
end
section
namespace Go.Proofs.Ytkkflgdobgbmmaa.Q
open Go.RowKit Go.Proofs.YtkkflgdobgbmmaaW.PrintWords Go.Proofs.YtkkflgdobgbmmaaW.PrintLast Go.Proofs.YtkkflgdobgbmmaaW.PrintMore
attribute [local go_sem] max2_int min2_int max_two min_two max_three min_three max_four min_four   -- for this text's walks alone
set_option linter.unusedVariables false
set_option linter.unusedSimpArgs false

/-! ### utf8_ValidRune: function 55 -/
def utf8_ValidRune.j0 : Nat → Int → Bool → Option (Bool)
  | 0, _, _ => none
  | k + 1, x0, x3 => if x3 = true then (some true) else (if 57343 < x0 then (if x0 ≤ 1114111 then (some true) else (some false)) else (some false))
def utf8_ValidRune.f (k : Nat) (a0 : Int) : Option (Bool) := if 0 ≤ a0 then (utf8_ValidRune.j0 k a0 (decide (a0 < 55296))) else (utf8_ValidRune.j0 k a0 false)
set_option maxHeartbeats 8000000 in
set_option maxRecDepth 100000 in
theorem utf8_ValidRune.calls (k : Nat) (a0 : Int) (r : Bool) (w : World) (h : utf8_ValidRune.f k a0 = some r) :
    Calls Try.prog 55 #[.int .i32 a0] w fun e w' => e = .returned (.bool r) ∧ Drawn0 w w' := by
  have H : (if 0 ≤ a0 then (utf8_ValidRune.j0 k a0 (decide (a0 < 55296))) else (utf8_ValidRune.j0 k a0 false)) = some r := h
  clear h
  have HC2 := Aside0.mk H
  clear H
  go_enter Try.func55, Try.ntmps55
  go_upto_region 1 with (fail)
  go_cut [3] (fun v3 wc => ∃ (kq : Nat) (x3_1 : Bool), v3 = .bool x3_1 ∧ Aside0 (utf8_ValidRune.j0 kq a0 x3_1 = some r) ∧ Aside0 (kq ≤ k) ∧ Drawn0 w wc)
  case first =>
    have H := HC2.out
    clear HC2
    by_cases c3 : 0 ≤ a0
    · rw [if_pos c3] at H
      have c3b0 : decide (0 ≤ a0) = true := decide_eq_true c3
      clear c3
      (first | rw [c3b0] | (simp only [i64_w, i32_w]; rw [c3b0]) | skip)
      have H' := Aside0.mk H
      clear H
      go_wp2
      go_meet
      case rel => exact ⟨_, (decide (a0 < 55296)), (by first | rfl | (simp; done) | (simp [*]; done)), H', ⟨by first | omega | exact Nat.le_refl _⟩, by repeat (first | exact Drawn0.refl _ | apply Drawn0.step)⟩
    · rw [if_neg c3] at H
      have c3b0 : decide (0 ≤ a0) = false := decide_eq_false c3
      clear c3
      (first | rw [c3b0] | (simp only [i64_w, i32_w]; rw [c3b0]) | skip)
      have H' := Aside0.mk H
      clear H
      go_wp2
      go_meet
      case rel => exact ⟨_, (false), (by first | rfl | (simp; done) | (simp [*]; done)), H', ⟨by first | omega | exact Nat.le_refl _⟩, by repeat (first | exact Drawn0.refl _ | apply Drawn0.step)⟩
  case rest =>
    clear HC2
    try clear p2
    try clear c3
    try clear c3b0
    obtain ⟨kq, x3_1, rfl, HA, HJ1, ⟨mc1, rfl⟩⟩ := hcut
    cases kq with
    | zero => exact absurd HA.out (by simp [utf8_ValidRune.j0])
    | succ kj1 =>
      have H := HA.out
      clear HA
      simp only [utf8_ValidRune.j0] at H
      by_cases c4 : x3_1 = true
      · subst c4
        have H1 : (some true) = some r := by rw [if_pos rfl] at H; exact H
        clear H
        have H := H1
        clear H1
        obtain rfl := Option.some.inj H
        go_wp2
        go_ret
        exact ⟨by first | rfl | (simp; done) | (simp [*]; done), by repeat (first | exact Drawn0.refl _ | apply Drawn0.step)⟩
      · replace c4 := Bool.eq_false_iff.mpr c4
        subst c4
        have H1 : (if 57343 < a0 then (if a0 ≤ 1114111 then (some true) else (some false)) else (some false)) = some r := by rw [if_neg (show ¬ (false = true) by decide)] at H; exact H
        clear H
        have H := H1
        clear H1
        by_cases c5 : 57343 < a0
        · rw [if_pos c5] at H
          have c5b0 : decide (57343 < a0) = true := decide_eq_true c5
          clear c5
          by_cases c6 : a0 ≤ 1114111
          · rw [if_pos c6] at H
            have c6b0 : decide (a0 ≤ 1114111) = true := decide_eq_true c6
            clear c6
            obtain rfl := Option.some.inj H
            go_wp2
            go_ret
            exact ⟨by first | rfl | (simp; done) | (simp [*]; done), by repeat (first | exact Drawn0.refl _ | apply Drawn0.step)⟩
          · rw [if_neg c6] at H
            have c6b0 : decide (a0 ≤ 1114111) = false := decide_eq_false c6
            clear c6
            obtain rfl := Option.some.inj H
            go_wp2
            go_ret
            exact ⟨by first | rfl | (simp; done) | (simp [*]; done), by repeat (first | exact Drawn0.refl _ | apply Drawn0.step)⟩
        · rw [if_neg c5] at H
          have c5b0 : decide (57343 < a0) = false := decide_eq_false c5
          clear c5
          obtain rfl := Option.some.inj H
          go_wp2
          go_ret
          exact ⟨by first | rfl | (simp; done) | (simp [*]; done), by repeat (first | exact Drawn0.refl _ | apply Drawn0.step)⟩

end Go.Proofs.Ytkkflgdobgbmmaa.Q
end
section
namespace Go.Proofs.Ytkkflgdobgbmmaa.Q
open Go.RowKit Go.Proofs.YtkkflgdobgbmmaaW.PrintWords Go.Proofs.YtkkflgdobgbmmaaW.PrintLast Go.Proofs.YtkkflgdobgbmmaaW.PrintMore
attribute [local go_sem] max2_int min2_int max_two min_two max_three min_three max_four min_four   -- for this text's walks alone
set_option linter.unusedVariables false
set_option linter.unusedSimpArgs false

/-! ### strings_shouldUseASCIISet: function 47 -/
def strings_shouldUseASCIISet.f (a0 : Int) : Option (Bool) := some (decide (a0 > 8))
set_option maxHeartbeats 8000000 in
set_option maxRecDepth 100000 in
theorem strings_shouldUseASCIISet.calls (a0 : Int) (r : Bool) (w : World) (h : strings_shouldUseASCIISet.f a0 = some r) :
    Calls Try.prog 47 #[.int .i64 a0] w fun e w' => e = .returned (.bool r) ∧ Drawn0 w w' := by
  have H : (some (decide (a0 > 8))) = some r := h
  clear h
  obtain rfl := Option.some.inj H
  go_enter Try.func47, Try.ntmps47
  go_wp2
  go_ret
  exact ⟨by first | rfl | (simp; done) | (simp [*]; done), by repeat (first | exact Drawn0.refl _ | apply Drawn0.step)⟩

end Go.Proofs.Ytkkflgdobgbmmaa.Q
end
section
/- strings.ContainsAny(s, "/" and a nought), s of any bytes. -/
namespace Go.Proofs.Ytkkflgdobgbmmaa.Q
open Go.RowKit Go.Proofs.YtkkflgdobgbmmaaW.PrintWords Go.Proofs.YtkkflgdobgbmmaaW.PrintLast Go.Proofs.YtkkflgdobgbmmaaW.PrintMore Go.Proofs.Ytkkflgdobgbmmaa.Pure
attribute [local go_sem] max2_int min2_int max_two min_two max_three min_three max_four min_four
set_option linter.unusedVariables false
set_option linter.unusedSimpArgs false
/-! what is decoded -/
theorem decode_spec (s : ByteArray) (pos : Nat) (h : pos < s.size) (hh : 128 ≤ (s[pos]'h).toNat) :
    1 ≤ (Utf8.decode s pos).2 ∧ pos + (Utf8.decode s pos).2 ≤ s.size ∧ ((Utf8.decode s pos).1 = 65533 ∨ (128 ≤ (Utf8.decode s pos).1 ∧ Utf8.valid (Utf8.decode s pos).1 = true)) ∧ ∀ k, k < (Utf8.decode s pos).2 → 128 ≤ (s.get! (pos + k)).toNat := by
  have hn : ¬ (s[pos]'h).toNat < 128 := by omega
  have h0 : 128 ≤ (s.get! (pos + 0)).toNat := by rw [get_at s pos h]; exact hh
  have one : 1 ≤ 1 ∧ pos + 1 ≤ s.size ∧ (65533 = 65533 ∨ (128 ≤ 65533 ∧ Utf8.valid ((65533 : Nat) : Int) = true)) ∧ ∀ k, k < 1 → 128 ≤ (s.get! (pos + k)).toNat :=
    ⟨Nat.le_refl _, by omega, .inl rfl, fun k hk => by
      have : k = 0 := by omega
      subst this
      exact h0⟩
  have hb1 := (s.get! (pos + 1)).toNat_lt
  have hb2 := (s.get! (pos + 2)).toNat_lt
  have hb3 := (s.get! (pos + 3)).toNat_lt
  simp only [Utf8.decode]
  rw [if_neg (by rw [get_at s pos h]; exact hn)]
  split
  · rename_i c1
    simp only [Bool.and_eq_true, beq_iff_eq, decide_eq_true_eq] at c1
    split
    · rename_i c2
      refine ⟨show 1 ≤ 2 by decide, by show pos + 2 ≤ s.size; omega, .inr ⟨c2, ?_⟩, fun k hk => ?_⟩
      · unfold Utf8.valid
        simp only [Bool.or_eq_true, Bool.and_eq_true, decide_eq_true_eq]
        left
        omega
      · have hk2 : k < 2 := hk
        rcases Nat.lt_or_ge k 1 with hk1 | hk1
        · have : k = 0 := by omega
          subst this
          exact h0
        · have : k = 1 := by omega
          subst this
          omega
    · exact one
  · split
    · rename_i c1
      simp only [Bool.and_eq_true, beq_iff_eq, decide_eq_true_eq] at c1
      split
      · rename_i c2
        simp only [Bool.and_eq_true, decide_eq_true_eq] at c2
        refine ⟨show 1 ≤ 3 by decide, by show pos + 3 ≤ s.size; omega, .inr ⟨by omega, c2.2⟩, fun k hk => ?_⟩
        have hk2 : k < 3 := hk
        rcases Nat.lt_or_ge k 1 with hk1 | hk1
        · have : k = 0 := by omega
          subst this
          exact h0
        · rcases Nat.lt_or_ge k 2 with hk3 | hk3
          · have : k = 1 := by omega
            subst this
            omega
          · have : k = 2 := by omega
            subst this
            omega
      · exact one
    · split
      · rename_i c1
        simp only [Bool.and_eq_true, beq_iff_eq, decide_eq_true_eq] at c1
        split
        · rename_i c2
          simp only [Bool.and_eq_true, decide_eq_true_eq] at c2
          refine ⟨show 1 ≤ 4 by decide, by show pos + 4 ≤ s.size; omega, .inr ⟨by omega, c2.2⟩, fun k hk => ?_⟩
          have hk2 : k < 4 := hk
          rcases Nat.lt_or_ge k 1 with hk1 | hk1
          · have : k = 0 := by omega
            subst this
            exact h0
          · rcases Nat.lt_or_ge k 2 with hk3 | hk3
            · have : k = 1 := by omega
              subst this
              omega
            · rcases Nat.lt_or_ge k 3 with hk4 | hk4
              · have : k = 2 := by omega
                subst this
                omega
              · have : k = 3 := by omega
                subst this
                omega
        · exact one
      · exact one
theorem encode_spec (r : Nat) (h : 128 ≤ r) (hv : Utf8.valid (r : Int) = true) : (∃ a b : UInt8, Utf8.encode (r : Int) = ⟨#[a, b]⟩ ∧ 128 ≤ b.toNat) ∨ (∃ a b c : UInt8, Utf8.encode (r : Int) = ⟨#[a, b, c]⟩) ∨ ∃ a b c d : UInt8, Utf8.encode (r : Int) = ⟨#[a, b, c, d]⟩ := by
  unfold Utf8.encode
  simp only [hv, if_true, Int.toNat_natCast]
  rw [if_neg (by omega)]
  split
  · exact .inl ⟨_, _, rfl, by rw [UInt8.toNat_ofNat']; omega⟩
  · split
    · exact .inr (.inl ⟨_, _, _, rfl⟩)
    · exact .inr (.inr ⟨_, _, _, _, rfl⟩)
def slashNull : ByteArray := ⟨#[47, 0]⟩
def badB (b : UInt8) : Bool := b == 47 || b == 0
/-! strings.IndexByte -/
set_option maxHeartbeats 1000000 in
theorem ixb.calls (s : ByteArray) (c : Int) (w : World) :
    Calls Try.prog 54 #[.string s, .int .u8 c] w fun e w' => e = .returned (.int .i64 (Lib.indexByte s.data.toList c.toNat.toUInt8)) ∧ w' = w := by
  go_enter Try.func54, Try.ntmps54
  go_wp2
  rw [run_callFunc_extern Try.func59 (by kernel_rfl) (by kernel_rfl) (by kernel_rfl) (e := Extern.BytealgIndexByte.indexByte) (by kernel_rfl), Lib.run_indexByteString]
  simp only [Result.andThen]
  rw [Oper.upon_value]
  go_wp2
  go_ret
  exact ⟨rfl, rfl⟩
theorem ixSN (c : UInt8) : Lib.indexByte slashNull.data.toList c = if c = 47 then 0 else if c = 0 then 1 else -1 := by
  unfold slashNull
  simp only [Lib.indexByte]
  by_cases h : c = 47
  · subst h; rfl
  · by_cases h2 : c = 0
    · subst h2; rfl
    · have e1 : ((47 : UInt8) == c) = false := beq_eq_false_iff_ne.mpr (fun e => h e.symm)
      have e2 : ((0 : UInt8) == c) = false := beq_eq_false_iff_ne.mpr (fun e => h2 e.symm)
      simp [e1, e2, h, h2]
/-! strings.IndexRune in these two bytes -/
set_option maxHeartbeats 2000000 in
set_option maxRecDepth 1000000 in
theorem ixrA.calls (b : UInt8) (hb : b.toNat < 128) (r : Int) (hr : (if b = 47 then 0 else if b = 0 then 1 else -1) = r) (w : World) :
    Calls Try.prog 46 #[.string slashNull, .int .i32 (b.toNat : Int)] w fun e w' => e = .returned (.int .i64 r) ∧ Below w.heap.size w w' := by
  have h1 : (0 : Int) ≤ (b.toNat : Int) := by omega
  have h2 : (b.toNat : Int) < 128 := by omega
  have hc : IntKind.u8.wrap (b.toNat : Int) = (b.toNat : Int) := by simp [IntKind.wrap, IntKind.bits, IntKind.signed]; omega
  have hback : ((b.toNat : Int)).toNat.toUInt8 = b := by simp
  have HX := Aside0.mk ((ixSN b).trans hr)
  clear hr
  go_enter Try.func46, Try.ntmps46
  go_wp2_with (go_at_call 54; refine (ixb.calls _ _ _).mono ?_; rintro e w' ⟨rfl, hw⟩; rw [hw, hback, HX.out])
  go_ret
  exact ⟨rfl, Below.refl _ _⟩
theorem below_iter (w : World) (s : ByteArray) (pos : Nat) : Below w.heap.size w (w.iter s pos) := below_alloc (Below.refl _ _) _
set_option maxHeartbeats 2000000 in
set_option maxRecDepth 1000000 in
theorem ixrE.calls (w : World) :
    Calls Try.prog 46 #[.string slashNull, .int .i32 65533] w fun e w' => e = .returned (.int .i64 (-1)) ∧ Below w.heap.size w w' := by
  go_enter Try.func46, Try.ntmps46
  go_wp2
  go_loopg [5, 6] 2 (fun g _ _ wx => ∃ i : Nat, i + g = 2 ∧ wx = w.iter slashNull i)
  case atStart => exact ⟨0, rfl, rfl⟩
  case round =>
    obtain ⟨i, hig, rfl⟩ := hrel
    cases gk with
    | zero =>
      obtain rfl : i = 2 := by omega
      have hnx := run_next_end (P := Try.prog) w slashNull 2
      have hd : ¬ (2 < slashNull.size) := by decide
      go_wp2
      go_ret
      exact ⟨rfl, below_iter _ _ _⟩
    | succ g =>
      have hi : i < slashNull.size := by show i < 2; omega
      have h128 : (slashNull[i]'hi).toNat < 128 := by
        rcases Nat.lt_or_ge i 1 with h | h
        · have : i = 0 := by omega
          subst this
          show (47 : UInt8).toNat < 128
          decide
        · have : i = 1 := by omega
          subst this
          show (0 : UInt8).toNat < 128
          decide
      have hnx := fun ty => run_next_ascii (P := Try.prog) w slashNull i ty hi h128
      obtain ⟨x, hx⟩ : ∃ x : UInt8, slashNull[i]'hi = x := ⟨_, rfl⟩
      rw [hx] at hnx h128
      have hne : (((x.toNat : Nat) : Int) == 65533) = false := beq_eq_false_iff_ne.mpr (by omega)
      clear hx
      go_wp2
      go_roundg g
      case measure => omega
      case rel => exact ⟨i + 1, by omega, rfl⟩
end Go.Proofs.Ytkkflgdobgbmmaa.Q
end
section
/- strings.IndexRune in these two bytes, at a rune of more than one byte. -/
namespace Go.Proofs.Ytkkflgdobgbmmaa.Q
open Go.RowKit Go.Proofs.YtkkflgdobgbmmaaW.PrintWords Go.Proofs.YtkkflgdobgbmmaaW.PrintLast Go.Proofs.YtkkflgdobgbmmaaW.PrintMore Go.Proofs.Ytkkflgdobgbmmaa.Pure
attribute [local go_sem] max2_int min2_int max_two min_two max_three min_three max_four min_four
set_option linter.unusedVariables false
set_option linter.unusedSimpArgs false
theorem validRune_ok (r : Nat) (hv : Utf8.valid (r : Int) = true) : utf8_ValidRune.f 3 (r : Int) = some true := by
  unfold Utf8.valid at hv
  simp only [Bool.or_eq_true, Bool.and_eq_true, decide_eq_true_eq] at hv
  unfold utf8_ValidRune.f
  rw [if_pos (by omega)]
  simp only [utf8_ValidRune.j0]
  by_cases c : (r : Int) < 55296
  · rw [decide_eq_true c, if_pos rfl]
  · rw [decide_eq_false c, if_neg (by decide), if_pos (by omega), if_pos (by omega)]
set_option maxHeartbeats 4000000 in
set_option maxRecDepth 1000000 in
theorem ixrV.calls (r : Nat) (h : 128 ≤ r) (hv : Utf8.valid (r : Int) = true) (hne : r ≠ 65533) (w : World) :
    Calls Try.prog 46 #[.string slashNull, .int .i32 (r : Int)] w fun e w' => e = .returned (.int .i64 (-1)) ∧ Below w.heap.size w w' := by
  have h1 : decide ((r : Int) < 128) = false := decide_eq_false (by omega)
  have h2 : ((r : Int) == 65533) = false := beq_eq_false_iff_ne.mpr (by omega)
  have h3 : decide ((0 : Int) ≤ (r : Int)) = true := decide_eq_true (by omega)
  have HV := Aside0.mk (validRune_ok r hv)
  rcases encode_spec r h hv with ⟨a, b, he, hb⟩ | ⟨a, b, c, he⟩ | ⟨a, b, c, d, he⟩
  · go_enter Try.func46, Try.ntmps46
    go_wp2_with (go_at_call 55; refine (utf8_ValidRune.calls 3 _ true _ HV.out).mono ?_; rintro e w' ⟨rfl, hw⟩)
    go_step3
    go_wp2
    have HB := Aside0.mk (hw.below)
    go_loopg [9] 0 (fun gk v9 w' => v9 = .int .i64 1 ∧ Aside0 (Below w.heap.size w w'))
    case atStart => exact ⟨rfl, HB⟩
    case round =>
      clear HB
      obtain ⟨rfl, HB⟩ := hrel
      have HB6 := Aside0.mk (show ¬ bt slashNull 1 = bt ⟨#[a, b]⟩ 1 from by
        have e1 : bt slashNull 1 = 0 := by decide
        have e2 : bt ⟨#[a, b]⟩ 1 = (b.toNat : Int) := rfl
        rw [e1, e2]; omega)
      have d1 : decide ((1 : Int) < (slashNull.size : Int)) = true := by decide
      go_wp2
      go_step3
      refine wp_seq ?_
      refine wp_seq ?_
      refine mono_region (T := _) (B := [0, 0, 3, 0, 0, 24, 63]) (n := 7) [(0, 27, VP.is (Value.string slashNull)), (1, 28, VP.is (Value.int .i64 1)), (2, 29, VP.is (Value.int .u8 (bt slashNull 1))), (3, 30, VP.is (Value.string ⟨#[a, b]⟩)), (4, 31, VP.is (Value.int .i64 1)), (5, 32, VP.is (Value.int .u8 (bt ⟨#[a, b]⟩ 1))), (6, 33, VP.is (Value.bool true))] rfl (by kernel_rfl) (by kernel_rfl) rfl (by kernel_rfl) (by kernel_rfl) (by kernel_rfl) (by kernel_rfl) (by kernel_rfl) ?_ ?_
      · refine ms_cons ?_ <| ms_cons ?_ <| ms_cons ?_ <| ms_cons ?_ <| ms_cons ?_ <| ms_cons ?_ <| ms_cons ?_ <| ms_nil
        · intro act_ w' H
          have e0 := H.tmp (t := 0) rfl (by kernel_rfl)
          have ev0 := eval_of e0
          refine ms_val rfl rfl rfl (Value.string slashNull) w' ?_ (Below.refl _ _) rfl
          · go_simp
            try rfl
        · intro act_ w' H
          have e9 := H.tmp (t := 9) rfl (by kernel_rfl)
          have ev9 := eval_of e9
          refine ms_val rfl rfl rfl (Value.int .i64 1) w' ?_ (Below.refl _ _) rfl
          · go_simp
            try rfl
        · intro act_ w' H
          obtain ⟨_, e27, rfl⟩ := H.on 0 rfl (by kernel_rfl)
          have ev27 := eval_of e27
          obtain ⟨_, e28, rfl⟩ := H.on 1 rfl (by kernel_rfl)
          have ev28 := eval_of e28
          have hrun := run_index_bt (P := Try.prog) w' 9 slashNull .i64 1 Try.underlying9 (by decide) (by decide)
          refine ms_val rfl rfl rfl (Value.int .u8 (bt slashNull 1)) w' ?_ (Below.refl _ _) rfl
          · go_simp
            try rfl
        · intro act_ w' H
          have e7 := H.tmp (t := 7) rfl (by kernel_rfl)
          have ev7 := eval_of e7
          refine ms_val rfl rfl rfl (Value.string ⟨#[a, b]⟩) w' ?_ (Below.refl _ _) rfl
          · go_simp
            try rfl
        · intro act_ w' H
          have e8 := H.tmp (t := 8) rfl (by kernel_rfl)
          have ev8 := eval_of e8
          refine ms_val rfl rfl rfl (Value.int .i64 1) w' ?_ (Below.refl _ _) rfl
          · go_simp
            try rfl
        · intro act_ w' H
          obtain ⟨_, e30, rfl⟩ := H.on 3 rfl (by kernel_rfl)
          have ev30 := eval_of e30
          obtain ⟨_, e31, rfl⟩ := H.on 4 rfl (by kernel_rfl)
          have ev31 := eval_of e31
          have hrun := run_index_bt (P := Try.prog) w' 9 ⟨#[a, b]⟩ .i64 1 Try.underlying9 (by decide) (by show (1 : Int) < 2; decide)
          refine ms_val rfl rfl rfl (Value.int .u8 (bt ⟨#[a, b]⟩ 1)) w' ?_ (Below.refl _ _) rfl
          · go_simp
            try rfl
        · intro act_ w' H
          obtain ⟨_, e29, rfl⟩ := H.on 2 rfl (by kernel_rfl)
          have ev29 := eval_of e29
          obtain ⟨_, e32, rfl⟩ := H.on 5 rfl (by kernel_rfl)
          have ev32 := eval_of e32
          have hb6 := HB6.out
          refine ms_val rfl rfl rfl (Value.bool true) w' ?_ (Below.refl _ _) rfl
          · go_simp
            try rfl
      intro w2 hb2
      rintro _ rfl _ rfl _ rfl _ rfl _ rfl _ rfl _ rfl
      simp only [Ends, Act.put, List.setIfInBounds_toArray, List.set_cons_zero, List.set_cons_succ]
      have n0_ := Aside0.mk (HB.out.trans (hb2.mono HB.out.size))
      clear HB hb2
      have HB := n0_
      clear n0_
      have HIX := Aside0.mk (show Lib.indexByte (ByteArray.empty).data.toList (bt ⟨#[a, b]⟩ 1).toNat.toUInt8 = -1 from rfl)
      go_wp2
      refine mono_region (T := _) (B := [0, 0, 2, 7, 0, 0, 48, 127, 255]) (n := 9) [(0, 34, VP.is (Value.string slashNull)), (1, 35, VP.is (Value.int .i64 1)), (2, 36, VP.is (Value.int .i64 2)), (3, 37, VP.is (Value.string ByteArray.empty)), (4, 38, VP.is (Value.string ⟨#[a, b]⟩)), (5, 39, VP.is (Value.int .i64 1)), (6, 40, VP.is (Value.int .u8 (bt ⟨#[a, b]⟩ 1))), (7, 41, VP.is (Value.int .i64 (-1))), (8, 11, VP.is (Value.int .i64 (-1)))] rfl (by kernel_rfl) (by kernel_rfl) rfl (by kernel_rfl) (by kernel_rfl) (by kernel_rfl) (by kernel_rfl) (by kernel_rfl) ?_ ?_
      · refine ms_cons ?_ <| ms_cons ?_ <| ms_cons ?_ <| ms_cons ?_ <| ms_cons ?_ <| ms_cons ?_ <| ms_cons ?_ <| ms_cons ?_ <| ms_cons ?_ <| ms_nil
        · intro act_ w' H
          have e0 := H.tmp (t := 0) rfl (by kernel_rfl)
          have ev0 := eval_of e0
          refine ms_val rfl rfl rfl (Value.string slashNull) w' ?_ (Below.refl _ _) rfl
          · go_simp
            try rfl
        · intro act_ w' H
          have e9 := H.tmp (t := 9) rfl (by kernel_rfl)
          have ev9 := eval_of e9
          refine ms_val rfl rfl rfl (Value.int .i64 1) w' ?_ (Below.refl _ _) rfl
          · go_simp
            try rfl
        · intro act_ w' H
          obtain ⟨_, e35, rfl⟩ := H.on 1 rfl (by kernel_rfl)
          have ev35 := eval_of e35
          refine ms_val rfl rfl rfl (Value.int .i64 2) w' ?_ (Below.refl _ _) rfl
          · go_simp
            try rfl
        · intro act_ w' H
          obtain ⟨_, e34, rfl⟩ := H.on 0 rfl (by kernel_rfl)
          have ev34 := eval_of e34
          obtain ⟨_, e36, rfl⟩ := H.on 2 rfl (by kernel_rfl)
          have ev36 := eval_of e36
          refine ms_val rfl rfl rfl (Value.string ByteArray.empty) w' ?_ (Below.refl _ _) rfl
          · go_simp
            try rfl
        · intro act_ w' H
          have e7 := H.tmp (t := 7) rfl (by kernel_rfl)
          have ev7 := eval_of e7
          refine ms_val rfl rfl rfl (Value.string ⟨#[a, b]⟩) w' ?_ (Below.refl _ _) rfl
          · go_simp
            try rfl
        · intro act_ w' H
          have e8 := H.tmp (t := 8) rfl (by kernel_rfl)
          have ev8 := eval_of e8
          refine ms_val rfl rfl rfl (Value.int .i64 1) w' ?_ (Below.refl _ _) rfl
          · go_simp
            try rfl
        · intro act_ w' H
          obtain ⟨_, e38, rfl⟩ := H.on 4 rfl (by kernel_rfl)
          have ev38 := eval_of e38
          obtain ⟨_, e39, rfl⟩ := H.on 5 rfl (by kernel_rfl)
          have ev39 := eval_of e39
          have hrun := run_index_bt (P := Try.prog) w' 9 ⟨#[a, b]⟩ .i64 1 Try.underlying9 (by decide) (by show (1 : Int) < 2; decide)
          refine ms_val rfl rfl rfl (Value.int .u8 (bt ⟨#[a, b]⟩ 1)) w' ?_ (Below.refl _ _) rfl
          · go_simp
            try rfl
        · intro act_ w' H
          obtain ⟨_, e37, rfl⟩ := H.on 3 rfl (by kernel_rfl)
          have ev37 := eval_of e37
          obtain ⟨_, e40, rfl⟩ := H.on 6 rfl (by kernel_rfl)
          have ev40 := eval_of e40
          exact ms_call rfl rfl rfl Try.func54 (by kernel_rfl) rfl #[.string ByteArray.empty, .int .u8 (bt ⟨#[a, b]⟩ 1)] rfl (by simp [ev37, ev40]) ((ixb.calls _ _ _).mono fun e w1 h => ⟨_, h.1.trans (by rw [HIX.out]), by rw [h.2]; exact Below.refl _ _, rfl⟩)
        · intro act_ w' H
          obtain ⟨_, e41, rfl⟩ := H.on 7 rfl (by kernel_rfl)
          have ev41 := eval_of e41
          refine ms_val rfl rfl rfl (Value.int .i64 (-1)) w' ?_ (Below.refl _ _) rfl
          · go_simp
            try rfl
      intro w3 hb3
      rintro _ rfl _ rfl _ rfl _ rfl _ rfl _ rfl _ rfl _ rfl _ rfl
      simp only [Ends, Act.put, List.setIfInBounds_toArray, List.set_cons_zero, List.set_cons_succ]
      have n0_ := Aside0.mk (HB.out.trans (hb3.mono HB.out.size))
      clear HB hb3
      have HB := n0_
      clear n0_
      go_wp2
      simp only [Exit.noGoto, Exit.inBlock, Exit.then]
      go_ret
      exact ⟨rfl, HB.out⟩
  · go_enter Try.func46, Try.ntmps46
    go_wp2_with (go_at_call 55; refine (utf8_ValidRune.calls 3 _ true _ HV.out).mono ?_; rintro e w' ⟨rfl, hw⟩)
    go_step3
    go_wp2
    have HB := Aside0.mk (hw.below)
    go_loopg [9] 0 (fun gk v9 w' => v9 = .int .i64 2 ∧ Aside0 (Below w.heap.size w w'))
    case atStart => exact ⟨rfl, HB⟩
    case round =>
      clear HB
      obtain ⟨rfl, HB⟩ := hrel
      have d1 : decide ((2 : Int) < (slashNull.size : Int)) = false := by decide
      go_wp2
      repeat rw [Exit.noGoto_ret]
      go_ret
      exact ⟨rfl, HB.out⟩
  · go_enter Try.func46, Try.ntmps46
    go_wp2_with (go_at_call 55; refine (utf8_ValidRune.calls 3 _ true _ HV.out).mono ?_; rintro e w' ⟨rfl, hw⟩)
    go_step3
    go_wp2
    have HB := Aside0.mk (hw.below)
    go_loopg [9] 0 (fun gk v9 w' => v9 = .int .i64 3 ∧ Aside0 (Below w.heap.size w w'))
    case atStart => exact ⟨rfl, HB⟩
    case round =>
      clear HB
      obtain ⟨rfl, HB⟩ := hrel
      have d1 : decide ((3 : Int) < (slashNull.size : Int)) = false := by decide
      go_wp2
      repeat rw [Exit.noGoto_ret]
      go_ret
      exact ⟨rfl, HB.out⟩
end Go.Proofs.Ytkkflgdobgbmmaa.Q
end
section
/- strings.IndexAny, the long road, at these two bytes: the shelf's proof, laid in plain words. -/
namespace Go.Proofs.Ytkkflgdobgbmmaa.Q
open Go.RowKit Go.Shelf Go.Proofs.YtkkflgdobgbmmaaW.PrintWords Go.Proofs.YtkkflgdobgbmmaaW.PrintLast Go.Proofs.YtkkflgdobgbmmaaW.PrintMore Go.Proofs.Ytkkflgdobgbmmaa.Pure
def lays153_ren : Go.Shelf.Ren := ⟨fun | 153 => 38 | 152 => 46 | 226 => 47 | 227 => 48 | 228 => 49 | 137 => 54 | 119 => 55 | 224 => 56 | 225 => 57 | 217 => 58 | 266 => 59 | n => n, fun | 9 => 9 | 3 => 3 | 4 => 4 | 5 => 5 | 21 => 21 | 117 => 86 | 116 => 85 | 0 => 0 | 46 => 91 | 124 => 96 | n => n, fun | n => n⟩
theorem lays153 : Go.Proofs.Lays.n153 Try.prog lays153_ren where
  mixed := by kernel_rfl
  f119 := Try.func55.trans (congrArg some (by kernel_rfl))
  f137 := Try.func54.trans (congrArg some (by kernel_rfl))
  f152 := Try.func46.trans (congrArg some (by kernel_rfl))
  f153 := Try.func38.trans (congrArg some (by kernel_rfl))
  f217 := Try.func58.trans (congrArg some (by kernel_rfl))
  f224 := Try.func56.trans (congrArg some (by kernel_rfl))
  f225 := Try.func57.trans (congrArg some (by kernel_rfl))
  f226 := Try.func47.trans (congrArg some (by kernel_rfl))
  f227 := Try.func48.trans (congrArg some (by kernel_rfl))
  f228 := Try.func49.trans (congrArg some (by kernel_rfl))
  f266 := Try.func59.trans (congrArg some (by kernel_rfl))
  t0 := Try.underlying0
  a0 := Try.isAgg0
  z0 := Try.sizeOf0
  v0 := Try.zeroValue0
  t3 := Try.underlying3
  a3 := Try.isAgg3
  z3 := Try.sizeOf3
  v3 := Try.zeroValue3
  t4 := Try.underlying4
  a4 := Try.isAgg4
  z4 := Try.sizeOf4
  v4 := Try.zeroValue4
  t5 := Try.underlying5
  a5 := Try.isAgg5
  z5 := Try.sizeOf5
  v5 := Try.zeroValue5
  t9 := Try.underlying9
  a9 := Try.isAgg9
  z9 := Try.sizeOf9
  v9 := Try.zeroValue9
  t21 := Try.underlying21
  a21 := Try.isAgg21
  z21 := Try.sizeOf21
  v21 := Try.zeroValue21
  t46 := Try.underlying91
  a46 := Try.isAgg91
  z46 := Try.sizeOf91
  v46 := Try.zeroValue91
  t116 := Try.underlying85
  a116 := Try.isAgg85
  z116 := Try.sizeOf85
  t117 := Try.underlying86
  a117 := Try.isAgg86
  z117 := Try.sizeOf86
  v117 := Try.zeroValue86
  t124 := Try.underlying96
  a124 := Try.isAgg96
  z124 := Try.sizeOf96
  v124 := Try.zeroValue96
theorem set153 : (Try.prog.info? (lays153_ren.t 116)).map (fun i => (i.zero, i.size)) = some (some (.agg (Array.replicate 256 (.bool false))), 256) := by kernel_rfl
theorem slash_ascii : ∀ (j : Nat) b, slashNull.data.toList[j]? = some b → b.toNat < 128 := fun j b hb => by
  match j, hb with
  | 0, hb => injection hb with hb; subst hb; decide
  | 1, hb => injection hb with hb; subst hb; decide
theorem ixyL.calls (s : ByteArray) (h8 : 8 < s.size) (hs : s.size ≤ 200) (w : World) :
    Calls Try.prog 38 #[.string s, .string slashNull] w fun e w' => e = .returned (.int .i64 (Lib.indexAny s.data.toList slashNull.data.toList)) ∧ Below w.heap.size w w' :=
  (Any.strings_IndexAny_long lays153 (zero_of_info set153).1 (zero_of_info set153).2 s slashNull w (by decide) h8 (by omega) (by decide) slash_ascii).mono fun e w' h => ⟨h.1, by rw [h.2]; exact below_alloc (below_alloc (Below.refl _ _) _) _⟩
end Go.Proofs.Ytkkflgdobgbmmaa.Q
end
section
/- strings.IndexAny (both roads) and strings.ContainsAny, at these two bytes. -/
namespace Go.Proofs.Ytkkflgdobgbmmaa.Q
open Go.RowKit Go.Lib Go.Proofs.YtkkflgdobgbmmaaW.PrintWords Go.Proofs.YtkkflgdobgbmmaaW.PrintLast Go.Proofs.YtkkflgdobgbmmaaW.PrintMore Go.Proofs.Ytkkflgdobgbmmaa.Pure
attribute [local go_sem] max2_int min2_int max_two min_two max_three min_three max_four min_four
set_option linter.unusedVariables false
set_option linter.unusedSimpArgs false
theorem contains_slash (x : UInt8) : slashNull.data.toList.contains x = badB x := by
  show [(47 : UInt8), 0].contains x = badB x
  unfold badB
  by_cases h : x = 47
  · subst h; rfl
  · by_cases h2 : x = 0
    · subst h2; rfl
    · simp [h, h2]
theorem noAny_run {s : ByteArray} {i n : Nat} (h : Lib.NoAny s.data.toList slashNull.data.toList i) (hn : i + n ≤ s.size) (hb : ∀ k, k < n → 128 ≤ (s.get! (i + k)).toNat) : Lib.NoAny s.data.toList slashNull.data.toList (i + n) := by
  intro j b hj hx
  rcases Nat.lt_or_ge j i with hlt | hge
  · exact h j b hlt hx
  · have hk := hb (j - i) (by omega)
    rw [show i + (j - i) = j by omega] at hk
    have hjs : j < s.size := by omega
    have e2 := Lib.data_getElem? s j hjs
    rw [hx] at e2
    injection e2 with e2
    have hk : 128 ≤ (s.get! (j + 0)).toNat := hk
    rw [get_at s j hjs, ← e2] at hk
    rw [contains_slash]
    unfold badB
    rw [beq_eq_false_iff_ne.mpr (fun e => by rw [e] at hk; exact absurd hk (by decide)), beq_eq_false_iff_ne.mpr (fun e => by rw [e] at hk; exact absurd hk (by decide))]
    rfl
set_option maxHeartbeats 4000000 in
set_option maxRecDepth 1000000 in
theorem ixyS.calls (s : ByteArray) (h8 : s.size ≤ 8) (w : World) :
    Calls Try.prog 38 #[.string s, .string slashNull] w fun e w' => e = .returned (.int .i64 (Lib.indexAny s.data.toList slashNull.data.toList)) ∧ Below w.heap.size w w' := by
  have hemp : slashNull.toList.isEmpty = false := by
    rw [Lib.toList_data]
    rfl
  have hn1 : ((slashNull.size : Int) == 1) = false := by decide
  have HS := Aside0.mk (show strings_shouldUseASCIISet.f (s.size : Int) = some false by unfold strings_shouldUseASCIISet.f; rw [decide_eq_false (by omega)])
  have H0 := Aside0.mk (Lib.NoAny.zero s.data.toList slashNull.data.toList)
  go_enter Try.func38, Try.ntmps38
  go_wp2_with (go_at_call 47; refine (strings_shouldUseASCIISet.calls _ false _ HS.out).mono ?_; rintro e w' ⟨rfl, hw⟩)
  have hst : ∃ wx, w'.iter s 0 = wx ∧ wx.heap[w'.heap.size]? = some (.stringIter s 0) ∧ Below w.heap.size w wx := ⟨_, rfl, World.iter_heap w' s 0, hw.below.trans ((below_iter w' s 0).mono hw.below.size)⟩
  have hle : w.heap.size ≤ w'.heap.size := hw.below.size
  clear hw HS
  obtain ⟨k, hk⟩ : ∃ k, w'.heap.size = k := ⟨_, rfl⟩
  rw [hk] at hst hle ⊢
  obtain ⟨wx, hwx, hit, hbx⟩ := hst
  rw [hwx]
  clear hwx hk
  have HIT := Aside0.mk (And.intro hit hbx)
  clear hit hbx
  go_loopg [9, 10] s.size (fun g _ _ wx => ∃ i : Nat, i + g = s.size ∧ Aside0 (wx.heap[k]? = some (.stringIter s i) ∧ Below w.heap.size w wx) ∧ Aside0 (Lib.NoAny s.data.toList slashNull.data.toList i))
  case atStart => exact ⟨0, by omega, HIT, H0⟩
  case round =>
    clear HIT H0
    obtain ⟨i, hig, HIT, HN⟩ := hrel
    cases gk with
    | zero =>
      obtain rfl : i = s.size := by omega
      have hnx := fun ty => run_next_end_at (P := Try.prog) _ k s s.size ty HIT.out.1 (by omega)
      go_wp2
      go_ret
      exact ⟨by rw [Lib.indexAny_none (by rw [← Lib.size_eq]; exact HN.out)]; rfl, HIT.out.2⟩
    | succ g =>
      have hi : i < s.size := by omega
      obtain ⟨x, hx⟩ : ∃ x : UInt8, s[i]'hi = x := ⟨_, rfl⟩
      have hxl : s.data.toList[i]? = some x := by rw [← hx]; exact Lib.data_getElem? s i hi
      have Hx := Aside0.mk hxl
      clear hxl
      rcases Nat.lt_or_ge x.toNat 128 with ha | ha
      · have hnx := fun ty => run_next_ascii_at (P := Try.prog) _ k s i ty HIT.out.1 hi (by rw [hx]; exact ha)
        rw [hx] at hnx
        have hi1 := iterAt_heap _ k s i (i + 1) HIT.out.1
        have hb1 := below_iterAt HIT.out.2 hle s (i + 1)
        have HI1 := Aside0.mk (And.intro hi1 hb1)
        clear hx hi1 hb1 HIT
        cases hin : slashNull.data.toList.contains x
        · have HX := Aside0.mk (show (if x = 47 then 0 else if x = 0 then 1 else -1) = (-1 : Int) by
            rw [contains_slash] at hin
            unfold badB at hin
            have h1 : ¬ x = 47 := fun e => by subst e; exact absurd hin (by decide)
            have h2 : ¬ x = 0 := fun e => by subst e; exact absurd hin (by decide)
            rw [if_neg h1, if_neg h2])
          have HNN := Aside0.mk (HN.out.succ Hx.out hin)
          clear HN hin
          go_wp2_with (go_at_call 46; refine (ixrA.calls x ha _ HX.out _).mono ?_; rintro e w2 ⟨rfl, hw2⟩)
          have HI2 := Aside0.mk (And.intro ((hw2.block k (Array.getElem?_eq_some_iff.1 HI1.out.1).1).trans HI1.out.1) (HI1.out.2.trans (hw2.mono HI1.out.2.size)))
          go_roundg g
          case measure => omega
          case rel => exact ⟨i + 1, by omega, HI2, HNN⟩
        · have HX := Aside0.mk (show (0 : Int) ≤ (if x = 47 then 0 else if x = 0 then 1 else -1) by
            rw [contains_slash] at hin
            by_cases h1 : x = 47
            · rw [if_pos h1]; decide
            · by_cases h2 : x = 0
              · rw [if_neg h1, if_pos h2]; decide
              · unfold badB at hin
                rw [beq_eq_false_iff_ne.mpr h1, beq_eq_false_iff_ne.mpr h2] at hin
                exact absurd hin (by decide))
          obtain ⟨q, hq⟩ : ∃ q : Int, (if x = 47 then 0 else if x = 0 then 1 else -1) = q := ⟨_, rfl⟩
          have HQ := Aside0.mk hq
          have hq0 : (0 : Int) ≤ q := by rw [← hq]; exact HX.out
          have hqd : decide ((0 : Int) ≤ q) = true := decide_eq_true hq0
          have HH := Aside0.mk (Lib.indexAny_hit HN.out Hx.out hin)
          clear HN hin HX hq hq0
          go_wp2_with (go_at_call 46; refine (ixrA.calls x ha _ HQ.out _).mono ?_; rintro e w2 ⟨rfl, hw2⟩)
          go_ret
          exact ⟨by rw [HH.out]; rfl, HI1.out.2.trans (hw2.mono HI1.out.2.size)⟩
      · obtain ⟨c1, c2, c3, c4⟩ := decode_spec s i hi (by rw [hx]; exact ha)
        have hnx := fun ty => run_next_any_at (P := Try.prog) _ k s i ty HIT.out.1 hi
        have hcl : ∀ W : World, Calls Try.prog 46 #[.string slashNull, .int .i32 ((Utf8.decode s i).1 : Int)] W fun e w' => e = .returned (.int .i64 (-1)) ∧ Below W.heap.size W w' := fun W => by
          by_cases h3 : (Utf8.decode s i).1 = 65533
          · rw [h3]; exact ixrE.calls W
          · rcases c3 with c3 | ⟨c3, c5⟩
            · exact absurd c3 h3
            · exact ixrV.calls _ c3 c5 h3 W
        have HNN := Aside0.mk (noAny_run HN.out c2 c4)
        obtain ⟨n, hn⟩ : ∃ n, (Utf8.decode s i).2 = n := ⟨_, rfl⟩
        obtain ⟨v, hv⟩ : ∃ v : Int, ((Utf8.decode s i).1 : Int) = v := ⟨_, rfl⟩
        rw [hn] at c1 c2 HNN hnx
        rw [hv] at hcl hnx
        have HCL := Aside0.mk hcl
        have hi1 := iterAt_heap _ k s i (i + n) HIT.out.1
        have hb1 := below_iterAt HIT.out.2 hle s (i + n)
        have HI1 := Aside0.mk (And.intro hi1 hb1)
        clear hx hi1 hb1 HIT hn hv hcl c3 c4 HN
        go_wp2_with (go_at_call 46; refine (HCL.out _).mono ?_; rintro e w2 ⟨rfl, hw2⟩)
        have HI2 := Aside0.mk (And.intro ((hw2.block k (Array.getElem?_eq_some_iff.1 HI1.out.1).1).trans HI1.out.1) (HI1.out.2.trans (hw2.mono HI1.out.2.size)))
        go_roundg (s.size - (i + n))
        case measure => omega
        case rel => exact ⟨i + n, by omega, HI2, HNN⟩
theorem ixy.calls (s : ByteArray) (hs : s.size ≤ 200) (w : World) :
    Calls Try.prog 38 #[.string s, .string slashNull] w fun e w' => e = .returned (.int .i64 (Lib.indexAny s.data.toList slashNull.data.toList)) ∧ Below w.heap.size w w' := by
  rcases Nat.lt_or_ge 8 s.size with h | h
  · exact ixyL.calls s h hs w
  · exact ixyS.calls s h w
theorem indexAny_bad : ∀ l : List UInt8, decide ((0 : Int) ≤ Lib.indexAny l slashNull.data.toList) = l.any badB
  | [] => rfl
  | b :: l => by
    have ih := indexAny_bad l
    have hge := Lib.indexAny_ge slashNull.data.toList l
    rw [Lib.indexAny, List.any_cons, contains_slash]
    cases hb : badB b
    · rw [if_neg (by decide), Bool.false_or, ← ih]
      by_cases h : Lib.indexAny l slashNull.data.toList = -1
      · rw [h]; rfl
      · rw [beq_eq_false_iff_ne.mpr h, if_neg (by decide)]
        rw [decide_eq_true (by omega), decide_eq_true (by omega)]
    · rfl
set_option maxHeartbeats 4000000 in
/-- strings.ContainsAny of these two bytes. -/
theorem cany.calls (s : ByteArray) (hs : s.size ≤ 200) (w : World) :
    Calls Try.prog 24 #[.string s, .string slashNull] w fun e w' => e = .returned (.bool (s.data.toList.any badB)) ∧ Below w.heap.size w w' := by
  have HB := Aside0.mk (indexAny_bad s.data.toList)
  obtain ⟨q, hq⟩ : ∃ q : Int, Lib.indexAny s.data.toList slashNull.data.toList = q := ⟨_, rfl⟩
  have HC := Aside0.mk (ixy.calls s hs w)
  rw [hq] at HB HC
  clear hq
  go_enter Try.func24, Try.ntmps24
  go_wp2_with (go_at_call 38; refine HC.out.mono ?_; rintro e w2 ⟨rfl, hw2⟩)
  go_ret
  exact ⟨by rw [← HB.out]; rfl, hw2⟩
end Go.Proofs.Ytkkflgdobgbmmaa.Q
end
section
namespace Go.Proofs.Ytkkflgdobgbmmaa.Q
open Go.RowKit Go.Proofs.YtkkflgdobgbmmaaW.PrintWords Go.Proofs.YtkkflgdobgbmmaaW.PrintLast Go.Proofs.YtkkflgdobgbmmaaW.PrintMore
attribute [local go_sem] max2_int min2_int max_two min_two max_three min_three max_four min_four   -- for this text's walks alone
set_option linter.unusedVariables false
set_option linter.unusedSimpArgs false

-- EXT strings_ContainsAny: function 24
/-! ### strings_ContainsAny: function 24 -/
-- IMPORT HAnyS
def strings_ContainsAny.f (a0 a1 : ByteArray) : Option Bool := if a0.size ≤ 200 ∧ a1 = ⟨#[47, 0]⟩ then some (a0.data.toList.any badB) else none
theorem strings_ContainsAny.calls (a0 a1 : ByteArray) (r : Bool) (w : World) (h : strings_ContainsAny.f a0 a1 = some r) :
    Calls Try.prog 24 #[.string a0, .string a1] w fun e w' => e = .returned (.bool r) ∧ Below w.heap.size w w' := by
  unfold strings_ContainsAny.f at h
  split at h
  · rename_i c
    injection h with h
    subst h
    rw [c.2]
    exact cany.calls a0 c.1 w
  · cases h

end Go.Proofs.Ytkkflgdobgbmmaa.Q
end
section
namespace Go.Proofs.Ytkkflgdobgbmmaa.Q
open Go.RowKit Go.Proofs.YtkkflgdobgbmmaaW.PrintWords Go.Proofs.YtkkflgdobgbmmaaW.PrintLast Go.Proofs.YtkkflgdobgbmmaaW.PrintMore
attribute [local go_sem] max2_int min2_int max_two min_two max_three min_three max_four min_four   -- for this text's walks alone
set_option linter.unusedVariables false
set_option linter.unusedSimpArgs false

/-! ### entries_Check: function 10 -/
def entries_Check.f (a0 : ByteArray) : Option (Int) := if (a0.size : Int) < 1 then (some 26) else (if (a0.size : Int) > 24 then (some 26) else ((strings_ContainsAny.f a0 (⟨#[47, 0]⟩ : ByteArray)).bind fun t101 => (if t101 = true then (some 26) else (if a0.toList = ([46] : List UInt8) then (some 26) else (if a0.toList = ([46, 46] : List UInt8) then (some 26) else (some 0))))))
set_option maxHeartbeats 8000000 in
set_option maxRecDepth 100000 in
theorem entries_Check.calls (a0 : ByteArray) (r : Int) (w : World) (h : entries_Check.f a0 = some r) :
    Calls Try.prog 10 #[.string a0] w fun e w' => e = .returned (.int .i64 r) ∧ Below w.heap.size w w' := by
  have HB := Aside0.mk (Below.refl w.heap.size w)
  have H : (if (a0.size : Int) < 1 then (some 26) else (if (a0.size : Int) > 24 then (some 26) else ((strings_ContainsAny.f a0 (⟨#[47, 0]⟩ : ByteArray)).bind fun t101 => (if t101 = true then (some 26) else (if a0.toList = ([46] : List UInt8) then (some 26) else (if a0.toList = ([46, 46] : List UInt8) then (some 26) else (some 0))))))) = some r := h
  clear h
  by_cases c2 : (a0.size : Int) < 1
  · rw [if_pos c2] at H
    have c2b0 : decide ((a0.size : Int) < 1) = true := decide_eq_true c2
    have c2b1 : decide (a0.size < 1) = true := decide_eq_true (by omega)
    clear c2
    obtain rfl := Option.some.inj H
    go_enter Try.func10, Try.ntmps10
    go_wp2
    go_ret
    exact ⟨by first | rfl | (simp [errW_none, errW_some] <;> rfl) | (simp [*, errW_none, errW_some] <;> rfl), by repeat (first | (with_reducible first | exact HB.out | apply below_alloc | apply pw_below_drewN | apply below_drew1) | exact HB.out)⟩
  · rw [if_neg c2] at H
    have c2b0 : decide ((a0.size : Int) < 1) = false := decide_eq_false c2
    have c2b1 : decide (a0.size < 1) = false := decide_eq_false (by omega)
    clear c2
    by_cases c3 : (a0.size : Int) > 24
    · rw [if_pos c3] at H
      have c3b0 : decide (24 < (a0.size : Int)) = true := decide_eq_true c3
      have c3b1 : decide (24 < a0.size) = true := decide_eq_true (by omega)
      clear c3
      obtain rfl := Option.some.inj H
      go_enter Try.func10, Try.ntmps10
      go_wp2
      go_ret
      exact ⟨by first | rfl | (simp [errW_none, errW_some] <;> rfl) | (simp [*, errW_none, errW_some] <;> rfl), by repeat (first | (with_reducible first | exact HB.out | apply below_alloc | apply pw_below_drewN | apply below_drew1) | exact HB.out)⟩
    · rw [if_neg c3] at H
      have c3b0 : decide (24 < (a0.size : Int)) = false := decide_eq_false c3
      have c3b1 : decide (24 < a0.size) = false := decide_eq_false (by omega)
      clear c3
      replace H := Option.bind_eq_some_iff.mp H
      obtain ⟨t101, A40, H⟩ := H
      replace H : (if t101 = true then (some 26) else (if a0.toList = ([46] : List UInt8) then (some 26) else (if a0.toList = ([46, 46] : List UInt8) then (some 26) else (some 0)))) = some r := H
      have A4 := Aside0.mk A40
      clear A40
      by_cases c5 : t101 = true
      · subst c5
        have H1 : (some 26) = some r := by rw [if_pos rfl] at H; exact H
        clear H
        have H := H1
        clear H1
        obtain rfl := Option.some.inj H
        go_enter Try.func10, Try.ntmps10
        go_wp2_with (first | (go_at_call 24; (with_reducible refine (strings_ContainsAny.calls a0 (⟨#[47, 0]⟩ : ByteArray) true _ A4.out).mono ?_); rintro e w6 ⟨rfl, hb⟩; have n0_ := Aside0.mk (below_step (by repeat (first | (with_reducible first | exact HB.out | apply below_alloc | apply pw_below_drewN | apply below_drew1) | exact HB.out)) hb); clear HB; have HB := n0_; clear n0_; (try clear hb); (try clear hb2); (try clear hk); (try clear hi)))
        go_ret
        exact ⟨by first | rfl | (simp [errW_none, errW_some] <;> rfl) | (simp [*, errW_none, errW_some] <;> rfl), by repeat (first | (with_reducible first | exact HB.out | apply below_alloc | apply pw_below_drewN | apply below_drew1) | exact HB.out)⟩
      · replace c5 := Bool.eq_false_iff.mpr c5
        subst c5
        have H1 : (if a0.toList = ([46] : List UInt8) then (some 26) else (if a0.toList = ([46, 46] : List UInt8) then (some 26) else (some 0))) = some r := by rw [if_neg (show ¬ (false = true) by decide)] at H; exact H
        clear H
        have H := H1
        clear H1
        by_cases c7 : a0.toList = ([46] : List UInt8)
        · rw [if_pos c7] at H
          have c7b0 : (a0.toList == ([46] : List UInt8)) = true := beq_iff_eq.mpr c7
          have c7b1 : (a0.toList != ([46] : List UInt8)) = false := bne_eq_false_iff_eq.mpr c7
          clear c7
          obtain rfl := Option.some.inj H
          go_enter Try.func10, Try.ntmps10
          go_wp2_with (first | (go_at_call 24; (with_reducible refine (strings_ContainsAny.calls a0 (⟨#[47, 0]⟩ : ByteArray) false _ A4.out).mono ?_); rintro e w8 ⟨rfl, hb⟩; have n0_ := Aside0.mk (below_step (by repeat (first | (with_reducible first | exact HB.out | apply below_alloc | apply pw_below_drewN | apply below_drew1) | exact HB.out)) hb); clear HB; have HB := n0_; clear n0_; (try clear hb); (try clear hb2); (try clear hk); (try clear hi)))
          go_ret
          exact ⟨by first | rfl | (simp [errW_none, errW_some] <;> rfl) | (simp [*, errW_none, errW_some] <;> rfl), by repeat (first | (with_reducible first | exact HB.out | apply below_alloc | apply pw_below_drewN | apply below_drew1) | exact HB.out)⟩
        · rw [if_neg c7] at H
          have c7b0 : (a0.toList == ([46] : List UInt8)) = false := beq_eq_false_iff_ne.mpr c7
          have c7b1 : (a0.toList != ([46] : List UInt8)) = true := bne_iff_ne.mpr c7
          by_cases c9 : a0.toList = ([46, 46] : List UInt8)
          · rw [if_pos c9] at H
            have c9b0 : (a0.toList == ([46, 46] : List UInt8)) = true := beq_iff_eq.mpr c9
            have c9b1 : (a0.toList != ([46, 46] : List UInt8)) = false := bne_eq_false_iff_eq.mpr c9
            clear c9
            obtain rfl := Option.some.inj H
            go_enter Try.func10, Try.ntmps10
            go_wp2_with (first | (go_at_call 24; (with_reducible refine (strings_ContainsAny.calls a0 (⟨#[47, 0]⟩ : ByteArray) false _ A4.out).mono ?_); rintro e w10 ⟨rfl, hb⟩; have n0_ := Aside0.mk (below_step (by repeat (first | (with_reducible first | exact HB.out | apply below_alloc | apply pw_below_drewN | apply below_drew1) | exact HB.out)) hb); clear HB; have HB := n0_; clear n0_; (try clear hb); (try clear hb2); (try clear hk); (try clear hi)))
            go_ret
            exact ⟨by first | rfl | (simp [errW_none, errW_some] <;> rfl) | (simp [*, errW_none, errW_some] <;> rfl), by repeat (first | (with_reducible first | exact HB.out | apply below_alloc | apply pw_below_drewN | apply below_drew1) | exact HB.out)⟩
          · rw [if_neg c9] at H
            have c9b0 : (a0.toList == ([46, 46] : List UInt8)) = false := beq_eq_false_iff_ne.mpr c9
            have c9b1 : (a0.toList != ([46, 46] : List UInt8)) = true := bne_iff_ne.mpr c9
            obtain rfl := Option.some.inj H
            go_enter Try.func10, Try.ntmps10
            go_wp2_with (first | (go_at_call 24; (with_reducible refine (strings_ContainsAny.calls a0 (⟨#[47, 0]⟩ : ByteArray) false _ A4.out).mono ?_); rintro e w11 ⟨rfl, hb⟩; have n0_ := Aside0.mk (below_step (by repeat (first | (with_reducible first | exact HB.out | apply below_alloc | apply pw_below_drewN | apply below_drew1) | exact HB.out)) hb); clear HB; have HB := n0_; clear n0_; (try clear hb); (try clear hb2); (try clear hk); (try clear hi)))
            go_ret
            exact ⟨by first | rfl | (simp [errW_none, errW_some] <;> rfl) | (simp [*, errW_none, errW_some] <;> rfl), by repeat (first | (with_reducible first | exact HB.out | apply below_alloc | apply pw_below_drewN | apply below_drew1) | exact HB.out)⟩

end Go.Proofs.Ytkkflgdobgbmmaa.Q
end
section
namespace Go.Proofs.Ytkkflgdobgbmmaa.Q
open Go.RowKit Go.Proofs.YtkkflgdobgbmmaaW.PrintWords Go.Proofs.YtkkflgdobgbmmaaW.PrintLast Go.Proofs.YtkkflgdobgbmmaaW.PrintMore
attribute [local go_sem] max2_int min2_int max_two min_two max_three min_three max_four min_four   -- for this text's walks alone
set_option linter.unusedVariables false
set_option linter.unusedSimpArgs false

-- EXT entries_read: function 29
/-! ### entries_read: function 29 -/
-- IMPORT HReadW
def entries_read.f (l0 : List Int) : Option (List (S28) × Int) := if l0.length ≤ 140737488351232 ∧ u8s l0 then some (readV l0) else none
theorem entries_read.calls (A0 : Option Addr) (c0 : Nat) (l0 : List Int) (r1 : List (S28)) (r2 : Int) (w : World) (hr0 : Kd.C (Kd.int .u8) w A0 l0.length l0) (hc0 : l0.length ≤ c0) (h : entries_read.f l0 = some (r1, r2)) :
    Calls Try.prog 29 #[.slice A0 l0.length c0] w fun e w' => ∃ v0_ : Value, e = .returned (.tuple #[v0_, .int .i64 r2]) ∧ Kd.R k28 28 w' w.heap.size (fun _ => True) v0_ r1 ∧ Below w.heap.size w w' := by
  unfold entries_read.f at h
  split at h
  · rename_i c
    injection h with h
    have := read.calls A0 c0 l0 w hr0 hc0 c.1 c.2
    rw [h] at this
    exact this
  · cases h

end Go.Proofs.Ytkkflgdobgbmmaa.Q
end
section
namespace Go.Proofs.Ytkkflgdobgbmmaa.Q
open Go.RowKit Go.Proofs.YtkkflgdobgbmmaaW.PrintWords Go.Proofs.YtkkflgdobgbmmaaW.PrintLast Go.Proofs.YtkkflgdobgbmmaaW.PrintMore
attribute [local go_sem] max2_int min2_int max_two min_two max_three min_three max_four min_four   -- for this text's walks alone
set_option linter.unusedVariables false
set_option linter.unusedSimpArgs false

-- EXT entries_at: function 30
/-! ### entries_at: function 30 -/
-- IMPORT HAt
def entries_at.f (l0 : List (S28)) (a1 : ByteArray) : Option Int := some (findAt (hitE a1) 0 l0)
theorem entries_at.calls (A0 : Option Addr) (c0 : Nat) (l0 : List (S28)) (a1 : ByteArray) (r : Int) (w : World) (hr0 : Kd.C k28 w A0 l0.length l0) (hc0 : l0.length ≤ c0) (h : entries_at.f l0 a1 = some r) :
    Calls Try.prog 30 #[.slice A0 l0.length c0, .string a1] w fun e w' => e = .returned (.int .i64 r) ∧ Below w.heap.size w w' := by
  injection h with h
  subst h
  exact at.calls _ _ _ _ _ hr0 hc0

end Go.Proofs.Ytkkflgdobgbmmaa.Q
end
section
namespace Go.Proofs.Ytkkflgdobgbmmaa.Q
open Go.RowKit Go.Proofs.YtkkflgdobgbmmaaW.PrintWords Go.Proofs.YtkkflgdobgbmmaaW.PrintLast Go.Proofs.YtkkflgdobgbmmaaW.PrintMore
attribute [local go_sem] max2_int min2_int max_two min_two max_three min_three max_four min_four   -- for this text's walks alone
set_option linter.unusedVariables false
set_option linter.unusedSimpArgs false

/-! ### entries_found: function 25 -/
def entries_found.f (l0 : List Int) (a1 : ByteArray) : Option ((List (S28)) × Int × Int) := (entries_read.f l0).bind fun bt110 => (if bt110.2 = 0 then ((entries_at.f bt110.1 a1).bind fun t114 => (if t114 < 0 then (some (([] : List (S28)), 0, 21)) else (some (bt110.1, t114, 0)))) else (some (([] : List (S28)), 0, bt110.2)))
set_option maxHeartbeats 8000000 in
set_option maxRecDepth 100000 in
theorem entries_found.calls (A0 : Option Addr) (c0 : Nat) (l0 : List Int) (a1 : ByteArray) (r1 : List (S28)) (r2 : Int) (r3 : Int) (w : World) (hr0 : Kd.C (Kd.int .u8) w A0 l0.length l0) (hc0 : l0.length ≤ c0) (h : entries_found.f l0 a1 = some (r1, r2, r3)) :
    Calls Try.prog 25 #[.slice A0 l0.length c0, .string a1] w fun e w' => ∃ v0_ : Value, e = .returned (.tuple #[v0_, .int .i64 r2, .int .i64 r3]) ∧ Kd.R k28 28 w' w.heap.size (fun _ => True) v0_ r1 ∧ Below w.heap.size w w' := by
  have HR0 := Aside0.mk hr0
  have HC0 := Aside0.mk hc0
  clear hr0 hc0
  have HB := Aside0.mk (Below.refl w.heap.size w)
  have H : ((entries_read.f l0).bind fun bt110 => (if bt110.2 = 0 then ((entries_at.f bt110.1 a1).bind fun t114 => (if t114 < 0 then (some (([] : List (S28)), 0, 21)) else (some (bt110.1, t114, 0)))) else (some (([] : List (S28)), 0, bt110.2)))) = some (r1, r2, r3) := h
  clear h
  replace H := Option.bind_eq_some_iff.mp H
  obtain ⟨⟨t110, t111⟩, A30, H⟩ := H
  replace H : (if t111 = 0 then ((entries_at.f t110 a1).bind fun t114 => (if t114 < 0 then (some (([] : List (S28)), 0, 21)) else (some (t110, t114, 0)))) else (some (([] : List (S28)), 0, t111))) = some (r1, r2, r3) := H
  have A3 := Aside0.mk A30
  clear A30
  by_cases c4 : t111 = 0
  · rw [if_pos c4] at H
    have c4b0 : (t111 == 0) = true := beq_iff_eq.mpr c4
    have c4b1 : (t111 != 0) = false := bne_eq_false_iff_eq.mpr c4
    clear c4
    replace H := Option.bind_eq_some_iff.mp H
    obtain ⟨t114, A50, H⟩ := H
    replace H : (if t114 < 0 then (some (([] : List (S28)), 0, 21)) else (some (t110, t114, 0))) = some (r1, r2, r3) := H
    have A5 := Aside0.mk A50
    clear A50
    by_cases c6 : t114 < 0
    · rw [if_pos c6] at H
      have c6b0 : decide (t114 < 0) = true := decide_eq_true c6
      clear c6
      simp only [Option.some.injEq, Prod.mk.injEq] at H
      obtain ⟨rfl, rfl, rfl⟩ := H
      go_enter Try.func25, Try.ntmps25
      go_wp2_with (first | ((with_reducible refine gate_callee (f := 29) rfl ?_); refine goesL_ (some 12) rfl rfl Try.func29 (by kernel_rfl) rfl #[.slice A0 l0.length c0] rfl (by (try simp only [List.map_toArray, List.map_cons, List.map_nil]); first | done | rfl | (simp only [List.length_drop, List.length_take]; rfl)) ?_; (with_reducible refine (entries_read.calls _ _ l0 t110 t111 _ ?side1 ?side2 A3.out).mono ?_); (case side1 => repeat (first | exact HR0.out | (with_reducible refine Kd.C_alloc ?_ _) | (with_reducible refine Kd.C_drewN ?_ _) | (with_reducible refine Kd.C_drew ?_))); (case side2 => exact HC0.out); rintro e w7 ⟨v112, rfl, ho0, hb⟩; refine ⟨_, rfl, ?_⟩; have n0_ := Aside0.mk (Kd.R_lower ho0 (below_size (by repeat (first | (with_reducible first | exact HB.out | apply below_alloc | apply pw_below_drewN | apply below_drew1) | exact HB.out)))); have n1_ := Aside0.mk (below_step (by repeat (first | (with_reducible first | exact HB.out | apply below_alloc | apply pw_below_drewN | apply below_drew1) | exact HB.out)) hb); clear HB; have HO113 := n0_; have HB := n1_; clear n0_ n1_; (try clear hb); (try clear hb2); (try clear hk); (try clear hi); (try clear ho0); obtain ⟨Ao8, co8, eo8⟩ := Kd.R_slice HO113.out; subst eo8) | ((with_reducible refine gate_callee (f := 30) rfl ?_); refine goesL_ (some 20) rfl rfl Try.func30 (by kernel_rfl) rfl #[.slice Ao8 t110.length co8, .string a1] rfl (by (try simp only [List.map_toArray, List.map_cons, List.map_nil]); first | done | rfl | (simp only [List.length_drop, List.length_take]; rfl)) ?_; (with_reducible refine (entries_at.calls _ _ t110 a1 t114 _ ?side1 ?side2 A5.out).mono ?_); (case side1 => repeat (first | exact (Kd.R_reads' HO113.out).2.2 | (with_reducible refine Kd.C_alloc ?_ _) | (with_reducible refine Kd.C_drewN ?_ _) | (with_reducible refine Kd.C_drew ?_))); (case side2 => exact (Kd.R_reads' HO113.out).2.1); rintro e w9 ⟨rfl, hb⟩; refine ⟨_, rfl, ?_⟩; have n0_ := Aside0.mk (Kd.R_below (by (with_reducible repeat (first | apply Kd.R_alloc | apply Kd.R_drewN | apply Kd.R_drew)); exact HO113.out) hb); have n1_ := Aside0.mk (below_step (by repeat (first | (with_reducible first | exact HB.out | apply below_alloc | apply pw_below_drewN | apply below_drew1) | exact HB.out)) hb); clear HO113; clear HB; have HO113 := n0_; have HB := n1_; clear n0_ n1_; (try clear hb); (try clear hb2); (try clear hk); (try clear hi)))
      go_ret3
      exact ⟨_, by first | rfl | (simp [errW_none, errW_some] <;> rfl) | (simp [*, errW_none, errW_some] <;> rfl), by first | exact Kd.R_nil _ _ _ _ _ | exact Kd.N_nil _ _ _ _ _ | exact Kd.V_nil _ _ _ _ _ | exact Kd.Q_nil _ _ _ _ _ | exact Kd.S_nil _ _ _ _ _, by repeat (first | (with_reducible first | exact HB.out | apply below_alloc | apply pw_below_drewN | apply below_drew1) | exact HB.out)⟩
    · rw [if_neg c6] at H
      have c6b0 : decide (t114 < 0) = false := decide_eq_false c6
      clear c6
      simp only [Option.some.injEq, Prod.mk.injEq] at H
      obtain ⟨rfl, rfl, rfl⟩ := H
      go_enter Try.func25, Try.ntmps25
      go_wp2_with (first | ((with_reducible refine gate_callee (f := 29) rfl ?_); refine goesL_ (some 12) rfl rfl Try.func29 (by kernel_rfl) rfl #[.slice A0 l0.length c0] rfl (by (try simp only [List.map_toArray, List.map_cons, List.map_nil]); first | done | rfl | (simp only [List.length_drop, List.length_take]; rfl)) ?_; (with_reducible refine (entries_read.calls _ _ l0 t110 t111 _ ?side1 ?side2 A3.out).mono ?_); (case side1 => repeat (first | exact HR0.out | (with_reducible refine Kd.C_alloc ?_ _) | (with_reducible refine Kd.C_drewN ?_ _) | (with_reducible refine Kd.C_drew ?_))); (case side2 => exact HC0.out); rintro e w10 ⟨v112, rfl, ho0, hb⟩; refine ⟨_, rfl, ?_⟩; have n0_ := Aside0.mk (Kd.R_lower ho0 (below_size (by repeat (first | (with_reducible first | exact HB.out | apply below_alloc | apply pw_below_drewN | apply below_drew1) | exact HB.out)))); have n1_ := Aside0.mk (below_step (by repeat (first | (with_reducible first | exact HB.out | apply below_alloc | apply pw_below_drewN | apply below_drew1) | exact HB.out)) hb); clear HB; have HO113 := n0_; have HB := n1_; clear n0_ n1_; (try clear hb); (try clear hb2); (try clear hk); (try clear hi); (try clear ho0); obtain ⟨Ao11, co11, eo11⟩ := Kd.R_slice HO113.out; subst eo11) | ((with_reducible refine gate_callee (f := 30) rfl ?_); refine goesL_ (some 20) rfl rfl Try.func30 (by kernel_rfl) rfl #[.slice Ao11 t110.length co11, .string a1] rfl (by (try simp only [List.map_toArray, List.map_cons, List.map_nil]); first | done | rfl | (simp only [List.length_drop, List.length_take]; rfl)) ?_; (with_reducible refine (entries_at.calls _ _ t110 a1 t114 _ ?side1 ?side2 A5.out).mono ?_); (case side1 => repeat (first | exact (Kd.R_reads' HO113.out).2.2 | (with_reducible refine Kd.C_alloc ?_ _) | (with_reducible refine Kd.C_drewN ?_ _) | (with_reducible refine Kd.C_drew ?_))); (case side2 => exact (Kd.R_reads' HO113.out).2.1); rintro e w12 ⟨rfl, hb⟩; refine ⟨_, rfl, ?_⟩; have n0_ := Aside0.mk (Kd.R_below (by (with_reducible repeat (first | apply Kd.R_alloc | apply Kd.R_drewN | apply Kd.R_drew)); exact HO113.out) hb); have n1_ := Aside0.mk (below_step (by repeat (first | (with_reducible first | exact HB.out | apply below_alloc | apply pw_below_drewN | apply below_drew1) | exact HB.out)) hb); clear HO113; clear HB; have HO113 := n0_; have HB := n1_; clear n0_ n1_; (try clear hb); (try clear hb2); (try clear hk); (try clear hi)))
      go_ret3
      exact ⟨_, by first | rfl | (simp [errW_none, errW_some] <;> rfl) | (simp [*, errW_none, errW_some] <;> rfl), by (with_reducible repeat (first | apply Kd.R_alloc | apply Kd.R_drewN | apply Kd.R_drew)); exact HO113.out, by repeat (first | (with_reducible first | exact HB.out | apply below_alloc | apply pw_below_drewN | apply below_drew1) | exact HB.out)⟩
  · rw [if_neg c4] at H
    have c4b0 : (t111 == 0) = false := beq_eq_false_iff_ne.mpr c4
    have c4b1 : (t111 != 0) = true := bne_iff_ne.mpr c4
    simp only [Option.some.injEq, Prod.mk.injEq] at H
    obtain ⟨rfl, rfl, rfl⟩ := H
    go_enter Try.func25, Try.ntmps25
    go_wp2_with (first | ((with_reducible refine gate_callee (f := 29) rfl ?_); refine goesL_ (some 12) rfl rfl Try.func29 (by kernel_rfl) rfl #[.slice A0 l0.length c0] rfl (by (try simp only [List.map_toArray, List.map_cons, List.map_nil]); first | done | rfl | (simp only [List.length_drop, List.length_take]; rfl)) ?_; (with_reducible refine (entries_read.calls _ _ l0 t110 t111 _ ?side1 ?side2 A3.out).mono ?_); (case side1 => repeat (first | exact HR0.out | (with_reducible refine Kd.C_alloc ?_ _) | (with_reducible refine Kd.C_drewN ?_ _) | (with_reducible refine Kd.C_drew ?_))); (case side2 => exact HC0.out); rintro e w13 ⟨v112, rfl, ho0, hb⟩; refine ⟨_, rfl, ?_⟩; have n0_ := Aside0.mk (Kd.R_lower ho0 (below_size (by repeat (first | (with_reducible first | exact HB.out | apply below_alloc | apply pw_below_drewN | apply below_drew1) | exact HB.out)))); have n1_ := Aside0.mk (below_step (by repeat (first | (with_reducible first | exact HB.out | apply below_alloc | apply pw_below_drewN | apply below_drew1) | exact HB.out)) hb); clear HB; have HO113 := n0_; have HB := n1_; clear n0_ n1_; (try clear hb); (try clear hb2); (try clear hk); (try clear hi); (try clear ho0)))
    go_ret3
    exact ⟨_, by first | rfl | (simp [errW_none, errW_some] <;> rfl) | (simp [*, errW_none, errW_some] <;> rfl), by first | exact Kd.R_nil _ _ _ _ _ | exact Kd.N_nil _ _ _ _ _ | exact Kd.V_nil _ _ _ _ _ | exact Kd.Q_nil _ _ _ _ _ | exact Kd.S_nil _ _ _ _ _, by repeat (first | (with_reducible first | exact HB.out | apply below_alloc | apply pw_below_drewN | apply below_drew1) | exact HB.out)⟩

end Go.Proofs.Ytkkflgdobgbmmaa.Q
end
