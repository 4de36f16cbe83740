/- RecordLasts: for every input the statement's function returns true; there is no further condition. Text 5 of 6: this session's texts, laid together by its own program (merge.py). Not trusted: Lean checks them. -/
import Derived.Test.YtjpkjakdhbnehaaMRecordLasts0
import Derived.Test.YtjpkjakdhbnehaaMRecordLasts3
import Derived.Test.YtjpkjakdhbnehaaMRecordLasts2
section
-- Written by this session's own program (ext_print.py) over the kit's print.py, hand proofs among it. Not trusted: Lean checks it.
namespace Go.Proofs.Ytjpkjakdhbnehaa.Q
open Go.RowKit Go.Proofs.YtjpkjakdhbnehaaW.PrintWords Go.Proofs.YtjpkjakdhbnehaaW.PrintLast Go.Proofs.YtjpkjakdhbnehaaW.PrintMore
attribute [local go_sem] max2_int min2_int max_two min_two max_three min_three max_four min_four   -- for this text's walks alone
set_option linter.unusedVariables false
set_option linter.unusedSimpArgs false

/-! ### reliquarylaw12_RecordLasts: function 7 -/
mutual
def reliquarylaw12_RecordLasts.j0 : Nat → List (S25) → List Bool → Bool → Option (Bool)
  | 0, _, _, _ => none
  | k + 1, x0, x1, x27 => if x27 = true then (some true) else ((reliquarylaw12_images.f k x0 false).bind fun t389 => (reliquarylaw12_RecordLasts.l0 k x1 t389 ([] : List (S30)) 0 0))
def reliquarylaw12_RecordLasts.l0 : Nat → List Bool → List (S25) → List (S30) → Int → Int → Option (Bool)
  | 0, _, _, _, _, _ => none
  | k + 1, x1, x6, x7, x8, x9 => if x9 < (x6.length : Int) then (if 0 ≤ x9 then (if x9 < (x1.length : Int) then (if x7.length < 3518437208883 then ((some (x7 ++ [(⟨(⟨(rd_T25 x6 x9).f0, (rd_T25 x6 x9).f1⟩ : S25), rdOf false x1 x9⟩ : S30)] : List (S30))).bind fun y394 => (if rdOf false x1 x9 = true then (reliquarylaw12_RecordLasts.l0 k x1 x6 y394 (wrap64 (x8 + 1)) (wrap64 (x9 + 1))) else (reliquarylaw12_RecordLasts.l0 k x1 x6 y394 x8 (wrap64 (x9 + 1))))) else (none)) else (none)) else (none)) else ((record_Changes.f x7).bind fun bt398 => (if (x6.length : Int) > 0 then (if 0 ≤ (wrap64 ((x6.length : Int) - 1)) then (if (wrap64 ((x6.length : Int) - 1)) < (x1.length : Int) then (reliquarylaw12_RecordLasts.j2 k x1 x6 x8 bt398.1 bt398.2 (!(rdOf false x1 (wrap64 ((x6.length : Int) - 1))))) else (none)) else (none)) else (reliquarylaw12_RecordLasts.j2 k x1 x6 x8 bt398.1 bt398.2 false)))
def reliquarylaw12_RecordLasts.j2 : Nat → List Bool → List (S25) → Int → List (List (S25)) → Int → Bool → Option (Bool)
  | 0, _, _, _, _, _, _ => none
  | k + 1, x1, x6, x8, x10, x11, x70 => if x70 = true then (if x11 = 11 then (some ((x10.length : Int) == 0)) else (some false)) else (if x11 = 0 then (reliquarylaw12_RecordLasts.j3 k x1 x6 x10 ((x10.length : Int) != x8)) else (reliquarylaw12_RecordLasts.j3 k x1 x6 x10 true))
def reliquarylaw12_RecordLasts.j3 : Nat → List Bool → List (S25) → List (List (S25)) → Bool → Option (Bool)
  | 0, _, _, _, _ => none
  | k + 1, x1, x6, x10, x85 => if x85 = true then (some false) else (reliquarylaw12_RecordLasts.l1 k x1 x6 x10 0 0)
def reliquarylaw12_RecordLasts.l1 : Nat → List Bool → List (S25) → List (List (S25)) → Int → Int → Option (Bool)
  | 0, _, _, _, _, _ => none
  | k + 1, x1, x6, x10, x12, x13 => if x13 < (x10.length : Int) then (reliquarylaw12_RecordLasts.l2 k x1 x6 x10 x12 x13 0) else (some (x12 == (x6.length : Int)))
def reliquarylaw12_RecordLasts.l2 : Nat → List Bool → List (S25) → List (List (S25)) → Int → Int → Int → Option (Bool)
  | 0, _, _, _, _, _, _ => none
  | k + 1, x1, x6, x10, x12, x13, x14 => if 0 ≤ x13 then (if x13 < (x10.length : Int) then (if x14 < ((rd_L12 x10 x13).length : Int) then (if x12 ≥ (x6.length : Int) then (some false) else (if 0 ≤ x14 then (if 0 ≤ x12 then (if x12 < (x6.length : Int) then (if ((rd_T25 (rd_L12 x10 x13) x14).f0) = ((rd_T25 x6 x12).f0) then (if (strOfNums ((rd_T25 (rd_L12 x10 x13) x14).f1)).toList = (strOfNums ((rd_T25 x6 x12).f1)).toList then (if x12 < (x1.length : Int) then (if ((rdOf false x1 x12) != (x14 == (wrap64 (((rd_L12 x10 x13).length : Int) - 1)))) = true then (some false) else (reliquarylaw12_RecordLasts.l2 k x1 x6 x10 (wrap64 (x12 + 1)) x13 (wrap64 (x14 + 1)))) else (none)) else (some false)) else (some false)) else (none)) else (none)) else (none))) else (reliquarylaw12_RecordLasts.l1 k x1 x6 x10 x12 (wrap64 (x13 + 1)))) else (none)) else (none)
end
def reliquarylaw12_RecordLasts.f (k : Nat) (l0 : List (S25)) (l1 : List Bool) : Option (Bool) := (reliquarylaw12_awake.f k).bind fun t388 => (if t388 = true then (if (l0.length : Int) > 20 then (reliquarylaw12_RecordLasts.j0 k l0 l1 true) else (reliquarylaw12_RecordLasts.j0 k l0 l1 (decide ((l1.length : Int) < (l0.length : Int))))) else (some false))
theorem reliquarylaw12_RecordLasts.mono_l : ∀ k, (∀ y0 y1 y2, LeO (reliquarylaw12_RecordLasts.j0 k y0 y1 y2) (reliquarylaw12_RecordLasts.j0 (k + 1) y0 y1 y2)) ∧ (∀ y0 y1 y2 y3 y4, LeO (reliquarylaw12_RecordLasts.l0 k y0 y1 y2 y3 y4) (reliquarylaw12_RecordLasts.l0 (k + 1) y0 y1 y2 y3 y4)) ∧ (∀ y0 y1 y2 y3 y4 y5, LeO (reliquarylaw12_RecordLasts.j2 k y0 y1 y2 y3 y4 y5) (reliquarylaw12_RecordLasts.j2 (k + 1) y0 y1 y2 y3 y4 y5)) ∧ (∀ y0 y1 y2 y3, LeO (reliquarylaw12_RecordLasts.j3 k y0 y1 y2 y3) (reliquarylaw12_RecordLasts.j3 (k + 1) y0 y1 y2 y3)) ∧ (∀ y0 y1 y2 y3 y4, LeO (reliquarylaw12_RecordLasts.l1 k y0 y1 y2 y3 y4) (reliquarylaw12_RecordLasts.l1 (k + 1) y0 y1 y2 y3 y4)) ∧ (∀ y0 y1 y2 y3 y4 y5, LeO (reliquarylaw12_RecordLasts.l2 k y0 y1 y2 y3 y4 y5) (reliquarylaw12_RecordLasts.l2 (k + 1) y0 y1 y2 y3 y4 y5))
  | 0 => ⟨fun _ _ _ r h => by simp [reliquarylaw12_RecordLasts.j0] at h, fun _ _ _ _ _ r h => by simp [reliquarylaw12_RecordLasts.l0] at h, fun _ _ _ _ _ _ r h => by simp [reliquarylaw12_RecordLasts.j2] at h, fun _ _ _ _ r h => by simp [reliquarylaw12_RecordLasts.j3] at h, fun _ _ _ _ _ r h => by simp [reliquarylaw12_RecordLasts.l1] at h, fun _ _ _ _ _ _ r h => by simp [reliquarylaw12_RecordLasts.l2] at h⟩
  | k + 1 => by
    obtain ⟨ih0, ih1, ih2, ih3, ih4, ih5⟩ := reliquarylaw12_RecordLasts.mono_l k
    refine ⟨?_, ?_, ?_, ?_, ?_, ?_⟩
    · intro y0 y1 y2
      unfold reliquarylaw12_RecordLasts.j0
      repeat' first
      | (with_reducible exact ih0 _ _ _)
      | (with_reducible exact ih1 _ _ _ _ _)
      | (with_reducible exact ih2 _ _ _ _ _ _)
      | (with_reducible exact ih3 _ _ _ _)
      | (with_reducible exact ih4 _ _ _ _ _)
      | (with_reducible exact ih5 _ _ _ _ _ _)
      | (with_reducible exact reliquarylaw12_awake.mono _)
      | (with_reducible exact reliquarylaw12_images.mono _ _ _)
      | (with_reducible exact LeO.refl _)
      | (with_reducible exact LeO.none _)
      | (with_reducible refine LeO.ite ?_ ?_)
      | (with_reducible refine LeO.bind ?_ (fun _ => ?_))
      | exact ih0 _ _ _
      | exact ih1 _ _ _ _ _
      | exact ih2 _ _ _ _ _ _
      | exact ih3 _ _ _ _
      | exact ih4 _ _ _ _ _
      | exact ih5 _ _ _ _ _ _
      | exact reliquarylaw12_awake.mono _
      | exact reliquarylaw12_images.mono _ _ _
      | exact LeO.none _
      | refine LeO.ite ?_ ?_
      | refine LeO.bind ?_ (fun _ => ?_)
    · intro y0 y1 y2 y3 y4
      unfold reliquarylaw12_RecordLasts.l0
      repeat' first
      | (with_reducible exact ih0 _ _ _)
      | (with_reducible exact ih1 _ _ _ _ _)
      | (with_reducible exact ih2 _ _ _ _ _ _)
      | (with_reducible exact ih3 _ _ _ _)
      | (with_reducible exact ih4 _ _ _ _ _)
      | (with_reducible exact ih5 _ _ _ _ _ _)
      | (with_reducible exact reliquarylaw12_awake.mono _)
      | (with_reducible exact reliquarylaw12_images.mono _ _ _)
      | (with_reducible exact LeO.refl _)
      | (with_reducible exact LeO.none _)
      | (with_reducible refine LeO.ite ?_ ?_)
      | (with_reducible refine LeO.bind ?_ (fun _ => ?_))
      | exact ih0 _ _ _
      | exact ih1 _ _ _ _ _
      | exact ih2 _ _ _ _ _ _
      | exact ih3 _ _ _ _
      | exact ih4 _ _ _ _ _
      | exact ih5 _ _ _ _ _ _
      | exact reliquarylaw12_awake.mono _
      | exact reliquarylaw12_images.mono _ _ _
      | exact LeO.none _
      | refine LeO.ite ?_ ?_
      | refine LeO.bind ?_ (fun _ => ?_)
    · intro y0 y1 y2 y3 y4 y5
      unfold reliquarylaw12_RecordLasts.j2
      repeat' first
      | (with_reducible exact ih0 _ _ _)
      | (with_reducible exact ih1 _ _ _ _ _)
      | (with_reducible exact ih2 _ _ _ _ _ _)
      | (with_reducible exact ih3 _ _ _ _)
      | (with_reducible exact ih4 _ _ _ _ _)
      | (with_reducible exact ih5 _ _ _ _ _ _)
      | (with_reducible exact reliquarylaw12_awake.mono _)
      | (with_reducible exact reliquarylaw12_images.mono _ _ _)
      | (with_reducible exact LeO.refl _)
      | (with_reducible exact LeO.none _)
      | (with_reducible refine LeO.ite ?_ ?_)
      | (with_reducible refine LeO.bind ?_ (fun _ => ?_))
      | exact ih0 _ _ _
      | exact ih1 _ _ _ _ _
      | exact ih2 _ _ _ _ _ _
      | exact ih3 _ _ _ _
      | exact ih4 _ _ _ _ _
      | exact ih5 _ _ _ _ _ _
      | exact reliquarylaw12_awake.mono _
      | exact reliquarylaw12_images.mono _ _ _
      | exact LeO.none _
      | refine LeO.ite ?_ ?_
      | refine LeO.bind ?_ (fun _ => ?_)
    · intro y0 y1 y2 y3
      unfold reliquarylaw12_RecordLasts.j3
      repeat' first
      | (with_reducible exact ih0 _ _ _)
      | (with_reducible exact ih1 _ _ _ _ _)
      | (with_reducible exact ih2 _ _ _ _ _ _)
      | (with_reducible exact ih3 _ _ _ _)
      | (with_reducible exact ih4 _ _ _ _ _)
      | (with_reducible exact ih5 _ _ _ _ _ _)
      | (with_reducible exact reliquarylaw12_awake.mono _)
      | (with_reducible exact reliquarylaw12_images.mono _ _ _)
      | (with_reducible exact LeO.refl _)
      | (with_reducible exact LeO.none _)
      | (with_reducible refine LeO.ite ?_ ?_)
      | (with_reducible refine LeO.bind ?_ (fun _ => ?_))
      | exact ih0 _ _ _
      | exact ih1 _ _ _ _ _
      | exact ih2 _ _ _ _ _ _
      | exact ih3 _ _ _ _
      | exact ih4 _ _ _ _ _
      | exact ih5 _ _ _ _ _ _
      | exact reliquarylaw12_awake.mono _
      | exact reliquarylaw12_images.mono _ _ _
      | exact LeO.none _
      | refine LeO.ite ?_ ?_
      | refine LeO.bind ?_ (fun _ => ?_)
    · intro y0 y1 y2 y3 y4
      unfold reliquarylaw12_RecordLasts.l1
      repeat' first
      | (with_reducible exact ih0 _ _ _)
      | (with_reducible exact ih1 _ _ _ _ _)
      | (with_reducible exact ih2 _ _ _ _ _ _)
      | (with_reducible exact ih3 _ _ _ _)
      | (with_reducible exact ih4 _ _ _ _ _)
      | (with_reducible exact ih5 _ _ _ _ _ _)
      | (with_reducible exact reliquarylaw12_awake.mono _)
      | (with_reducible exact reliquarylaw12_images.mono _ _ _)
      | (with_reducible exact LeO.refl _)
      | (with_reducible exact LeO.none _)
      | (with_reducible refine LeO.ite ?_ ?_)
      | (with_reducible refine LeO.bind ?_ (fun _ => ?_))
      | exact ih0 _ _ _
      | exact ih1 _ _ _ _ _
      | exact ih2 _ _ _ _ _ _
      | exact ih3 _ _ _ _
      | exact ih4 _ _ _ _ _
      | exact ih5 _ _ _ _ _ _
      | exact reliquarylaw12_awake.mono _
      | exact reliquarylaw12_images.mono _ _ _
      | exact LeO.none _
      | refine LeO.ite ?_ ?_
      | refine LeO.bind ?_ (fun _ => ?_)
    · intro y0 y1 y2 y3 y4 y5
      unfold reliquarylaw12_RecordLasts.l2
      repeat' first
      | (with_reducible exact ih0 _ _ _)
      | (with_reducible exact ih1 _ _ _ _ _)
      | (with_reducible exact ih2 _ _ _ _ _ _)
      | (with_reducible exact ih3 _ _ _ _)
      | (with_reducible exact ih4 _ _ _ _ _)
      | (with_reducible exact ih5 _ _ _ _ _ _)
      | (with_reducible exact reliquarylaw12_awake.mono _)
      | (with_reducible exact reliquarylaw12_images.mono _ _ _)
      | (with_reducible exact LeO.refl _)
      | (with_reducible exact LeO.none _)
      | (with_reducible refine LeO.ite ?_ ?_)
      | (with_reducible refine LeO.bind ?_ (fun _ => ?_))
      | exact ih0 _ _ _
      | exact ih1 _ _ _ _ _
      | exact ih2 _ _ _ _ _ _
      | exact ih3 _ _ _ _
      | exact ih4 _ _ _ _ _
      | exact ih5 _ _ _ _ _ _
      | exact reliquarylaw12_awake.mono _
      | exact reliquarylaw12_images.mono _ _ _
      | exact LeO.none _
      | refine LeO.ite ?_ ?_
      | refine LeO.bind ?_ (fun _ => ?_)
theorem reliquarylaw12_RecordLasts.mono : ∀ a0 a1 k, LeO (reliquarylaw12_RecordLasts.f k a0 a1) (reliquarylaw12_RecordLasts.f (k + 1) a0 a1) := by
  intro a0 a1 k
  obtain ⟨ih0, ih1, ih2, ih3, ih4, ih5⟩ := reliquarylaw12_RecordLasts.mono_l k
  unfold reliquarylaw12_RecordLasts.f
  repeat' first
      | (with_reducible exact ih0 _ _ _)
      | (with_reducible exact ih1 _ _ _ _ _)
      | (with_reducible exact ih2 _ _ _ _ _ _)
      | (with_reducible exact ih3 _ _ _ _)
      | (with_reducible exact ih4 _ _ _ _ _)
      | (with_reducible exact ih5 _ _ _ _ _ _)
      | (with_reducible exact reliquarylaw12_awake.mono _)
      | (with_reducible exact reliquarylaw12_images.mono _ _ _)
      | (with_reducible exact LeO.refl _)
      | (with_reducible exact LeO.none _)
      | (with_reducible refine LeO.ite ?_ ?_)
      | (with_reducible refine LeO.bind ?_ (fun _ => ?_))
      | exact ih0 _ _ _
      | exact ih1 _ _ _ _ _
      | exact ih2 _ _ _ _ _ _
      | exact ih3 _ _ _ _
      | exact ih4 _ _ _ _ _
      | exact ih5 _ _ _ _ _ _
      | exact reliquarylaw12_awake.mono _
      | exact reliquarylaw12_images.mono _ _ _
      | exact LeO.none _
      | refine LeO.ite ?_ ?_
      | refine LeO.bind ?_ (fun _ => ?_)
def reliquarylaw12_RecordLasts.T12 : Bool × List (List Nat × List Nat) := (true, [([], []), ([], []), ([], []), ([1, 2], [1, 2]), ([3], [3]), ([], []), ([], []), ([5, 6], [5, 6]), ([7], [7]), ([4, 8], [4, 8]), ([9], [9]), ([0, 10], [0, 10]), ([11, 11, 0, 1, 2, 3, 4, 5, 6, 7, 8, 9, 10, 11], [0, 11])])
def reliquarylaw12_RecordLasts.B12 : List Nat := [0, 0, 0, 6, 14, 0, 0, 96, 224, 510, 1022, 2047, 4095]
theorem reliquarylaw12_RecordLasts.tab12 : rtab .any (opsOf Try.f7 12) = reliquarylaw12_RecordLasts.T12 := by kernel_rfl
theorem reliquarylaw12_RecordLasts.bits12 : waitsOk reliquarylaw12_RecordLasts.T12.2 reliquarylaw12_RecordLasts.B12 = true := by kernel_rfl
def reliquarylaw12_RecordLasts.T27 : Bool × List (List Nat × List Nat) := (true, [([], []), ([], []), ([1], [1]), ([0, 2], [0, 2]), ([3], [3]), ([4], [4]), ([4], [4]), ([5, 6, 4], [4, 5, 6]), ([7, 4], [4, 7]), ([4], [4]), ([8, 9, 4], [4, 8, 9]), ([10, 4], [4, 10]), ([11, 4], [4, 11]), ([4], [4]), ([4], [4]), ([13, 14, 4], [4, 13, 14]), ([15, 4], [4, 15]), ([16, 4], [4, 16]), ([12, 17, 4], [4, 12, 17]), ([4, 18], [4, 18]), ([19, 4], [19]), ([20], [20]), ([20], [20]), ([21, 22, 20], [20, 21, 22]), ([23, 20], [20, 23]), ([20], [20]), ([24, 25, 20], [20, 24, 25]), ([26, 20], [20, 26]), ([27, 20], [20, 27]), ([28, 20], [20, 28]), ([20], [20]), ([20], [20]), ([30, 31, 20], [20, 30, 31]), ([32, 20], [20, 32]), ([33, 20], [20, 33]), ([34, 20], [20, 34]), ([29, 35, 20], [20, 29, 35]), ([20, 36], [20, 36]), ([37, 20], [37]), ([38], [38]), ([38], [38]), ([39, 40, 38], [38, 39, 40]), ([41, 38], [38, 41]), ([38], [38]), ([38], [38]), ([38], [38]), ([44, 45, 38], [38, 44, 45]), ([46, 38], [38, 46]), ([47, 38], [38, 47]), ([48, 38], [38, 48]), ([43, 49, 38], [38, 43, 49]), ([42, 50, 38], [38, 42, 50]), ([38, 51], [38, 51])])
def reliquarylaw12_RecordLasts.B27 : List Nat := [0, 0, 2, 7, 15, 31, 31, 127, 255, 31, 1023, 2047, 4095, 31, 31, 24607, 57375, 122911, 262143, 524287, 1048575, 2097151, 2097151, 8388607, 16777215, 2097151, 67108863, 134217727, 268435455, 536870911, 2097151, 2097151, 3223322623, 7518289919, 16108224511, 33288093695, 68719476735, 137438953471, 274877906943, 549755813887, 549755813887, 2199023255551, 4398046511103, 549755813887, 549755813887, 549755813887, 53326313947135, 123695058124799, 264432546480127, 545907523190783, 1117653569634303, 2251799813685247, 4503599627370495]
theorem reliquarylaw12_RecordLasts.tab27 : rtab .any (opsOf Try.f7 27) = reliquarylaw12_RecordLasts.T27 := by kernel_rfl
theorem reliquarylaw12_RecordLasts.bits27 : waitsOk reliquarylaw12_RecordLasts.T27.2 reliquarylaw12_RecordLasts.B27 = true := by kernel_rfl
def bsl_asts : Nat → Nat → List Bool
  | 0, _ => []
  | n + 1, s => (s % 2 == 1) :: bsl_asts n (s / 2)
abbrev bs_asts (n s : Nat) : Array Bool := (bsl_asts n s).toArray
set_option maxHeartbeats 8000000 in
set_option maxRecDepth 100000 in
theorem reliquarylaw12_RecordLasts.calls (k : Nat) (A0 : Option Addr) (c0 : Nat) (l0 : List (S25)) (A1 : Option Addr) (c1 : Nat) (l1 : List Bool) (r : Bool) (w : World) (hr0 : Kd.C k25 w A0 l0.length l0) (hc0 : l0.length ≤ c0) (hr1 : Kd.C Kd.bool w A1 l1.length l1) (hc1 : l1.length ≤ c1) (h : reliquarylaw12_RecordLasts.f k l0 l1 = some r) :
    Calls Try.prog 7 #[.slice A0 l0.length c0, .slice A1 l1.length c1] w fun e w' => e = .returned (.bool r) ∧ Below w.heap.size w w' := by
 have hu25 := Try.underlying25
 have hu30 := Try.underlying30
 have HR0 := Aside0.mk hr0
 have HC0 := Aside0.mk hc0
 clear hr0 hc0
 have HR1 := Aside0.mk hr1
 have HC1 := Aside0.mk hc1
 clear hr1 hc1
 have HB := Aside0.mk (Below.refl w.heap.size w)
 have H : ((reliquarylaw12_awake.f k).bind fun t388 => (if t388 = true then (if (l0.length : Int) > 20 then (reliquarylaw12_RecordLasts.j0 k l0 l1 true) else (reliquarylaw12_RecordLasts.j0 k l0 l1 (decide ((l1.length : Int) < (l0.length : Int))))) else (some false))) = some r := h
 clear h
 replace H := Option.bind_eq_some_iff.mp H
 obtain ⟨t388, A30, H⟩ := H
 replace H : (if t388 = true then (if (l0.length : Int) > 20 then (reliquarylaw12_RecordLasts.j0 k l0 l1 true) else (reliquarylaw12_RecordLasts.j0 k l0 l1 (decide ((l1.length : Int) < (l0.length : Int))))) else (some false)) = some r := H
 have A3 := Aside0.mk A30
 clear A30
 by_cases c4 : t388 = true
 rotate_left
 ·
  replace c4 := Bool.eq_false_iff.mpr c4
  subst c4
  have H1 : (some false) = some r := by rw [if_neg (show ¬ (false = true) by decide)] at H; exact H
  clear H
  have H := H1
  clear H1
  obtain rfl := Option.some.inj H
  go_enter Try.func7, Try.ntmps7
  go_wp2_with (first | ((with_reducible refine gate_callee (f := 8) rfl ?_); refine goesL_ (some 15) rfl rfl Try.func8 (by kernel_rfl) rfl #[] rfl (by (try simp only [List.map_toArray, List.map_cons, List.map_nil]); first | done | rfl | (simp only [List.length_drop, List.length_take]; rfl)) ?_; (with_reducible refine (reliquarylaw12_awake.calls k  false _ A3.out).mono ?_); rintro e w67 ⟨rfl, hb⟩; refine ⟨_, rfl, ?_⟩; have n0_ := Aside0.mk (below_step (by repeat (first | (with_reducible first | exact HB.out | apply below_alloc | apply pw_below_drewN | apply below_drew1) | exact HB.out)) hb); clear HB; have HB := n0_; clear n0_; (try clear hb); (try clear hb2); (try clear hk); (try clear hi)))
  go_ret
  exact ⟨by first | rfl | (simp [errW_none, errW_some] <;> rfl) | (simp [*, errW_none, errW_some] <;> rfl), by repeat (first | (with_reducible first | exact HB.out | apply below_alloc | apply pw_below_drewN | apply below_drew1) | exact HB.out)⟩
 subst c4
 have H1 : (if (l0.length : Int) > 20 then (reliquarylaw12_RecordLasts.j0 k l0 l1 true) else (reliquarylaw12_RecordLasts.j0 k l0 l1 (decide ((l1.length : Int) < (l0.length : Int))))) = some r := by rw [if_pos rfl] at H; exact H
 clear H
 have H := H1
 clear H1
 have HC5 := Aside0.mk H
 clear H
 go_enter Try.func7, Try.ntmps7
 go_upto_region 4 with (first | ((with_reducible refine gate_callee (f := 8) rfl ?_); refine goesL_ (some 15) rfl rfl Try.func8 (by kernel_rfl) rfl #[] rfl (by (try simp only [List.map_toArray, List.map_cons, List.map_nil]); first | done | rfl | (simp only [List.length_drop, List.length_take]; rfl)) ?_; (with_reducible refine (reliquarylaw12_awake.calls k  true _ A3.out).mono ?_); rintro e w6 ⟨rfl, hb⟩; refine ⟨_, rfl, ?_⟩; have n0_ := Aside0.mk (below_step (by repeat (first | (with_reducible first | exact HB.out | apply below_alloc | apply pw_below_drewN | apply below_drew1) | exact HB.out)) hb); clear HB; have HB := n0_; clear n0_; (try clear hb); (try clear hb2); (try clear hk); (try clear hi)))
 (try simp only [Act.put, List.setIfInBounds_toArray, List.set_cons_zero, List.set_cons_succ])
 go_cut [27] (fun v27 wc => ∃ (kq : Nat) (x27_4 : Bool), v27 = .bool x27_4 ∧ Aside0 (reliquarylaw12_RecordLasts.j0 kq l0 l1 x27_4 = some r) ∧ Aside0 (kq ≤ k) ∧ Aside0 (Below w.heap.size w wc))
 case first =>
  have H := HC5.out
  clear HC5
  by_cases c7 : (l0.length : Int) > 20
  ·
   rw [if_pos c7] at H
   have c7b0 : decide (20 < (l0.length : Int)) = true := decide_eq_true c7
   have c7b1 : decide (20 < l0.length) = true := decide_eq_true (by omega)
   clear c7
   (first | rw [c7b0] | (simp only [i64_w, i32_w]; rw [c7b0]) | skip)
   have H' := Aside0.mk H
   clear H
   go_wp2
   go_meet
   case rel => exact ⟨_, (true), (by first | rfl | (simp; done) | (simp [*]; done)), H', ⟨by first | omega | exact Nat.le_refl _⟩, ⟨by repeat (first | (with_reducible first | exact HB.out | apply below_alloc | apply pw_below_drewN | apply below_drew1) | exact HB.out)⟩⟩
  rw [if_neg c7] at H
  have c7b0 : decide (20 < (l0.length : Int)) = false := decide_eq_false c7
  have c7b1 : decide (20 < l0.length) = false := decide_eq_false (by omega)
  clear c7
  (first | rw [c7b0] | (simp only [i64_w, i32_w]; rw [c7b0]) | skip)
  have H' := Aside0.mk H
  clear H
  go_wp2
  go_meet
  case rel => exact ⟨_, (decide ((l1.length : Int) < (l0.length : Int))), (by first | rfl | (simp; done) | (simp [*]; done)), H', ⟨by first | omega | exact Nat.le_refl _⟩, ⟨by repeat (first | (with_reducible first | exact HB.out | apply below_alloc | apply pw_below_drewN | apply below_drew1) | exact HB.out)⟩⟩
 clear HC5
 try clear c1
 try clear p2
 try clear c4
 try clear c7
 try clear c7b0
 try clear c7b1
 obtain ⟨kq, x27_4, rfl, HA, HJ4, HB⟩ := hcut
 cases kq with
 | zero => exact absurd HA.out (by simp [reliquarylaw12_RecordLasts.j0])
 | succ kj4 =>
  have H := HA.out
  clear HA
  simp only [reliquarylaw12_RecordLasts.j0] at H
  by_cases c8 : x27_4 = true
  ·
   subst c8
   have H1 : (some true) = some r := by rw [if_pos rfl] at H; exact H
   clear H
   have H := H1
   clear H1
   obtain rfl := Option.some.inj H
   go_wp2
   go_ret
   exact ⟨by first | rfl | (simp [errW_none, errW_some] <;> rfl) | (simp [*, errW_none, errW_some] <;> rfl), by repeat (first | (with_reducible first | exact HB.out | apply below_alloc | apply pw_below_drewN | apply below_drew1) | exact HB.out)⟩
  replace c8 := Bool.eq_false_iff.mpr c8
  subst c8
  have H1 : ((reliquarylaw12_images.f kj4 l0 false).bind fun t389 => (reliquarylaw12_RecordLasts.l0 kj4 l1 t389 ([] : List (S30)) 0 0)) = some r := by rw [if_neg (show ¬ (false = true) by decide)] at H; exact H
  clear H
  have H := H1
  clear H1
  replace H := Option.bind_eq_some_iff.mp H
  obtain ⟨t389, A90, H⟩ := H
  replace H : (reliquarylaw12_RecordLasts.l0 kj4 l1 t389 ([] : List (S30)) 0 0) = some r := H
  have A9 := Aside0.mk A90
  clear A90
  have H' := Aside0.mk H
  clear H
  go_wp2_with (first | ((with_reducible refine gate_callee (f := 9) rfl ?_); refine goesL_ (some 29) rfl rfl Try.func9 (by kernel_rfl) rfl #[.slice A0 l0.length c0, .bool false] rfl (by (try simp only [List.map_toArray, List.map_cons, List.map_nil]); first | done | rfl | (simp only [List.length_drop, List.length_take]; rfl)) ?_; (with_reducible refine (reliquarylaw12_images.calls kj4 _ _ l0 false t389 _ ?side1 ?side2 A9.out).mono ?_); (case side1 => repeat (first | exact (Kd.C_below HR0.out HB.out) | (with_reducible refine Kd.C_alloc ?_ _) | (with_reducible refine Kd.C_drewN ?_ _) | (with_reducible refine Kd.C_drew ?_))); (case side2 => exact HC0.out); rintro e w10 ⟨v390, rfl, ho0, hb⟩; refine ⟨_, rfl, ?_⟩; have n0_ := Aside0.mk (Kd.N_lower (Kd.N_mono (ok' := fun k_ => True) (Kd.S_N (Kd.S_bound ho0)) (fun k_ hk_ => trivial)) (below_size (by repeat (first | (with_reducible first | exact HB.out | apply below_alloc | apply pw_below_drewN | apply below_drew1) | exact HB.out)))); have n1_ := Aside0.mk (below_step (by repeat (first | (with_reducible first | exact HB.out | apply below_alloc | apply pw_below_drewN | apply below_drew1) | exact HB.out)) hb); clear HB; have HO391 := n0_; have HB := n1_; clear n0_ n1_; (try clear hb); (try clear hb2); (try clear hk); (try clear hi); (try clear ho0)))
  go_loopg [7, 8, 9] kj4 (fun kq v7 v8 v9 w' => ∃ (x7_2 : List (S30)) (x8_2 : Int) (x9_2 : Int), v8 = .int .i64 x8_2 ∧ v9 = .int .i64 x9_2 ∧ Aside0 (reliquarylaw12_RecordLasts.l0 kq l1 t389 x7_2 x8_2 x9_2 = some r) ∧ Aside0 (kq ≤ kj4) ∧ Aside0 (Kd.N k25 25 w' w.heap.size (fun k_ => some k_ ≠ (v7 : Value).ownBlock) v390 t389) ∧ Aside0 (Kd.N k30 30 w' w.heap.size (fun k_ => some k_ ≠ (v390 : Value).ownBlock) v7 x7_2) ∧ Aside0 (Below w.heap.size w w'))
  case atStart => exact ⟨(([] : List (S30))), (0), (0), (by first | rfl | (simp; done) | (simp [*]; done)), (by first | rfl | (simp; done) | (simp [*]; done)), H', ⟨Nat.le_refl _⟩, ⟨by (with_reducible repeat (first | apply Kd.N_alloc | apply Kd.N_drewN | apply Kd.N_drew)); exact Kd.N_mono HO391.out (fun _ hk => (by simp [Value.ownBlock]))⟩, ⟨by first | exact Kd.S_nil _ _ _ _ _ | exact Kd.N_nil _ _ _ _ _ | exact Kd.V_nil _ _ _ _ _ | exact Kd.Q_nil _ _ _ _ _ | exact Kd.R_nil _ _ _ _ _⟩, ⟨by repeat (first | (with_reducible first | exact HB.out | apply below_alloc | apply pw_below_drewN | apply below_drew1) | exact HB.out)⟩⟩
  clear H'
  try clear c1
  try clear p2
  try clear c4
  try clear c7
  try clear c7b0
  try clear c7b1
  try clear c8
  try clear c9
  try clear p2
  obtain ⟨x7_2, x8_2, x9_2, rfl, rfl, HA, HK2, HO_6, HO_7, HB⟩ := hrel
  cases gk with
  | zero => exact absurd HA.out (by simp [reliquarylaw12_RecordLasts.l0])
  | succ k2 =>
   have H := HA.out
   clear HA
   simp only [reliquarylaw12_RecordLasts.l0] at H
   by_cases c11 : x9_2 < (t389.length : Int)
   ·
    rw [if_pos c11] at H
    have c11b0 : decide (x9_2 < (t389.length : Int)) = true := decide_eq_true c11
    clear c11
    by_cases c12 : 0 ≤ x9_2
    rotate_left
    ·
     rw [if_neg c12] at H
     exact absurd H (by simp)
    rw [if_pos c12] at H
    have c12b0 : decide (0 ≤ x9_2) = true := decide_eq_true c12
    clear c12
    by_cases c13 : x9_2 < (l1.length : Int)
    rotate_left
    ·
     rw [if_neg c13] at H
     exact absurd H (by simp)
    rw [if_pos c13] at H
    have c13b0 : decide (x9_2 < (l1.length : Int)) = true := decide_eq_true c13
    clear c13
    by_cases c14 : x7_2.length < 3518437208883
    rotate_left
    ·
     rw [if_neg c14] at H
     exact absurd H (by simp)
    rw [if_pos c14] at H
    have LMc14 := Aside0.mk c14
    clear c14
    obtain ⟨y394, hy394⟩ : ∃ y_ : List (S30), y_ = (x7_2 ++ [(⟨(⟨(rd_T25 t389 x9_2).f0, (rd_T25 t389 x9_2).f1⟩ : S25), rdOf false l1 x9_2⟩ : S30)]) := ⟨_, rfl⟩
    replace H : (if rdOf false l1 x9_2 = true then (reliquarylaw12_RecordLasts.l0 k2 l1 t389 y394 (wrap64 (x8_2 + 1)) (wrap64 (x9_2 + 1))) else (reliquarylaw12_RecordLasts.l0 k2 l1 t389 y394 x8_2 (wrap64 (x9_2 + 1)))) = some r := by first | (rw [hy394]; with_reducible exact H) | (have H2_ := (Option.bind_some _ _).symm.trans H; rw [hy394]; with_reducible exact H2_) | (have H2_ := (Option.bind_some _ _).symm.trans H; with_reducible exact H2_) | with_reducible exact H | (rw [hy394]; exact H) | exact H
    have Ny394 := Aside0.mk hy394
    clear hy394
    obtain ⟨bq15, hbq15⟩ : ∃ b_ : Bool, b_ = (rdOf false l1 x9_2) := ⟨_, rfl⟩
    replace H : (if bq15 = true then (reliquarylaw12_RecordLasts.l0 k2 l1 t389 y394 (wrap64 (x8_2 + 1)) (wrap64 (x9_2 + 1))) else (reliquarylaw12_RecordLasts.l0 k2 l1 t389 y394 x8_2 (wrap64 (x9_2 + 1)))) = some r := by rw [← hbq15] at H; exact H
    have Nbq15 := Aside0.mk hbq15
    clear hbq15
    by_cases c16 : bq15 = true
    ·
     subst c16
     have H1 : (reliquarylaw12_RecordLasts.l0 k2 l1 t389 y394 (wrap64 (x8_2 + 1)) (wrap64 (x9_2 + 1))) = some r := by rw [if_pos rfl] at H; exact H
     clear H
     have H := H1
     clear H1
     have H' := Aside0.mk H
     clear H
     obtain ⟨Ao17, co17, eo17⟩ := Kd.N_slice HO_6.out
     subst eo17
     try go_wp2
     have n0_ := Aside0.mk (Kd.N_drew HO_6.out)
     have n1_ := Aside0.mk (Kd.N_drew HO_7.out)
     have n2_ := Aside0.mk (below_drew1 HB.out)
     clear HO_6
     clear HO_7
     clear HB
     have HO_6 := n0_
     have HO_7 := n1_
     have HB := n2_
     clear n0_ n1_ n2_
     have p392 : 0 ≤ (x9_2 : Int) := of_decide_eq_true (by first | (with_reducible assumption) | assumption)
     have q392 : x9_2 < (t389.length : Int) := of_decide_eq_true (by first | (with_reducible assumption) | assumption)
     obtain ⟨ad392, A392_1, c392_1, e392, hx392_0, hx392_1, hl392_1, hi392_1⟩ := at_T25 (Kd.N_reads' HO_6.out).2.2 x9_2 p392 q392
     cases e392
     obtain ⟨ce392, hce392, hMe392, hcc392⟩ := Kd.N_get HO_6.out z25 x9_2 p392 (by first | exact q392 | exact of_decide_eq_true (by first | (with_reducible assumption) | assumption) | (have e_ := (Kd.N_reads' HO_6.out).1; omega))
     obtain ⟨ua392_1, uc392_1, rfl, ul392_1, ge392_1⟩ := k25_openF hMe392
     have hv392_1 := hcc392 1 _ rfl
     rw [add_field _ _ 1 (by omega)] at hv392_1
     replace hv392_1 := Option.some.inj (hv392_1.symm.trans hx392_1)
     injection hv392_1 with hva_ hvn_ hvc_
     rw [hva_] at ge392_1
     rw [hvc_] at ul392_1
     have HL392_1 := Aside0.mk (show Kd.V (Kd.int .u8) 5 _ w.heap.size _ _ ((rd_T25 t389 x9_2).f1) from Kd.V_mk ul392_1 ge392_1)
     clear hva_ hvn_ hvc_ ge392_1 ul392_1
     clear hcc392 hce392
     have HR392_1 := Aside0.mk hi392_1
     have HC392_1 := Aside0.mk hl392_1
     clear hi392_1 hl392_1
     replace p392 := eq_true p392
     replace q392 := eq_true q392
     have p393 : 0 ≤ (x9_2 : Int) := of_decide_eq_true (by first | (with_reducible assumption) | assumption)
     have q393 : x9_2 < (l1.length : Int) := of_decide_eq_true (by first | (with_reducible assumption) | assumption)
     obtain ⟨ad393, e393, hx393_0⟩ := Kd.at_bool HR1.out x9_2 p393 q393
     (try rw [← Nbq15.out] at hx393_0)
     have hw393_0 := hx393_0
     cases e393
     replace hx393_0 := (HB.out.cell (World.block_lt_of_cell? w _ hx393_0)).trans hx393_0
     replace p393 := eq_true p393
     replace q393 := eq_true q393
     refine start_ (n := 13) (S := fun w' => w'.cell? (ad392.add ((x9_2).toNat * 2)) = some (.int .u64 ((rd_T25 t389 x9_2).f0)) ∧ w'.cell? ⟨(ad392.add ((x9_2).toNat * 2)).block, (ad392.add ((x9_2).toNat * 2)).off + 1, none⟩ = some (.slice A392_1 ((rd_T25 t389 x9_2).f1).length c392_1) ∧ w'.cell? (ad393.add (x9_2).toNat) = some (.bool true)) (ds := [10, 11]) (bs_asts 13 0) (by kernel_rfl) rfl rfl ⟨hx392_0, hx392_1, ((HB.out.cell (World.block_lt_of_cell? w _ hw393_0)).trans hw393_0)⟩ (fun hHeld => ?_); refine with_tabW reliquarylaw12_RecordLasts.tab12 reliquarylaw12_RecordLasts.bits12 (fun HT_ HW_ => ?_)
     generalize wr.drew = w18 at HO_6 HO_7 HB HL392_1 HR392_1 hx392_0 hx392_1 hx393_0 hHeld ⊢
     refine pure_ (i := 0) (N := some 36) (v := ?_) (a' := ?_) (bs_asts 13 1) rfl rfl (any_of HT_.out (by kernel_rfl)) (fun _ _ _ h => h) (Or.inl ⟨by rfl, ?_⟩) ?_ ?_
     rotate_left
     ·
      intro w'
      go_simp
      with_reducible rfl
     rotate_left
     ·
      simp only [Act.put, List.setIfInBounds_toArray, List.set_cons_zero, List.set_cons_succ, i64_w, i32_w]
      rfl
     refine pure_ (i := 1) (N := some 37) (v := ?_) (a' := ?_) (bs_asts 13 3) rfl rfl (any_of HT_.out (by kernel_rfl)) (fun _ _ _ h => h) (Or.inl ⟨by rfl, ?_⟩) ?_ ?_
     rotate_left
     ·
      intro w'
      go_simp
      with_reducible rfl
     rotate_left
     ·
      simp only [Act.put, List.setIfInBounds_toArray, List.set_cons_zero, List.set_cons_succ, i64_w, i32_w]
      rfl
     refine pure_ (i := 2) (N := some 38) (v := ?_) (a' := ?_) (bs_asts 13 7) rfl rfl (any_of HT_.out (by kernel_rfl)) (fun _ _ _ h => h) (Or.inl ⟨by rfl, ?_⟩) ?_ ?_
     rotate_left
     ·
      intro w'
      go_simp
      with_reducible rfl
     rotate_left
     ·
      simp only [Act.put, List.setIfInBounds_toArray, List.set_cons_zero, List.set_cons_succ, i64_w, i32_w]
      rfl
     refine pure_ (i := 3) (N := some 39) (v := ?_) (a' := ?_) (bs_asts 13 15) rfl rfl (any_of HT_.out (by kernel_rfl)) (fun _ _ _ h => h) (Or.inl ⟨by rfl, ?_⟩) ?_ ?_
     rotate_left
     ·
      intro w'
      go_simp
      with_reducible rfl
     rotate_left
     ·
      simp only [Act.put, List.setIfInBounds_toArray, List.set_cons_zero, List.set_cons_succ, i64_w, i32_w]
      rfl
     refine pure_ (i := 5) (N := some 41) (v := ?_) (a' := ?_) (bs_asts 13 47) rfl rfl (any_of HT_.out (by kernel_rfl)) (fun _ _ _ h => h) (Or.inl ⟨by rfl, ?_⟩) ?_ ?_
     rotate_left
     ·
      intro w'
      go_simp
      with_reducible rfl
     rotate_left
     ·
      simp only [Act.put, List.setIfInBounds_toArray, List.set_cons_zero, List.set_cons_succ, i64_w, i32_w]
      rfl
     refine pure_ (i := 6) (N := some 42) (v := ?_) (a' := ?_) (bs_asts 13 111) rfl rfl (any_of HT_.out (by kernel_rfl)) (fun _ _ _ h => h) (Or.inl ⟨by rfl, ?_⟩) ?_ ?_
     rotate_left
     ·
      intro w'
      go_simp
      with_reducible rfl
     rotate_left
     ·
      simp only [Act.put, List.setIfInBounds_toArray, List.set_cons_zero, List.set_cons_succ, i64_w, i32_w]
      rfl
     refine pure_ (i := 7) (N := some 43) (v := ?_) (a' := ?_) (bs_asts 13 239) rfl rfl (any_of HT_.out (by kernel_rfl)) (fun _ _ _ h => h) (Or.inl ⟨by rfl, ?_⟩) ?_ ?_
     rotate_left
     ·
      intro w'
      go_simp
      with_reducible rfl
     rotate_left
     ·
      simp only [Act.put, List.setIfInBounds_toArray, List.set_cons_zero, List.set_cons_succ, i64_w, i32_w]
      rfl
     refine take_ (i := 4) (N := some 40) (v := ?_) (a' := ?_) (bs_asts 13 255) rfl rfl (take_ofW HT_.out HW_.out (by kernel_rfl)) (fun _ _ _ h => h) (Or.inl ⟨by rfl, ?_⟩) hHeld ?_ ?_
     rotate_left
     ·
      rintro w' ⟨s0, s1, s2⟩
      go_simp
      with_reducible rfl
     rotate_left
     ·
      simp only [Act.put, List.setIfInBounds_toArray, List.set_cons_zero, List.set_cons_succ, i64_w, i32_w]
      rfl
     refine take_ (i := 8) (N := some 44) (v := ?_) (a' := ?_) (bs_asts 13 511) rfl rfl (take_ofW HT_.out HW_.out (by kernel_rfl)) (fun _ _ _ h => h) (Or.inl ⟨by rfl, ?_⟩) hHeld ?_ ?_
     rotate_left
     ·
      rintro w' ⟨s0, s1, s2⟩
      go_simp
      with_reducible rfl
     rotate_left
     ·
      simp only [Act.put, List.setIfInBounds_toArray, List.set_cons_zero, List.set_cons_succ, i64_w, i32_w]
      rfl
     refine pure_ (i := 9) (N := some 45) (v := ?_) (a' := ?_) (bs_asts 13 1023) rfl rfl (any_of HT_.out (by kernel_rfl)) (fun _ _ _ h => h) (Or.inl ⟨by rfl, ?_⟩) ?_ ?_
     rotate_left
     ·
      intro w'
      go_simp
      with_reducible rfl
     rotate_left
     ·
      simp only [Act.put, List.setIfInBounds_toArray, List.set_cons_zero, List.set_cons_succ, i64_w, i32_w]
      rfl
     refine last_ (i := 10) (N := some 46) (bs_asts 13 2047) rfl rfl (one_of HT_.out (by kernel_rfl)) (by decide) (fun K hK => ?_)
     refine value_ (w1 := ?_) (v := ?_) (by rfl) rfl ?_ ?_
     rotate_left 2
     ·
      go_simp
      constructor
      ·
       rfl
      rfl
     refine hK.out _ _ ?_
     clear hK K
     refine norm_ (a' := ?_) ?_ ?_
     rotate_left
     ·
      show Act.put _ (some 46) _ = _
      simp only [Act.put, List.setIfInBounds_toArray, List.set_cons_zero, List.set_cons_succ, i64_w, i32_w]
      rfl
     refine last_ (i := 11) (N := some 47) (bs_asts 13 4095) rfl rfl (one_of HT_.out (by kernel_rfl)) (by decide) (fun K hK => ?_)
     refine Kd.N_append_step k30 (w0 := w) w.heap.size (by rfl) (.tmp 36) (.tmp 46) 48 30 (.agg #[(.int .u64 0), (.slice none 0 0), (.bool false)]) 40 rfl Try.underlying48 info30 rfl (by decide) (by omega) u7 x7_2 (⟨(⟨(rd_T25 t389 x9_2).f0, (rd_T25 t389 x9_2).f1⟩ : S25), true⟩ : S30) [.int .u64 ((rd_T25 t389 x9_2).f0), .slice A392_1 ((rd_T25 t389 x9_2).f1).length c392_1, .bool true] (fun k_ => some k_ ≠ (.slice (some ad392) t389.length co17 : Value).ownBlock) (fun k_ => ((fun k_ => some k_ ≠ (.slice (some ad392) t389.length co17 : Value).ownBlock)) k_ ∧ some k_ ≠ (u7 : Value).ownBlock) rfl rfl ?aP (fun _ hk => hk) ?aF ?aO ?aB ?aS ?aL ?_
     (case aP => exact (k30_mkF _ _ (⟨(⟨(rd_T25 t389 x9_2).f0, (rd_T25 t389 x9_2).f1⟩ : S25), true⟩ : S30) (Kd.V_reads' (Kd.V_mono (ok' := (fun k_ => ((fun k_ => some k_ ≠ (.slice (some ad392) t389.length co17 : Value).ownBlock)) k_ ∧ some k_ ≠ (u7 : Value).ownBlock)) (HL392_1.out) (fun k_ hk => ⟨hk.2, hk.1⟩))).2.1 (Kd.V_F (Kd.V_mono (ok' := (fun k_ => ((fun k_ => some k_ ≠ (.slice (some ad392) t389.length co17 : Value).ownBlock)) k_ ∧ some k_ ≠ (u7 : Value).ownBlock)) (HL392_1.out) (fun k_ hk => ⟨hk.2, hk.1⟩)))))
     (case aB => exact (by repeat (first | (with_reducible first | exact HB.out | apply below_alloc | apply pw_below_drewN | apply below_drew1) | exact HB.out)))
     (case aF => exact (fun k_ hk => Kd.fresh' (Kd.N_lt (by (with_reducible repeat (first | apply Kd.N_alloc | apply Kd.N_drewN | apply Kd.N_drew)); exact HO_6.out)) k_ hk))
     (case aO => exact (by (with_reducible repeat (first | apply Kd.N_alloc | apply Kd.N_drewN | apply Kd.N_drew)); exact HO_7.out))
     (case aS => exact (below_size (by repeat (first | (with_reducible first | exact HB.out | apply below_alloc | apply pw_below_drewN | apply below_drew1) | exact HB.out))))
     (case aL => have := LMc14.out; omega)
     intro v395 w19 ho hb hg hat
     first | rw [← Ny394.out] at ho | (have hy_ := Ny394.out; rw [← Nbq15.out] at hy_; rw [← hy_] at ho)
     have n0_ := Aside0.mk (Kd.N_afterv (ok := (fun _ => True)) (by (with_reducible repeat (first | apply Kd.N_alloc | apply Kd.N_drewN | apply Kd.N_drew)); exact Kd.N_mono HO_6.out (fun _ hk => ⟨trivial, hk⟩)) hg hat)
     have n1_ := Aside0.mk (Kd.V_afterv (ok := (fun k_ => some k_ ≠ (.slice (some ad392) t389.length co17 : Value).ownBlock)) (by (with_reducible repeat (first | apply Kd.V_alloc | apply Kd.V_drewN | apply Kd.V_drew)); exact Kd.V_mono HL392_1.out (fun _ hk => ⟨hk.2, hk.1⟩)) hg hat)
     have n2_ := Aside0.mk (hb)
     have n3_ := Aside0.mk (ho)
     clear HO_6
     clear HL392_1
     clear HB
     clear HO_7
     have HO_6 := n0_
     have HL392_1 := n1_
     have HB := n2_
     have HO396 := n3_
     clear n0_ n1_ n2_ n3_
     clear ho hb hg hat
     refine hK.out _ _ ?_
     clear hK K
     refine norm_ (a' := ?_) ?_ ?_
     rotate_left
     ·
      show Act.put _ (some 47) _ = _
      simp only [Act.put, List.setIfInBounds_toArray, List.set_cons_zero, List.set_cons_succ, i64_w, i32_w]
      rfl
     refine pure_ (i := 12) (N := some 7) (v := ?_) (a' := ?_) (bs_asts 13 8191) rfl rfl (any_of HT_.out (by kernel_rfl)) (fun _ _ _ h => h) (Or.inl ⟨by rfl, ?_⟩) ?_ ?_
     rotate_left
     ·
      intro w'
      go_simp
      with_reducible rfl
     rotate_left
     ·
      simp only [Act.put, List.setIfInBounds_toArray, List.set_cons_zero, List.set_cons_succ, i64_w, i32_w]
      rfl
     refine done_ (done_of HT_.out (by kernel_rfl)) ?_
     have p397 : 0 ≤ (x9_2 : Int) := of_decide_eq_true (by first | (with_reducible assumption) | assumption)
     have q397 : x9_2 < (l1.length : Int) := of_decide_eq_true (by first | (with_reducible assumption) | assumption)
     obtain ⟨ad397, e397, hx397_0⟩ := Kd.at_bool HR1.out x9_2 p397 q397
     (try rw [← Nbq15.out] at hx397_0)
     obtain rfl : ad393 = ad397 := (by injection e397)
     replace hx397_0 := (HB.out.cell (World.block_lt_of_cell? w _ hx397_0)).trans hx397_0
     replace p397 := eq_true p397
     replace q397 := eq_true q397
     try go_wp2
     go_roundg k2
     case measure => have := HJ4.out; have := HK2.out; omega
     case rel => exact ⟨(y394), (wrap64 (x8_2 + 1)), (wrap64 (x9_2 + 1)), (by first | rfl | (simp; done) | (simp [*]; done)), (by first | rfl | (simp; done) | (simp [*]; done)), H', ⟨by have := HJ4.out; have := HK2.out; omega⟩, ⟨by (with_reducible repeat (first | apply Kd.N_alloc | apply Kd.N_drewN | apply Kd.N_drew)); exact Kd.N_mono HO_6.out (fun _ hk => hk.2)⟩, ⟨by (with_reducible repeat (first | apply Kd.N_alloc | apply Kd.N_drewN | apply Kd.N_drew)); exact HO396.out⟩, ⟨by repeat (first | (with_reducible first | exact HB.out | apply below_alloc | apply pw_below_drewN | apply below_drew1) | exact HB.out)⟩⟩
    replace c16 := Bool.eq_false_iff.mpr c16
    subst c16
    have H1 : (reliquarylaw12_RecordLasts.l0 k2 l1 t389 y394 x8_2 (wrap64 (x9_2 + 1))) = some r := by rw [if_neg (show ¬ (false = true) by decide)] at H; exact H
    clear H
    have H := H1
    clear H1
    have H' := Aside0.mk H
    clear H
    obtain ⟨Ao20, co20, eo20⟩ := Kd.N_slice HO_6.out
    subst eo20
    try go_wp2
    have n0_ := Aside0.mk (Kd.N_drew HO_6.out)
    have n1_ := Aside0.mk (Kd.N_drew HO_7.out)
    have n2_ := Aside0.mk (below_drew1 HB.out)
    clear HO_6
    clear HO_7
    clear HB
    have HO_6 := n0_
    have HO_7 := n1_
    have HB := n2_
    clear n0_ n1_ n2_
    have p392 : 0 ≤ (x9_2 : Int) := of_decide_eq_true (by first | (with_reducible assumption) | assumption)
    have q392 : x9_2 < (t389.length : Int) := of_decide_eq_true (by first | (with_reducible assumption) | assumption)
    obtain ⟨ad392, A392_1, c392_1, e392, hx392_0, hx392_1, hl392_1, hi392_1⟩ := at_T25 (Kd.N_reads' HO_6.out).2.2 x9_2 p392 q392
    cases e392
    obtain ⟨ce392, hce392, hMe392, hcc392⟩ := Kd.N_get HO_6.out z25 x9_2 p392 (by first | exact q392 | exact of_decide_eq_true (by first | (with_reducible assumption) | assumption) | (have e_ := (Kd.N_reads' HO_6.out).1; omega))
    obtain ⟨ua392_1, uc392_1, rfl, ul392_1, ge392_1⟩ := k25_openF hMe392
    have hv392_1 := hcc392 1 _ rfl
    rw [add_field _ _ 1 (by omega)] at hv392_1
    replace hv392_1 := Option.some.inj (hv392_1.symm.trans hx392_1)
    injection hv392_1 with hva_ hvn_ hvc_
    rw [hva_] at ge392_1
    rw [hvc_] at ul392_1
    have HL392_1 := Aside0.mk (show Kd.V (Kd.int .u8) 5 _ w.heap.size _ _ ((rd_T25 t389 x9_2).f1) from Kd.V_mk ul392_1 ge392_1)
    clear hva_ hvn_ hvc_ ge392_1 ul392_1
    clear hcc392 hce392
    have HR392_1 := Aside0.mk hi392_1
    have HC392_1 := Aside0.mk hl392_1
    clear hi392_1 hl392_1
    replace p392 := eq_true p392
    replace q392 := eq_true q392
    have p393 : 0 ≤ (x9_2 : Int) := of_decide_eq_true (by first | (with_reducible assumption) | assumption)
    have q393 : x9_2 < (l1.length : Int) := of_decide_eq_true (by first | (with_reducible assumption) | assumption)
    obtain ⟨ad393, e393, hx393_0⟩ := Kd.at_bool HR1.out x9_2 p393 q393
    (try rw [← Nbq15.out] at hx393_0)
    have hw393_0 := hx393_0
    cases e393
    replace hx393_0 := (HB.out.cell (World.block_lt_of_cell? w _ hx393_0)).trans hx393_0
    replace p393 := eq_true p393
    replace q393 := eq_true q393
    refine start_ (n := 13) (S := fun w' => w'.cell? (ad392.add ((x9_2).toNat * 2)) = some (.int .u64 ((rd_T25 t389 x9_2).f0)) ∧ w'.cell? ⟨(ad392.add ((x9_2).toNat * 2)).block, (ad392.add ((x9_2).toNat * 2)).off + 1, none⟩ = some (.slice A392_1 ((rd_T25 t389 x9_2).f1).length c392_1) ∧ w'.cell? (ad393.add (x9_2).toNat) = some (.bool false)) (ds := [10, 11]) (bs_asts 13 0) (by kernel_rfl) rfl rfl ⟨hx392_0, hx392_1, ((HB.out.cell (World.block_lt_of_cell? w _ hw393_0)).trans hw393_0)⟩ (fun hHeld => ?_); refine with_tabW reliquarylaw12_RecordLasts.tab12 reliquarylaw12_RecordLasts.bits12 (fun HT_ HW_ => ?_)
    generalize wr.drew = w21 at HO_6 HO_7 HB HL392_1 HR392_1 hx392_0 hx392_1 hx393_0 hHeld ⊢
    refine pure_ (i := 0) (N := some 36) (v := ?_) (a' := ?_) (bs_asts 13 1) rfl rfl (any_of HT_.out (by kernel_rfl)) (fun _ _ _ h => h) (Or.inl ⟨by rfl, ?_⟩) ?_ ?_
    rotate_left
    ·
     intro w'
     go_simp
     with_reducible rfl
    rotate_left
    ·
     simp only [Act.put, List.setIfInBounds_toArray, List.set_cons_zero, List.set_cons_succ, i64_w, i32_w]
     rfl
    refine pure_ (i := 1) (N := some 37) (v := ?_) (a' := ?_) (bs_asts 13 3) rfl rfl (any_of HT_.out (by kernel_rfl)) (fun _ _ _ h => h) (Or.inl ⟨by rfl, ?_⟩) ?_ ?_
    rotate_left
    ·
     intro w'
     go_simp
     with_reducible rfl
    rotate_left
    ·
     simp only [Act.put, List.setIfInBounds_toArray, List.set_cons_zero, List.set_cons_succ, i64_w, i32_w]
     rfl
    refine pure_ (i := 2) (N := some 38) (v := ?_) (a' := ?_) (bs_asts 13 7) rfl rfl (any_of HT_.out (by kernel_rfl)) (fun _ _ _ h => h) (Or.inl ⟨by rfl, ?_⟩) ?_ ?_
    rotate_left
    ·
     intro w'
     go_simp
     with_reducible rfl
    rotate_left
    ·
     simp only [Act.put, List.setIfInBounds_toArray, List.set_cons_zero, List.set_cons_succ, i64_w, i32_w]
     rfl
    refine pure_ (i := 3) (N := some 39) (v := ?_) (a' := ?_) (bs_asts 13 15) rfl rfl (any_of HT_.out (by kernel_rfl)) (fun _ _ _ h => h) (Or.inl ⟨by rfl, ?_⟩) ?_ ?_
    rotate_left
    ·
     intro w'
     go_simp
     with_reducible rfl
    rotate_left
    ·
     simp only [Act.put, List.setIfInBounds_toArray, List.set_cons_zero, List.set_cons_succ, i64_w, i32_w]
     rfl
    refine pure_ (i := 5) (N := some 41) (v := ?_) (a' := ?_) (bs_asts 13 47) rfl rfl (any_of HT_.out (by kernel_rfl)) (fun _ _ _ h => h) (Or.inl ⟨by rfl, ?_⟩) ?_ ?_
    rotate_left
    ·
     intro w'
     go_simp
     with_reducible rfl
    rotate_left
    ·
     simp only [Act.put, List.setIfInBounds_toArray, List.set_cons_zero, List.set_cons_succ, i64_w, i32_w]
     rfl
    refine pure_ (i := 6) (N := some 42) (v := ?_) (a' := ?_) (bs_asts 13 111) rfl rfl (any_of HT_.out (by kernel_rfl)) (fun _ _ _ h => h) (Or.inl ⟨by rfl, ?_⟩) ?_ ?_
    rotate_left
    ·
     intro w'
     go_simp
     with_reducible rfl
    rotate_left
    ·
     simp only [Act.put, List.setIfInBounds_toArray, List.set_cons_zero, List.set_cons_succ, i64_w, i32_w]
     rfl
    refine pure_ (i := 7) (N := some 43) (v := ?_) (a' := ?_) (bs_asts 13 239) rfl rfl (any_of HT_.out (by kernel_rfl)) (fun _ _ _ h => h) (Or.inl ⟨by rfl, ?_⟩) ?_ ?_
    rotate_left
    ·
     intro w'
     go_simp
     with_reducible rfl
    rotate_left
    ·
     simp only [Act.put, List.setIfInBounds_toArray, List.set_cons_zero, List.set_cons_succ, i64_w, i32_w]
     rfl
    refine take_ (i := 4) (N := some 40) (v := ?_) (a' := ?_) (bs_asts 13 255) rfl rfl (take_ofW HT_.out HW_.out (by kernel_rfl)) (fun _ _ _ h => h) (Or.inl ⟨by rfl, ?_⟩) hHeld ?_ ?_
    rotate_left
    ·
     rintro w' ⟨s0, s1, s2⟩
     go_simp
     with_reducible rfl
    rotate_left
    ·
     simp only [Act.put, List.setIfInBounds_toArray, List.set_cons_zero, List.set_cons_succ, i64_w, i32_w]
     rfl
    refine take_ (i := 8) (N := some 44) (v := ?_) (a' := ?_) (bs_asts 13 511) rfl rfl (take_ofW HT_.out HW_.out (by kernel_rfl)) (fun _ _ _ h => h) (Or.inl ⟨by rfl, ?_⟩) hHeld ?_ ?_
    rotate_left
    ·
     rintro w' ⟨s0, s1, s2⟩
     go_simp
     with_reducible rfl
    rotate_left
    ·
     simp only [Act.put, List.setIfInBounds_toArray, List.set_cons_zero, List.set_cons_succ, i64_w, i32_w]
     rfl
    refine pure_ (i := 9) (N := some 45) (v := ?_) (a' := ?_) (bs_asts 13 1023) rfl rfl (any_of HT_.out (by kernel_rfl)) (fun _ _ _ h => h) (Or.inl ⟨by rfl, ?_⟩) ?_ ?_
    rotate_left
    ·
     intro w'
     go_simp
     with_reducible rfl
    rotate_left
    ·
     simp only [Act.put, List.setIfInBounds_toArray, List.set_cons_zero, List.set_cons_succ, i64_w, i32_w]
     rfl
    refine last_ (i := 10) (N := some 46) (bs_asts 13 2047) rfl rfl (one_of HT_.out (by kernel_rfl)) (by decide) (fun K hK => ?_)
    refine value_ (w1 := ?_) (v := ?_) (by rfl) rfl ?_ ?_
    rotate_left 2
    ·
     go_simp
     constructor
     ·
      rfl
     rfl
    refine hK.out _ _ ?_
    clear hK K
    refine norm_ (a' := ?_) ?_ ?_
    rotate_left
    ·
     show Act.put _ (some 46) _ = _
     simp only [Act.put, List.setIfInBounds_toArray, List.set_cons_zero, List.set_cons_succ, i64_w, i32_w]
     rfl
    refine last_ (i := 11) (N := some 47) (bs_asts 13 4095) rfl rfl (one_of HT_.out (by kernel_rfl)) (by decide) (fun K hK => ?_)
    refine Kd.N_append_step k30 (w0 := w) w.heap.size (by rfl) (.tmp 36) (.tmp 46) 48 30 (.agg #[(.int .u64 0), (.slice none 0 0), (.bool false)]) 40 rfl Try.underlying48 info30 rfl (by decide) (by omega) u7 x7_2 (⟨(⟨(rd_T25 t389 x9_2).f0, (rd_T25 t389 x9_2).f1⟩ : S25), false⟩ : S30) [.int .u64 ((rd_T25 t389 x9_2).f0), .slice A392_1 ((rd_T25 t389 x9_2).f1).length c392_1, .bool false] (fun k_ => some k_ ≠ (.slice (some ad392) t389.length co20 : Value).ownBlock) (fun k_ => ((fun k_ => some k_ ≠ (.slice (some ad392) t389.length co20 : Value).ownBlock)) k_ ∧ some k_ ≠ (u7 : Value).ownBlock) rfl rfl ?aP (fun _ hk => hk) ?aF ?aO ?aB ?aS ?aL ?_
    (case aP => exact (k30_mkF _ _ (⟨(⟨(rd_T25 t389 x9_2).f0, (rd_T25 t389 x9_2).f1⟩ : S25), false⟩ : S30) (Kd.V_reads' (Kd.V_mono (ok' := (fun k_ => ((fun k_ => some k_ ≠ (.slice (some ad392) t389.length co20 : Value).ownBlock)) k_ ∧ some k_ ≠ (u7 : Value).ownBlock)) (HL392_1.out) (fun k_ hk => ⟨hk.2, hk.1⟩))).2.1 (Kd.V_F (Kd.V_mono (ok' := (fun k_ => ((fun k_ => some k_ ≠ (.slice (some ad392) t389.length co20 : Value).ownBlock)) k_ ∧ some k_ ≠ (u7 : Value).ownBlock)) (HL392_1.out) (fun k_ hk => ⟨hk.2, hk.1⟩)))))
    (case aB => exact (by repeat (first | (with_reducible first | exact HB.out | apply below_alloc | apply pw_below_drewN | apply below_drew1) | exact HB.out)))
    (case aF => exact (fun k_ hk => Kd.fresh' (Kd.N_lt (by (with_reducible repeat (first | apply Kd.N_alloc | apply Kd.N_drewN | apply Kd.N_drew)); exact HO_6.out)) k_ hk))
    (case aO => exact (by (with_reducible repeat (first | apply Kd.N_alloc | apply Kd.N_drewN | apply Kd.N_drew)); exact HO_7.out))
    (case aS => exact (below_size (by repeat (first | (with_reducible first | exact HB.out | apply below_alloc | apply pw_below_drewN | apply below_drew1) | exact HB.out))))
    (case aL => have := LMc14.out; omega)
    intro v395 w22 ho hb hg hat
    first | rw [← Ny394.out] at ho | (have hy_ := Ny394.out; rw [← Nbq15.out] at hy_; rw [← hy_] at ho)
    have n0_ := Aside0.mk (Kd.N_afterv (ok := (fun _ => True)) (by (with_reducible repeat (first | apply Kd.N_alloc | apply Kd.N_drewN | apply Kd.N_drew)); exact Kd.N_mono HO_6.out (fun _ hk => ⟨trivial, hk⟩)) hg hat)
    have n1_ := Aside0.mk (Kd.V_afterv (ok := (fun k_ => some k_ ≠ (.slice (some ad392) t389.length co20 : Value).ownBlock)) (by (with_reducible repeat (first | apply Kd.V_alloc | apply Kd.V_drewN | apply Kd.V_drew)); exact Kd.V_mono HL392_1.out (fun _ hk => ⟨hk.2, hk.1⟩)) hg hat)
    have n2_ := Aside0.mk (hb)
    have n3_ := Aside0.mk (ho)
    clear HO_6
    clear HL392_1
    clear HB
    clear HO_7
    have HO_6 := n0_
    have HL392_1 := n1_
    have HB := n2_
    have HO396 := n3_
    clear n0_ n1_ n2_ n3_
    clear ho hb hg hat
    refine hK.out _ _ ?_
    clear hK K
    refine norm_ (a' := ?_) ?_ ?_
    rotate_left
    ·
     show Act.put _ (some 47) _ = _
     simp only [Act.put, List.setIfInBounds_toArray, List.set_cons_zero, List.set_cons_succ, i64_w, i32_w]
     rfl
    refine pure_ (i := 12) (N := some 7) (v := ?_) (a' := ?_) (bs_asts 13 8191) rfl rfl (any_of HT_.out (by kernel_rfl)) (fun _ _ _ h => h) (Or.inl ⟨by rfl, ?_⟩) ?_ ?_
    rotate_left
    ·
     intro w'
     go_simp
     with_reducible rfl
    rotate_left
    ·
     simp only [Act.put, List.setIfInBounds_toArray, List.set_cons_zero, List.set_cons_succ, i64_w, i32_w]
     rfl
    refine done_ (done_of HT_.out (by kernel_rfl)) ?_
    have p397 : 0 ≤ (x9_2 : Int) := of_decide_eq_true (by first | (with_reducible assumption) | assumption)
    have q397 : x9_2 < (l1.length : Int) := of_decide_eq_true (by first | (with_reducible assumption) | assumption)
    obtain ⟨ad397, e397, hx397_0⟩ := Kd.at_bool HR1.out x9_2 p397 q397
    (try rw [← Nbq15.out] at hx397_0)
    obtain rfl : ad393 = ad397 := (by injection e397)
    replace hx397_0 := (HB.out.cell (World.block_lt_of_cell? w _ hx397_0)).trans hx397_0
    replace p397 := eq_true p397
    replace q397 := eq_true q397
    try go_wp2
    go_roundg k2
    case measure => have := HJ4.out; have := HK2.out; omega
    case rel => exact ⟨(y394), (x8_2), (wrap64 (x9_2 + 1)), (by first | rfl | (simp; done) | (simp [*]; done)), (by first | rfl | (simp; done) | (simp [*]; done)), H', ⟨by have := HJ4.out; have := HK2.out; omega⟩, ⟨by (with_reducible repeat (first | apply Kd.N_alloc | apply Kd.N_drewN | apply Kd.N_drew)); exact Kd.N_mono HO_6.out (fun _ hk => hk.2)⟩, ⟨by (with_reducible repeat (first | apply Kd.N_alloc | apply Kd.N_drewN | apply Kd.N_drew)); exact HO396.out⟩, ⟨by repeat (first | (with_reducible first | exact HB.out | apply below_alloc | apply pw_below_drewN | apply below_drew1) | exact HB.out)⟩⟩
   rw [if_neg c11] at H
   have c11b0 : decide (x9_2 < (t389.length : Int)) = false := decide_eq_false c11
   clear c11
   replace H := Option.bind_eq_some_iff.mp H
   obtain ⟨⟨t398, t399⟩, A230, H⟩ := H
   replace H : (if (t389.length : Int) > 0 then (if 0 ≤ (wrap64 ((t389.length : Int) - 1)) then (if (wrap64 ((t389.length : Int) - 1)) < (l1.length : Int) then (reliquarylaw12_RecordLasts.j2 k2 l1 t389 x8_2 t398 t399 (!(rdOf false l1 (wrap64 ((t389.length : Int) - 1))))) else (none)) else (none)) else (reliquarylaw12_RecordLasts.j2 k2 l1 t389 x8_2 t398 t399 false)) = some r := H
   have A23 := Aside0.mk A230
   clear A230
   have HC24 := Aside0.mk H
   clear H
   obtain ⟨Ao25, co25, eo25⟩ := Kd.N_slice HO_6.out
   subst eo25
   obtain ⟨Ao26, co26, eo26⟩ := Kd.N_slice HO_7.out
   subst eo26
   go_upto_region 16 with (first | ((with_reducible refine gate_callee (f := 18) rfl ?_); refine goesL_ (some 56) rfl rfl Try.func18 (by kernel_rfl) rfl #[.slice Ao26 x7_2.length co26] rfl (by (try simp only [List.map_toArray, List.map_cons, List.map_nil]); first | done | rfl | (simp only [List.length_drop, List.length_take]; rfl)) ?_; (with_reducible refine (record_Changes.calls _ _ x7_2 t398 t399 _ ?side1 ?side2 A23.out).mono ?_); (case side1 => repeat (first | exact (Kd.N_reads' HO_7.out).2.2 | (with_reducible refine Kd.C_alloc ?_ _) | (with_reducible refine Kd.C_drewN ?_ _) | (with_reducible refine Kd.C_drew ?_))); (case side2 => exact (Kd.N_reads' HO_7.out).2.1); rintro e w27 ⟨v400, rfl, ho0, hb⟩; refine ⟨_, rfl, ?_⟩; have n0_ := Aside0.mk (Kd.N_elder' (by (with_reducible repeat (first | apply Kd.N_alloc | apply Kd.N_drewN | apply Kd.N_drew)); exact HO_6.out) (by first | exact Kd.N_base ho0 | exact Kd.N_base (Kd.S_N ho0) | exact Kd.N_base (Kd.R_N ho0)) hb); have n1_ := Aside0.mk (Kd.N_elder' (by (with_reducible repeat (first | apply Kd.N_alloc | apply Kd.N_drewN | apply Kd.N_drew)); exact HO_7.out) (by first | exact Kd.N_base ho0 | exact Kd.N_base (Kd.S_N ho0) | exact Kd.N_base (Kd.R_N ho0)) hb); have n2_ := Aside0.mk (Kd.N_lower (Kd.N_mono (ok' := fun k_ => some k_ ≠ (.slice Ao25 t389.length co25 : Value).ownBlock ∧ some k_ ≠ (.slice Ao26 x7_2.length co26 : Value).ownBlock) ho0 (fun k_ hk_ => ⟨(Kd.fresh' (Kd.N_lt (by (with_reducible repeat (first | apply Kd.N_alloc | apply Kd.N_drewN | apply Kd.N_drew)); exact HO_6.out)) k_ hk_.2.1), (Kd.fresh' (Kd.N_lt (by (with_reducible repeat (first | apply Kd.N_alloc | apply Kd.N_drewN | apply Kd.N_drew)); exact HO_7.out)) k_ hk_.2.1)⟩)) (below_size (by repeat (first | (with_reducible first | exact HB.out | apply below_alloc | apply pw_below_drewN | apply below_drew1) | exact HB.out)))); have n3_ := Aside0.mk (below_step (by repeat (first | (with_reducible first | exact HB.out | apply below_alloc | apply pw_below_drewN | apply below_drew1) | exact HB.out)) hb); clear HO_6; clear HO_7; clear HB; have HO_6 := n0_; have HO_7 := n1_; have HO401 := n2_; have HB := n3_; clear n0_ n1_ n2_ n3_; (try clear hb); (try clear hb2); (try clear hk); (try clear hi); (try clear ho0)))
   (try simp only [Act.put, List.setIfInBounds_toArray, List.set_cons_zero, List.set_cons_succ])
   go_cut [70] (fun v70 wc => ∃ (kq : Nat) (x70_23 : Bool), v70 = .bool x70_23 ∧ Aside0 (reliquarylaw12_RecordLasts.j2 kq l1 t389 x8_2 t398 t399 x70_23 = some r) ∧ Aside0 (kq ≤ k2) ∧ Aside0 (Kd.N k25 25 wc w.heap.size (fun k_ => some k_ ≠ (v400 : Value).ownBlock) (.slice Ao25 t389.length co25) t389) ∧ Aside0 (Kd.N (Kd.slice 25 k25) 27 wc w.heap.size (fun k_ => some k_ ≠ ((.slice Ao25 t389.length co25) : Value).ownBlock) v400 t398) ∧ Aside0 (Below w.heap.size w wc))
   case first =>
    have H := HC24.out
    clear HC24
    by_cases c28 : (t389.length : Int) > 0
    rotate_left
    ·
     rw [if_neg c28] at H
     have c28b0 : decide (0 < (t389.length : Int)) = false := decide_eq_false c28
     have c28b1 : decide (0 < t389.length) = false := decide_eq_false (by omega)
     clear c28
     (first | rw [c28b0] | (simp only [i64_w, i32_w]; rw [c28b0]) | skip)
     have H' := Aside0.mk H
     clear H
     go_wp2
     go_meet
     case rel => exact ⟨_, (false), (by first | rfl | (simp; done) | (simp [*]; done)), H', ⟨by have := HJ4.out; have := HK2.out; first | omega | exact Nat.le_refl _⟩, ⟨by (with_reducible repeat (first | apply Kd.N_alloc | apply Kd.N_drewN | apply Kd.N_drew)); exact Kd.N_mono HO_6.out (fun _ hk => hk.2)⟩, ⟨by (with_reducible repeat (first | apply Kd.N_alloc | apply Kd.N_drewN | apply Kd.N_drew)); exact Kd.N_mono HO401.out (fun _ hk => hk.1)⟩, ⟨by repeat (first | (with_reducible first | exact HB.out | apply below_alloc | apply pw_below_drewN | apply below_drew1) | exact HB.out)⟩⟩
    rw [if_pos c28] at H
    have c28b0 : decide (0 < (t389.length : Int)) = true := decide_eq_true c28
    have c28b1 : decide (0 < t389.length) = true := decide_eq_true (by omega)
    clear c28
    (first | rw [c28b0] | (simp only [i64_w, i32_w]; rw [c28b0]) | skip)
    obtain ⟨ji29, hji29⟩ : ∃ j_ : Int, (wrap64 ((t389.length : Int) - 1)) = j_ := ⟨_, rfl⟩
    replace H : (if 0 ≤ (ji29) then (if (ji29) < (l1.length : Int) then (reliquarylaw12_RecordLasts.j2 k2 l1 t389 x8_2 t398 t399 (!(rdOf false l1 (ji29)))) else (none)) else (none)) = some r := by first | (rw [hji29] at H; exact H) | (simp only [hji29] at H ⊢; exact H)
    have hji29w : (IntKind.i64.wrap ((t389.length : Int) - 1)) = ji29 := (i64_w _).trans hji29
    by_cases c30 : 0 ≤ (ji29)
    rotate_left
    ·
     rw [if_neg c30] at H
     exact absurd H (by simp)
    rw [if_pos c30] at H
    have c30b0 : decide (0 ≤ (ji29)) = true := decide_eq_true c30
    clear c30
    by_cases c31 : (ji29) < (l1.length : Int)
    rotate_left
    ·
     rw [if_neg c31] at H
     exact absurd H (by simp)
    rw [if_pos c31] at H
    have c31b0 : decide ((ji29) < (l1.length : Int)) = true := decide_eq_true c31
    clear c31
    have H' := Aside0.mk H
    clear H
    have p402 : 0 ≤ ((ji29) : Int) := of_decide_eq_true (by first | (with_reducible assumption) | assumption)
    have q402 : (ji29) < (l1.length : Int) := of_decide_eq_true (by first | (with_reducible assumption) | assumption)
    obtain ⟨ad402, e402, hx402_0⟩ := Kd.at_bool HR1.out (ji29) p402 q402
    cases e402
    replace hx402_0 := (HB.out.cell (World.block_lt_of_cell? w _ hx402_0)).trans hx402_0
    replace p402 := eq_true p402
    replace q402 := eq_true q402
    go_wp2
    go_meet
    case rel => exact ⟨_, (!(rdOf false l1 (ji29))), (by first | rfl | (simp; done) | (simp only [← hji29] <;> (first | rfl | simp)) | (simp [*]; done)), H', ⟨by have := HJ4.out; have := HK2.out; first | omega | exact Nat.le_refl _⟩, ⟨by (with_reducible repeat (first | apply Kd.N_alloc | apply Kd.N_drewN | apply Kd.N_drew)); exact Kd.N_mono HO_6.out (fun _ hk => hk.2)⟩, ⟨by (with_reducible repeat (first | apply Kd.N_alloc | apply Kd.N_drewN | apply Kd.N_drew)); exact Kd.N_mono HO401.out (fun _ hk => hk.1)⟩, ⟨by repeat (first | (with_reducible first | exact HB.out | apply below_alloc | apply pw_below_drewN | apply below_drew1) | exact HB.out)⟩⟩
   clear HC24
   try clear c1
   try clear q1
   try clear c2
   try clear p2
   try clear c3
   try clear p3
   try clear q3
   try clear hx3
   try clear c4
   try clear p4
   try clear q4
   try clear hx4
   try clear p6
   try clear c7
   try clear c7b0
   try clear c7b1
   try clear c8
   try clear c9
   try clear c11
   try clear c11b0
   try clear c12
   try clear c12b0
   try clear c13
   try clear c13b0
   try clear c14
   try clear q15
   try clear c16
   try clear c18
   try clear c28
   try clear c28b0
   try clear c28b1
   try clear c30
   try clear c30b0
   try clear c31
   try clear c31b0
   try clear hx392_0
   try clear hx392_1
   try clear hx393_0
   try clear hx397_0
   try clear hx402_0
   try clear p2
   try clear p392
   try clear p393
   try clear p397
   try clear p402
   try clear q392
   try clear q393
   try clear q397
   try clear q402
   obtain ⟨kq, x70_23, rfl, HA, HJ23, HO_6, HO_10, HB⟩ := hcut
   cases kq with
   | zero => exact absurd HA.out (by simp [reliquarylaw12_RecordLasts.j2])
   | succ kj23 =>
    have H := HA.out
    clear HA
    simp only [reliquarylaw12_RecordLasts.j2] at H
    by_cases c32 : x70_23 = true
    ·
     subst c32
     have H1 : (if t399 = 11 then (some ((t398.length : Int) == 0)) else (some false)) = some r := by rw [if_pos rfl] at H; exact H
     clear H
     have H := H1
     clear H1
     by_cases c33 : t399 = 11
     rotate_left
     ·
      rw [if_neg c33] at H
      have c33b0 : (t399 == 11) = false := beq_eq_false_iff_ne.mpr c33
      have c33b1 : (t399 != 11) = true := bne_iff_ne.mpr c33
      obtain rfl := Option.some.inj H
      go_wp2
      go_ret
      exact ⟨by first | rfl | (simp [errW_none, errW_some] <;> rfl) | (simp [*, errW_none, errW_some] <;> rfl), by repeat (first | (with_reducible first | exact HB.out | apply below_alloc | apply pw_below_drewN | apply below_drew1) | exact HB.out)⟩
     rw [if_pos c33] at H
     have c33b0 : (t399 == 11) = true := beq_iff_eq.mpr c33
     have c33b1 : (t399 != 11) = false := bne_eq_false_iff_eq.mpr c33
     clear c33
     obtain rfl := Option.some.inj H
     obtain ⟨Ao34, co34, eo34⟩ := Kd.N_slice HO_10.out
     subst eo34
     go_wp2
     go_ret
     exact ⟨by first | rfl | (simp [errW_none, errW_some] <;> rfl) | (simp [*, errW_none, errW_some] <;> rfl), by repeat (first | (with_reducible first | exact HB.out | apply below_alloc | apply pw_below_drewN | apply below_drew1) | exact HB.out)⟩
    replace c32 := Bool.eq_false_iff.mpr c32
    subst c32
    have H1 : (if t399 = 0 then (reliquarylaw12_RecordLasts.j3 kj23 l1 t389 t398 ((t398.length : Int) != x8_2)) else (reliquarylaw12_RecordLasts.j3 kj23 l1 t389 t398 true)) = some r := by rw [if_neg (show ¬ (false = true) by decide)] at H; exact H
    clear H
    have H := H1
    clear H1
    have HC35 := Aside0.mk H
    clear H
    go_upto_region 18 with (fail)
    go_cut [85] (fun v85 wc => ∃ (kq : Nat) (x85_34 : Bool), v85 = .bool x85_34 ∧ Aside0 (reliquarylaw12_RecordLasts.j3 kq l1 t389 t398 x85_34 = some r) ∧ Aside0 (kq ≤ kj23) ∧ Aside0 (Kd.N k25 25 wc w.heap.size (fun k_ => some k_ ≠ (v400 : Value).ownBlock) (.slice Ao25 t389.length co25) t389) ∧ Aside0 (Kd.N (Kd.slice 25 k25) 27 wc w.heap.size (fun k_ => some k_ ≠ ((.slice Ao25 t389.length co25) : Value).ownBlock) v400 t398) ∧ Aside0 (Below w.heap.size w wc))
    case first =>
     have H := HC35.out
     clear HC35
     by_cases c36 : t399 = 0
     rotate_left
     ·
      rw [if_neg c36] at H
      have c36b0 : (t399 == 0) = false := beq_eq_false_iff_ne.mpr c36
      have c36b1 : (t399 != 0) = true := bne_iff_ne.mpr c36
      (first | rw [c36b0] | (simp only [i64_w, i32_w]; rw [c36b0]) | skip)
      have H' := Aside0.mk H
      clear H
      go_wp2
      go_meet
      case rel => exact ⟨_, (true), (by first | rfl | (simp; done) | (simp [*]; done)), H', ⟨by have := HJ4.out; have := HK2.out; have := HJ23.out; first | omega | exact Nat.le_refl _⟩, ⟨by (with_reducible repeat (first | apply Kd.N_alloc | apply Kd.N_drewN | apply Kd.N_drew)); exact HO_6.out⟩, ⟨by (with_reducible repeat (first | apply Kd.N_alloc | apply Kd.N_drewN | apply Kd.N_drew)); exact HO_10.out⟩, ⟨by repeat (first | (with_reducible first | exact HB.out | apply below_alloc | apply pw_below_drewN | apply below_drew1) | exact HB.out)⟩⟩
     rw [if_pos c36] at H
     have c36b0 : (t399 == 0) = true := beq_iff_eq.mpr c36
     have c36b1 : (t399 != 0) = false := bne_eq_false_iff_eq.mpr c36
     clear c36
     (first | rw [c36b0] | (simp only [i64_w, i32_w]; rw [c36b0]) | skip)
     have H' := Aside0.mk H
     clear H
     obtain ⟨Ao37, co37, eo37⟩ := Kd.N_slice HO_10.out
     subst eo37
     go_wp2
     go_meet
     case rel => exact ⟨_, (((t398.length : Int) != x8_2)), (by first | rfl | (simp; done) | (simp [*]; done)), H', ⟨by have := HJ4.out; have := HK2.out; have := HJ23.out; first | omega | exact Nat.le_refl _⟩, ⟨by (with_reducible repeat (first | apply Kd.N_alloc | apply Kd.N_drewN | apply Kd.N_drew)); exact HO_6.out⟩, ⟨by (with_reducible repeat (first | apply Kd.N_alloc | apply Kd.N_drewN | apply Kd.N_drew)); exact HO_10.out⟩, ⟨by repeat (first | (with_reducible first | exact HB.out | apply below_alloc | apply pw_below_drewN | apply below_drew1) | exact HB.out)⟩⟩
    clear HC35
    try clear c1
    try clear q1
    try clear c2
    try clear p2
    try clear c3
    try clear p3
    try clear q3
    try clear hx3
    try clear c4
    try clear p4
    try clear q4
    try clear hx4
    try clear p6
    try clear c7
    try clear c7b0
    try clear c7b1
    try clear c8
    try clear c9
    try clear c11
    try clear c11b0
    try clear c12
    try clear c12b0
    try clear c13
    try clear c13b0
    try clear c14
    try clear q15
    try clear c16
    try clear c18
    try clear c28
    try clear c28b0
    try clear c28b1
    try clear c30
    try clear c30b0
    try clear c31
    try clear c31b0
    try clear c32
    try clear c33
    try clear c33b0
    try clear c33b1
    try clear c36
    try clear c36b0
    try clear c36b1
    try clear hx392_0
    try clear hx392_1
    try clear hx393_0
    try clear hx397_0
    try clear hx402_0
    try clear p2
    try clear p3
    try clear p392
    try clear p393
    try clear p397
    try clear p4
    try clear p402
    try clear p6
    try clear q1
    try clear q15
    try clear q3
    try clear q392
    try clear q393
    try clear q397
    try clear q4
    try clear q402
    obtain ⟨kq, x85_34, rfl, HA, HJ34, HO_6, HO_10, HB⟩ := hcut
    cases kq with
    | zero => exact absurd HA.out (by simp [reliquarylaw12_RecordLasts.j3])
    | succ kj34 =>
     have H := HA.out
     clear HA
     simp only [reliquarylaw12_RecordLasts.j3] at H
     by_cases c38 : x85_34 = true
     ·
      subst c38
      have H1 : (some false) = some r := by rw [if_pos rfl] at H; exact H
      clear H
      have H := H1
      clear H1
      obtain rfl := Option.some.inj H
      go_wp2
      go_ret
      exact ⟨by first | rfl | (simp [errW_none, errW_some] <;> rfl) | (simp [*, errW_none, errW_some] <;> rfl), by repeat (first | (with_reducible first | exact HB.out | apply below_alloc | apply pw_below_drewN | apply below_drew1) | exact HB.out)⟩
     replace c38 := Bool.eq_false_iff.mpr c38
     subst c38
     have H1 : (reliquarylaw12_RecordLasts.l1 kj34 l1 t389 t398 0 0) = some r := by rw [if_neg (show ¬ (false = true) by decide)] at H; exact H
     clear H
     have H := H1
     clear H1
     have H' := Aside0.mk H
     clear H
     go_wp2
     go_loopg [12, 13] kj34 (fun kq v12 v13 w' => ∃ (x12_5 : Int) (x13_5 : Int), v12 = .int .i64 x12_5 ∧ v13 = .int .i64 x13_5 ∧ Aside0 (reliquarylaw12_RecordLasts.l1 kq l1 t389 t398 x12_5 x13_5 = some r) ∧ Aside0 (kq ≤ kj34) ∧ Aside0 (Kd.N k25 25 w' w.heap.size (fun k_ => some k_ ≠ (v400 : Value).ownBlock) (.slice Ao25 t389.length co25) t389) ∧ Aside0 (Kd.N (Kd.slice 25 k25) 27 w' w.heap.size (fun k_ => some k_ ≠ ((.slice Ao25 t389.length co25) : Value).ownBlock) v400 t398) ∧ Aside0 (Below w.heap.size w w'))
     case atStart => exact ⟨(0), (0), (by first | rfl | (simp; done) | (simp [*]; done)), (by first | rfl | (simp; done) | (simp [*]; done)), H', ⟨Nat.le_refl _⟩, ⟨by (with_reducible repeat (first | apply Kd.N_alloc | apply Kd.N_drewN | apply Kd.N_drew)); exact HO_6.out⟩, ⟨by (with_reducible repeat (first | apply Kd.N_alloc | apply Kd.N_drewN | apply Kd.N_drew)); exact HO_10.out⟩, ⟨by repeat (first | (with_reducible first | exact HB.out | apply below_alloc | apply pw_below_drewN | apply below_drew1) | exact HB.out)⟩⟩
     clear H'
     try clear c1
     try clear q1
     try clear c2
     try clear p2
     try clear c3
     try clear p3
     try clear q3
     try clear hx3
     try clear c4
     try clear p4
     try clear q4
     try clear hx4
     try clear p6
     try clear c7
     try clear c7b0
     try clear c7b1
     try clear c8
     try clear c9
     try clear c11
     try clear c11b0
     try clear c12
     try clear c12b0
     try clear c13
     try clear c13b0
     try clear c14
     try clear q15
     try clear c16
     try clear c18
     try clear c28
     try clear c28b0
     try clear c28b1
     try clear c30
     try clear c30b0
     try clear c31
     try clear c31b0
     try clear c32
     try clear c33
     try clear c33b0
     try clear c33b1
     try clear c36
     try clear c36b0
     try clear c36b1
     try clear c38
     try clear hx392_0
     try clear hx392_1
     try clear hx393_0
     try clear hx397_0
     try clear hx402_0
     try clear p2
     try clear p3
     try clear p392
     try clear p393
     try clear p397
     try clear p4
     try clear p402
     try clear p6
     try clear q1
     try clear q15
     try clear q3
     try clear q392
     try clear q393
     try clear q397
     try clear q4
     try clear q402
     obtain ⟨x12_5, x13_5, rfl, rfl, HA, HK5, HO_6, HO_10, HB⟩ := hrel
     cases gk with
     | zero => exact absurd HA.out (by simp [reliquarylaw12_RecordLasts.l1])
     | succ k5 =>
      have H := HA.out
      clear HA
      simp only [reliquarylaw12_RecordLasts.l1] at H
      by_cases c39 : x13_5 < (t398.length : Int)
      rotate_left
      ·
       rw [if_neg c39] at H
       have c39b0 : decide (x13_5 < (t398.length : Int)) = false := decide_eq_false c39
       clear c39
       obtain rfl := Option.some.inj H
       obtain ⟨Ao66, co66, eo66⟩ := Kd.N_slice HO_10.out
       subst eo66
       go_wp2
       go_ret
       exact ⟨by first | rfl | (simp [errW_none, errW_some] <;> rfl) | (simp [*, errW_none, errW_some] <;> rfl), by repeat (first | (with_reducible first | exact HB.out | apply below_alloc | apply pw_below_drewN | apply below_drew1) | exact HB.out)⟩
      rw [if_pos c39] at H
      have c39b0 : decide (x13_5 < (t398.length : Int)) = true := decide_eq_true c39
      clear c39
      have H' := Aside0.mk H
      clear H
      obtain ⟨Ao40, co40, eo40⟩ := Kd.N_slice HO_10.out
      subst eo40
      go_wp2
      go_loopg [12, 14] k5 (fun kq v12 v14 w' => ∃ (x12_6 : Int) (x14_6 : Int), v12 = .int .i64 x12_6 ∧ v14 = .int .i64 x14_6 ∧ Aside0 (reliquarylaw12_RecordLasts.l2 kq l1 t389 t398 x12_6 x13_5 x14_6 = some r) ∧ Aside0 (kq ≤ k5) ∧ Aside0 (Kd.N k25 25 w' w.heap.size (fun k_ => some k_ ≠ ((.slice Ao40 t398.length co40) : Value).ownBlock) (.slice Ao25 t389.length co25) t389) ∧ Aside0 (Kd.N (Kd.slice 25 k25) 27 w' w.heap.size (fun k_ => some k_ ≠ ((.slice Ao25 t389.length co25) : Value).ownBlock) (.slice Ao40 t398.length co40) t398) ∧ Aside0 (Below w.heap.size w w'))
      case atStart => exact ⟨(x12_5), (0), (by first | rfl | (simp; done) | (simp [*]; done)), (by first | rfl | (simp; done) | (simp [*]; done)), H', ⟨Nat.le_refl _⟩, ⟨by (with_reducible repeat (first | apply Kd.N_alloc | apply Kd.N_drewN | apply Kd.N_drew)); exact HO_6.out⟩, ⟨by (with_reducible repeat (first | apply Kd.N_alloc | apply Kd.N_drewN | apply Kd.N_drew)); exact HO_10.out⟩, ⟨by repeat (first | (with_reducible first | exact HB.out | apply below_alloc | apply pw_below_drewN | apply below_drew1) | exact HB.out)⟩⟩
      clear H'
      try clear c1
      try clear q1
      try clear c2
      try clear p2
      try clear c3
      try clear p3
      try clear q3
      try clear hx3
      try clear c4
      try clear p4
      try clear q4
      try clear hx4
      try clear p6
      try clear c7
      try clear c7b0
      try clear c7b1
      try clear c8
      try clear c9
      try clear c11
      try clear c11b0
      try clear c12
      try clear c12b0
      try clear c13
      try clear c13b0
      try clear c14
      try clear q15
      try clear c16
      try clear c18
      try clear c28
      try clear c28b0
      try clear c28b1
      try clear c30
      try clear c30b0
      try clear c31
      try clear c31b0
      try clear c32
      try clear c33
      try clear c33b0
      try clear c33b1
      try clear c36
      try clear c36b0
      try clear c36b1
      try clear c38
      try clear c39
      try clear c39b0
      try clear p39
      try clear q39
      try clear hx39
      try clear p40
      try clear q40
      try clear hx40
      try clear hx392_0
      try clear hx392_1
      try clear hx393_0
      try clear hx397_0
      try clear hx402_0
      try clear p2
      try clear p3
      try clear p392
      try clear p393
      try clear p397
      try clear p4
      try clear p402
      try clear p6
      try clear q1
      try clear q15
      try clear q3
      try clear q392
      try clear q393
      try clear q397
      try clear q4
      try clear q402
      obtain ⟨x12_6, x14_6, rfl, rfl, HA, HK6, HO_6, HO_10, HB⟩ := hrel
      cases gk with
      | zero => exact absurd HA.out (by simp [reliquarylaw12_RecordLasts.l2])
      | succ k6 =>
       have H := HA.out
       clear HA
       simp only [reliquarylaw12_RecordLasts.l2] at H
       by_cases c41 : 0 ≤ x13_5
       rotate_left
       ·
        rw [if_neg c41] at H
        exact absurd H (by simp)
       rw [if_pos c41] at H
       have c41b0 : decide (0 ≤ x13_5) = true := decide_eq_true c41
       clear c41
       by_cases c42 : x13_5 < (t398.length : Int)
       rotate_left
       ·
        rw [if_neg c42] at H
        exact absurd H (by simp)
       rw [if_pos c42] at H
       have c42b0 : decide (x13_5 < (t398.length : Int)) = true := decide_eq_true c42
       clear c42
       by_cases c43 : x14_6 < ((rd_L12 t398 x13_5).length : Int)
       rotate_left
       ·
        rw [if_neg c43] at H
        have c43b0 : decide (x14_6 < ((rd_L12 t398 x13_5).length : Int)) = false := decide_eq_false c43
        clear c43
        have H' := Aside0.mk H
        clear H
        have p403 : 0 ≤ (x13_5 : Int) := of_decide_eq_true (by first | (with_reducible assumption) | assumption)
        have q403 : x13_5 < (t398.length : Int) := of_decide_eq_true (by first | (with_reducible assumption) | assumption)
        obtain ⟨ad403, A403_0, c403_0, e403, hx403_0, hl403_0, hi403_0⟩ := at_L12 (Kd.N_reads' HO_10.out).2.2 x13_5 p403 q403
        cases e403
        obtain ⟨ce403, hce403, hMe403, hcc403⟩ := Kd.N_get HO_10.out [] x13_5 p403 (by first | exact q403 | exact of_decide_eq_true (by first | (with_reducible assumption) | assumption) | (have e_ := (Kd.N_reads' HO_10.out).1; omega))
        obtain ⟨ua403_0, uc403_0, rfl, ul403_0, ge403_0⟩ := Kd.FK_slice_open hMe403
        have hv403_0 := hcc403 0 _ rfl
        rw [Nat.add_zero, show ((Kd.slice 25 k25)).sz = 1 from rfl, Nat.mul_one] at hv403_0
        replace hv403_0 := Option.some.inj (hv403_0.symm.trans hx403_0)
        injection hv403_0 with hva_ hvn_ hvc_
        rw [hva_] at ge403_0
        rw [hvc_] at ul403_0
        have HL403_0 := Aside0.mk (show Kd.V k25 25 _ w.heap.size _ _ (rd_L12 t398 x13_5) from Kd.V_mk ul403_0 ge403_0)
        clear hva_ hvn_ hvc_ ge403_0 ul403_0
        clear hcc403 hce403
        have HR403_0 := Aside0.mk hi403_0
        have HC403_0 := Aside0.mk hl403_0
        clear hi403_0 hl403_0
        replace p403 := eq_true p403
        replace q403 := eq_true q403
        go_wp2
        go_roundg k6
        case measure => have := HJ4.out; have := HK2.out; have := HJ23.out; have := HJ34.out; have := HK5.out; have := HK6.out; omega
        case rel => exact ⟨(x12_6), (wrap64 (x13_5 + 1)), (by first | rfl | (simp; done) | (simp [*]; done)), (by first | rfl | (simp; done) | (simp [*]; done)), H', ⟨by have := HJ4.out; have := HK2.out; have := HJ23.out; have := HJ34.out; have := HK5.out; have := HK6.out; omega⟩, ⟨by (with_reducible repeat (first | apply Kd.N_alloc | apply Kd.N_drewN | apply Kd.N_drew)); exact HO_6.out⟩, ⟨by (with_reducible repeat (first | apply Kd.N_alloc | apply Kd.N_drewN | apply Kd.N_drew)); exact HO_10.out⟩, ⟨by repeat (first | (with_reducible first | exact HB.out | apply below_alloc | apply pw_below_drewN | apply below_drew1) | exact HB.out)⟩⟩
       rw [if_pos c43] at H
       have c43b0 : decide (x14_6 < ((rd_L12 t398 x13_5).length : Int)) = true := decide_eq_true c43
       clear c43
       by_cases c44 : x12_6 ≥ (t389.length : Int)
       ·
        rw [if_pos c44] at H
        have c44b0 : decide ((t389.length : Int) ≤ x12_6) = true := decide_eq_true c44
        clear c44
        obtain rfl := Option.some.inj H
        have p403 : 0 ≤ (x13_5 : Int) := of_decide_eq_true (by first | (with_reducible assumption) | assumption)
        have q403 : x13_5 < (t398.length : Int) := of_decide_eq_true (by first | (with_reducible assumption) | assumption)
        obtain ⟨ad403, A403_0, c403_0, e403, hx403_0, hl403_0, hi403_0⟩ := at_L12 (Kd.N_reads' HO_10.out).2.2 x13_5 p403 q403
        cases e403
        obtain ⟨ce403, hce403, hMe403, hcc403⟩ := Kd.N_get HO_10.out [] x13_5 p403 (by first | exact q403 | exact of_decide_eq_true (by first | (with_reducible assumption) | assumption) | (have e_ := (Kd.N_reads' HO_10.out).1; omega))
        obtain ⟨ua403_0, uc403_0, rfl, ul403_0, ge403_0⟩ := Kd.FK_slice_open hMe403
        have hv403_0 := hcc403 0 _ rfl
        rw [Nat.add_zero, show ((Kd.slice 25 k25)).sz = 1 from rfl, Nat.mul_one] at hv403_0
        replace hv403_0 := Option.some.inj (hv403_0.symm.trans hx403_0)
        injection hv403_0 with hva_ hvn_ hvc_
        rw [hva_] at ge403_0
        rw [hvc_] at ul403_0
        have HL403_0 := Aside0.mk (show Kd.V k25 25 _ w.heap.size _ _ (rd_L12 t398 x13_5) from Kd.V_mk ul403_0 ge403_0)
        clear hva_ hvn_ hvc_ ge403_0 ul403_0
        clear hcc403 hce403
        have HR403_0 := Aside0.mk hi403_0
        have HC403_0 := Aside0.mk hl403_0
        clear hi403_0 hl403_0
        replace p403 := eq_true p403
        replace q403 := eq_true q403
        try go_wp2
        have n0_ := Aside0.mk (Kd.N_drew HO_6.out)
        have n1_ := Aside0.mk (Kd.N_drew HO_10.out)
        have n2_ := Aside0.mk (Kd.V_drew HL403_0.out)
        have n3_ := Aside0.mk (Kd.C_drew HR403_0.out)
        have n4_ := Aside0.mk (below_drew1 HB.out)
        clear HO_6
        clear HO_10
        clear HL403_0
        clear HR403_0
        clear HB
        have HO_6 := n0_
        have HO_10 := n1_
        have HL403_0 := n2_
        have HR403_0 := n3_
        have HB := n4_
        clear n0_ n1_ n2_ n3_ n4_
        refine start_ (n := 53) (S := fun w' => True) (ds := []) (bs_asts 53 0) (by kernel_rfl) rfl rfl trivial (fun hHeld => ?_); refine with_tabW reliquarylaw12_RecordLasts.tab27 reliquarylaw12_RecordLasts.bits27 (fun HT_ HW_ => ?_)
        generalize wr.drew = w45 at HO_6 HO_10 HL403_0 HR403_0 HB hHeld ⊢
        refine pure_ (i := 0) (N := some 101) (v := ?_) (a' := ?_) (bs_asts 53 1) rfl rfl (any_of HT_.out (by kernel_rfl)) (fun _ _ _ h => h) (Or.inl ⟨by rfl, ?_⟩) ?_ ?_
        rotate_left
        ·
         intro w'
         go_simp
         with_reducible rfl
        rotate_left
        ·
         simp only [Act.put, List.setIfInBounds_toArray, List.set_cons_zero, List.set_cons_succ, i64_w, i32_w]
         rfl
        refine pure_ (i := 1) (N := some 102) (v := ?_) (a' := ?_) (bs_asts 53 3) rfl rfl (any_of HT_.out (by kernel_rfl)) (fun _ _ _ h => h) (Or.inl ⟨by rfl, ?_⟩) ?_ ?_
        rotate_left
        ·
         intro w'
         go_simp
         with_reducible rfl
        rotate_left
        ·
         simp only [Act.put, List.setIfInBounds_toArray, List.set_cons_zero, List.set_cons_succ, i64_w, i32_w]
         rfl
        refine pure_ (i := 2) (N := some 103) (v := ?_) (a' := ?_) (bs_asts 53 7) rfl rfl (any_of HT_.out (by kernel_rfl)) (fun _ _ _ h => h) (Or.inl ⟨by rfl, ?_⟩) ?_ ?_
        rotate_left
        ·
         intro w'
         go_simp
         with_reducible rfl
        rotate_left
        ·
         simp only [Act.put, List.setIfInBounds_toArray, List.set_cons_zero, List.set_cons_succ, i64_w, i32_w]
         rfl
        refine pure_ (i := 3) (N := some 104) (v := ?_) (a' := ?_) (bs_asts 53 15) rfl rfl (any_of HT_.out (by kernel_rfl)) (fun _ _ _ h => h) (Or.inl ⟨by rfl, ?_⟩) ?_ ?_
        rotate_left
        ·
         intro w'
         go_simp
         with_reducible rfl
        rotate_left
        ·
         simp only [Act.put, List.setIfInBounds_toArray, List.set_cons_zero, List.set_cons_succ, i64_w, i32_w]
         rfl
        refine pure_ (i := 4) (N := some 105) (v := ?_) (a' := ?_) (bs_asts 53 31) rfl rfl (any_of HT_.out (by kernel_rfl)) (fun _ _ _ h => h) (Or.inl ⟨by rfl, ?_⟩) ?_ ?_
        rotate_left
        ·
         intro w'
         go_simp
         with_reducible rfl
        rotate_left
        ·
         simp only [Act.put, List.setIfInBounds_toArray, List.set_cons_zero, List.set_cons_succ, i64_w, i32_w]
         rfl
        refine pure_ (i := 5) (N := some 106) (v := undef) (a' := ?_) (bs_asts 53 63) rfl rfl (any_of HT_.out (by kernel_rfl)) (fun _ _ _ h => h) (Or.inr ⟨by rfl, rfl⟩) ?_ ?_
        rotate_left
        ·
         simp only [Act.put, List.setIfInBounds_toArray, List.set_cons_zero, List.set_cons_succ, i64_w, i32_w]
         rfl
        refine pure_ (i := 6) (N := some 107) (v := undef) (a' := ?_) (bs_asts 53 127) rfl rfl (any_of HT_.out (by kernel_rfl)) (fun _ _ _ h => h) (Or.inr ⟨by rfl, rfl⟩) ?_ ?_
        rotate_left
        ·
         simp only [Act.put, List.setIfInBounds_toArray, List.set_cons_zero, List.set_cons_succ, i64_w, i32_w]
         rfl
        refine pure_ (i := 7) (N := some 108) (v := undef) (a' := ?_) (bs_asts 53 255) rfl rfl (any_of HT_.out (by kernel_rfl)) (fun _ _ _ h => h) (Or.inr ⟨by rfl, rfl⟩) ?_ ?_
        rotate_left
        ·
         simp only [Act.put, List.setIfInBounds_toArray, List.set_cons_zero, List.set_cons_succ, i64_w, i32_w]
         rfl
        refine pure_ (i := 8) (N := some 109) (v := undef) (a' := ?_) (bs_asts 53 511) rfl rfl (any_of HT_.out (by kernel_rfl)) (fun _ _ _ h => h) (Or.inr ⟨by rfl, rfl⟩) ?_ ?_
        rotate_left
        ·
         simp only [Act.put, List.setIfInBounds_toArray, List.set_cons_zero, List.set_cons_succ, i64_w, i32_w]
         rfl
        refine pure_ (i := 9) (N := some 110) (v := undef) (a' := ?_) (bs_asts 53 1023) rfl rfl (any_of HT_.out (by kernel_rfl)) (fun _ _ _ h => h) (Or.inr ⟨by rfl, rfl⟩) ?_ ?_
        rotate_left
        ·
         simp only [Act.put, List.setIfInBounds_toArray, List.set_cons_zero, List.set_cons_succ, i64_w, i32_w]
         rfl
        refine pure_ (i := 10) (N := some 111) (v := undef) (a' := ?_) (bs_asts 53 2047) rfl rfl (any_of HT_.out (by kernel_rfl)) (fun _ _ _ h => h) (Or.inr ⟨by rfl, rfl⟩) ?_ ?_
        rotate_left
        ·
         simp only [Act.put, List.setIfInBounds_toArray, List.set_cons_zero, List.set_cons_succ, i64_w, i32_w]
         rfl
        refine pure_ (i := 11) (N := some 112) (v := undef) (a' := ?_) (bs_asts 53 4095) rfl rfl (any_of HT_.out (by kernel_rfl)) (fun _ _ _ h => h) (Or.inr ⟨by rfl, rfl⟩) ?_ ?_
        rotate_left
        ·
         simp only [Act.put, List.setIfInBounds_toArray, List.set_cons_zero, List.set_cons_succ, i64_w, i32_w]
         rfl
        refine pure_ (i := 12) (N := some 113) (v := undef) (a' := ?_) (bs_asts 53 8191) rfl rfl (any_of HT_.out (by kernel_rfl)) (fun _ _ _ h => h) (Or.inr ⟨by rfl, rfl⟩) ?_ ?_
        rotate_left
        ·
         simp only [Act.put, List.setIfInBounds_toArray, List.set_cons_zero, List.set_cons_succ, i64_w, i32_w]
         rfl
        refine pure_ (i := 13) (N := some 114) (v := undef) (a' := ?_) (bs_asts 53 16383) rfl rfl (any_of HT_.out (by kernel_rfl)) (fun _ _ _ h => h) (Or.inr ⟨by rfl, rfl⟩) ?_ ?_
        rotate_left
        ·
         simp only [Act.put, List.setIfInBounds_toArray, List.set_cons_zero, List.set_cons_succ, i64_w, i32_w]
         rfl
        refine pure_ (i := 14) (N := some 115) (v := undef) (a' := ?_) (bs_asts 53 32767) rfl rfl (any_of HT_.out (by kernel_rfl)) (fun _ _ _ h => h) (Or.inr ⟨by rfl, rfl⟩) ?_ ?_
        rotate_left
        ·
         simp only [Act.put, List.setIfInBounds_toArray, List.set_cons_zero, List.set_cons_succ, i64_w, i32_w]
         rfl
        refine pure_ (i := 15) (N := some 116) (v := undef) (a' := ?_) (bs_asts 53 65535) rfl rfl (any_of HT_.out (by kernel_rfl)) (fun _ _ _ h => h) (Or.inr ⟨by rfl, rfl⟩) ?_ ?_
        rotate_left
        ·
         simp only [Act.put, List.setIfInBounds_toArray, List.set_cons_zero, List.set_cons_succ, i64_w, i32_w]
         rfl
        refine pure_ (i := 16) (N := some 117) (v := undef) (a' := ?_) (bs_asts 53 131071) rfl rfl (any_of HT_.out (by kernel_rfl)) (fun _ _ _ h => h) (Or.inr ⟨by rfl, rfl⟩) ?_ ?_
        rotate_left
        ·
         simp only [Act.put, List.setIfInBounds_toArray, List.set_cons_zero, List.set_cons_succ, i64_w, i32_w]
         rfl
        refine pure_ (i := 17) (N := some 118) (v := undef) (a' := ?_) (bs_asts 53 262143) rfl rfl (any_of HT_.out (by kernel_rfl)) (fun _ _ _ h => h) (Or.inr ⟨by rfl, rfl⟩) ?_ ?_
        rotate_left
        ·
         simp only [Act.put, List.setIfInBounds_toArray, List.set_cons_zero, List.set_cons_succ, i64_w, i32_w]
         rfl
        refine pure_ (i := 18) (N := some 119) (v := undef) (a' := ?_) (bs_asts 53 524287) rfl rfl (any_of HT_.out (by kernel_rfl)) (fun _ _ _ h => h) (Or.inr ⟨by rfl, rfl⟩) ?_ ?_
        rotate_left
        ·
         simp only [Act.put, List.setIfInBounds_toArray, List.set_cons_zero, List.set_cons_succ, i64_w, i32_w]
         rfl
        refine pure_ (i := 19) (N := some 120) (v := ?_) (a' := ?_) (bs_asts 53 1048575) rfl rfl (any_of HT_.out (by kernel_rfl)) (fun _ _ _ h => h) (Or.inl ⟨by rfl, ?_⟩) ?_ ?_
        rotate_left
        ·
         intro w'
         go_simp
         with_reducible rfl
        rotate_left
        ·
         simp only [Act.put, List.setIfInBounds_toArray, List.set_cons_zero, List.set_cons_succ, i64_w, i32_w]
         rfl
        refine pure_ (i := 20) (N := some 121) (v := ?_) (a' := ?_) (bs_asts 53 2097151) rfl rfl (any_of HT_.out (by kernel_rfl)) (fun _ _ _ h => h) (Or.inl ⟨by rfl, ?_⟩) ?_ ?_
        rotate_left
        ·
         intro w'
         go_simp
         with_reducible rfl
        rotate_left
        ·
         simp only [Act.put, List.setIfInBounds_toArray, List.set_cons_zero, List.set_cons_succ, i64_w, i32_w]
         rfl
        refine pure_ (i := 21) (N := some 122) (v := undef) (a' := ?_) (bs_asts 53 4194303) rfl rfl (any_of HT_.out (by kernel_rfl)) (fun _ _ _ h => h) (Or.inr ⟨by rfl, rfl⟩) ?_ ?_
        rotate_left
        ·
         simp only [Act.put, List.setIfInBounds_toArray, List.set_cons_zero, List.set_cons_succ, i64_w, i32_w]
         rfl
        refine pure_ (i := 22) (N := some 123) (v := undef) (a' := ?_) (bs_asts 53 8388607) rfl rfl (any_of HT_.out (by kernel_rfl)) (fun _ _ _ h => h) (Or.inr ⟨by rfl, rfl⟩) ?_ ?_
        rotate_left
        ·
         simp only [Act.put, List.setIfInBounds_toArray, List.set_cons_zero, List.set_cons_succ, i64_w, i32_w]
         rfl
        refine pure_ (i := 23) (N := some 124) (v := undef) (a' := ?_) (bs_asts 53 16777215) rfl rfl (any_of HT_.out (by kernel_rfl)) (fun _ _ _ h => h) (Or.inr ⟨by rfl, rfl⟩) ?_ ?_
        rotate_left
        ·
         simp only [Act.put, List.setIfInBounds_toArray, List.set_cons_zero, List.set_cons_succ, i64_w, i32_w]
         rfl
        refine pure_ (i := 24) (N := some 125) (v := undef) (a' := ?_) (bs_asts 53 33554431) rfl rfl (any_of HT_.out (by kernel_rfl)) (fun _ _ _ h => h) (Or.inr ⟨by rfl, rfl⟩) ?_ ?_
        rotate_left
        ·
         simp only [Act.put, List.setIfInBounds_toArray, List.set_cons_zero, List.set_cons_succ, i64_w, i32_w]
         rfl
        refine pure_ (i := 25) (N := some 126) (v := undef) (a' := ?_) (bs_asts 53 67108863) rfl rfl (any_of HT_.out (by kernel_rfl)) (fun _ _ _ h => h) (Or.inr ⟨by rfl, rfl⟩) ?_ ?_
        rotate_left
        ·
         simp only [Act.put, List.setIfInBounds_toArray, List.set_cons_zero, List.set_cons_succ, i64_w, i32_w]
         rfl
        refine pure_ (i := 26) (N := some 127) (v := undef) (a' := ?_) (bs_asts 53 134217727) rfl rfl (any_of HT_.out (by kernel_rfl)) (fun _ _ _ h => h) (Or.inr ⟨by rfl, rfl⟩) ?_ ?_
        rotate_left
        ·
         simp only [Act.put, List.setIfInBounds_toArray, List.set_cons_zero, List.set_cons_succ, i64_w, i32_w]
         rfl
        refine pure_ (i := 27) (N := some 128) (v := undef) (a' := ?_) (bs_asts 53 268435455) rfl rfl (any_of HT_.out (by kernel_rfl)) (fun _ _ _ h => h) (Or.inr ⟨by rfl, rfl⟩) ?_ ?_
        rotate_left
        ·
         simp only [Act.put, List.setIfInBounds_toArray, List.set_cons_zero, List.set_cons_succ, i64_w, i32_w]
         rfl
        refine pure_ (i := 28) (N := some 129) (v := undef) (a' := ?_) (bs_asts 53 536870911) rfl rfl (any_of HT_.out (by kernel_rfl)) (fun _ _ _ h => h) (Or.inr ⟨by rfl, rfl⟩) ?_ ?_
        rotate_left
        ·
         simp only [Act.put, List.setIfInBounds_toArray, List.set_cons_zero, List.set_cons_succ, i64_w, i32_w]
         rfl
        refine pure_ (i := 29) (N := some 130) (v := undef) (a' := ?_) (bs_asts 53 1073741823) rfl rfl (any_of HT_.out (by kernel_rfl)) (fun _ _ _ h => h) (Or.inr ⟨by rfl, rfl⟩) ?_ ?_
        rotate_left
        ·
         simp only [Act.put, List.setIfInBounds_toArray, List.set_cons_zero, List.set_cons_succ, i64_w, i32_w]
         rfl
        refine pure_ (i := 30) (N := some 131) (v := undef) (a' := ?_) (bs_asts 53 2147483647) rfl rfl (any_of HT_.out (by kernel_rfl)) (fun _ _ _ h => h) (Or.inr ⟨by rfl, rfl⟩) ?_ ?_
        rotate_left
        ·
         simp only [Act.put, List.setIfInBounds_toArray, List.set_cons_zero, List.set_cons_succ, i64_w, i32_w]
         rfl
        refine pure_ (i := 31) (N := some 132) (v := undef) (a' := ?_) (bs_asts 53 4294967295) rfl rfl (any_of HT_.out (by kernel_rfl)) (fun _ _ _ h => h) (Or.inr ⟨by rfl, rfl⟩) ?_ ?_
        rotate_left
        ·
         simp only [Act.put, List.setIfInBounds_toArray, List.set_cons_zero, List.set_cons_succ, i64_w, i32_w]
         rfl
        refine pure_ (i := 32) (N := some 133) (v := undef) (a' := ?_) (bs_asts 53 8589934591) rfl rfl (any_of HT_.out (by kernel_rfl)) (fun _ _ _ h => h) (Or.inr ⟨by rfl, rfl⟩) ?_ ?_
        rotate_left
        ·
         simp only [Act.put, List.setIfInBounds_toArray, List.set_cons_zero, List.set_cons_succ, i64_w, i32_w]
         rfl
        refine pure_ (i := 33) (N := some 134) (v := undef) (a' := ?_) (bs_asts 53 17179869183) rfl rfl (any_of HT_.out (by kernel_rfl)) (fun _ _ _ h => h) (Or.inr ⟨by rfl, rfl⟩) ?_ ?_
        rotate_left
        ·
         simp only [Act.put, List.setIfInBounds_toArray, List.set_cons_zero, List.set_cons_succ, i64_w, i32_w]
         rfl
        refine pure_ (i := 34) (N := some 135) (v := undef) (a' := ?_) (bs_asts 53 34359738367) rfl rfl (any_of HT_.out (by kernel_rfl)) (fun _ _ _ h => h) (Or.inr ⟨by rfl, rfl⟩) ?_ ?_
        rotate_left
        ·
         simp only [Act.put, List.setIfInBounds_toArray, List.set_cons_zero, List.set_cons_succ, i64_w, i32_w]
         rfl
        refine pure_ (i := 35) (N := some 136) (v := undef) (a' := ?_) (bs_asts 53 68719476735) rfl rfl (any_of HT_.out (by kernel_rfl)) (fun _ _ _ h => h) (Or.inr ⟨by rfl, rfl⟩) ?_ ?_
        rotate_left
        ·
         simp only [Act.put, List.setIfInBounds_toArray, List.set_cons_zero, List.set_cons_succ, i64_w, i32_w]
         rfl
        refine pure_ (i := 36) (N := some 137) (v := undef) (a' := ?_) (bs_asts 53 137438953471) rfl rfl (any_of HT_.out (by kernel_rfl)) (fun _ _ _ h => h) (Or.inr ⟨by rfl, rfl⟩) ?_ ?_
        rotate_left
        ·
         simp only [Act.put, List.setIfInBounds_toArray, List.set_cons_zero, List.set_cons_succ, i64_w, i32_w]
         rfl
        refine pure_ (i := 37) (N := some 138) (v := ?_) (a' := ?_) (bs_asts 53 274877906943) rfl rfl (any_of HT_.out (by kernel_rfl)) (fun _ _ _ h => h) (Or.inl ⟨by rfl, ?_⟩) ?_ ?_
        rotate_left
        ·
         intro w'
         go_simp
         with_reducible rfl
        rotate_left
        ·
         simp only [Act.put, List.setIfInBounds_toArray, List.set_cons_zero, List.set_cons_succ, i64_w, i32_w]
         rfl
        refine pure_ (i := 38) (N := some 139) (v := ?_) (a' := ?_) (bs_asts 53 549755813887) rfl rfl (any_of HT_.out (by kernel_rfl)) (fun _ _ _ h => h) (Or.inl ⟨by rfl, ?_⟩) ?_ ?_
        rotate_left
        ·
         intro w'
         go_simp
         with_reducible rfl
        rotate_left
        ·
         simp only [Act.put, List.setIfInBounds_toArray, List.set_cons_zero, List.set_cons_succ, i64_w, i32_w]
         rfl
        refine pure_ (i := 39) (N := some 140) (v := undef) (a' := ?_) (bs_asts 53 1099511627775) rfl rfl (any_of HT_.out (by kernel_rfl)) (fun _ _ _ h => h) (Or.inr ⟨by rfl, rfl⟩) ?_ ?_
        rotate_left
        ·
         simp only [Act.put, List.setIfInBounds_toArray, List.set_cons_zero, List.set_cons_succ, i64_w, i32_w]
         rfl
        refine pure_ (i := 40) (N := some 141) (v := undef) (a' := ?_) (bs_asts 53 2199023255551) rfl rfl (any_of HT_.out (by kernel_rfl)) (fun _ _ _ h => h) (Or.inr ⟨by rfl, rfl⟩) ?_ ?_
        rotate_left
        ·
         simp only [Act.put, List.setIfInBounds_toArray, List.set_cons_zero, List.set_cons_succ, i64_w, i32_w]
         rfl
        refine pure_ (i := 41) (N := some 142) (v := undef) (a' := ?_) (bs_asts 53 4398046511103) rfl rfl (any_of HT_.out (by kernel_rfl)) (fun _ _ _ h => h) (Or.inr ⟨by rfl, rfl⟩) ?_ ?_
        rotate_left
        ·
         simp only [Act.put, List.setIfInBounds_toArray, List.set_cons_zero, List.set_cons_succ, i64_w, i32_w]
         rfl
        refine pure_ (i := 42) (N := some 143) (v := undef) (a' := ?_) (bs_asts 53 8796093022207) rfl rfl (any_of HT_.out (by kernel_rfl)) (fun _ _ _ h => h) (Or.inr ⟨by rfl, rfl⟩) ?_ ?_
        rotate_left
        ·
         simp only [Act.put, List.setIfInBounds_toArray, List.set_cons_zero, List.set_cons_succ, i64_w, i32_w]
         rfl
        refine pure_ (i := 43) (N := some 144) (v := undef) (a' := ?_) (bs_asts 53 17592186044415) rfl rfl (any_of HT_.out (by kernel_rfl)) (fun _ _ _ h => h) (Or.inr ⟨by rfl, rfl⟩) ?_ ?_
        rotate_left
        ·
         simp only [Act.put, List.setIfInBounds_toArray, List.set_cons_zero, List.set_cons_succ, i64_w, i32_w]
         rfl
        refine pure_ (i := 44) (N := some 145) (v := undef) (a' := ?_) (bs_asts 53 35184372088831) rfl rfl (any_of HT_.out (by kernel_rfl)) (fun _ _ _ h => h) (Or.inr ⟨by rfl, rfl⟩) ?_ ?_
        rotate_left
        ·
         simp only [Act.put, List.setIfInBounds_toArray, List.set_cons_zero, List.set_cons_succ, i64_w, i32_w]
         rfl
        refine pure_ (i := 45) (N := some 146) (v := undef) (a' := ?_) (bs_asts 53 70368744177663) rfl rfl (any_of HT_.out (by kernel_rfl)) (fun _ _ _ h => h) (Or.inr ⟨by rfl, rfl⟩) ?_ ?_
        rotate_left
        ·
         simp only [Act.put, List.setIfInBounds_toArray, List.set_cons_zero, List.set_cons_succ, i64_w, i32_w]
         rfl
        refine pure_ (i := 46) (N := some 147) (v := undef) (a' := ?_) (bs_asts 53 140737488355327) rfl rfl (any_of HT_.out (by kernel_rfl)) (fun _ _ _ h => h) (Or.inr ⟨by rfl, rfl⟩) ?_ ?_
        rotate_left
        ·
         simp only [Act.put, List.setIfInBounds_toArray, List.set_cons_zero, List.set_cons_succ, i64_w, i32_w]
         rfl
        refine pure_ (i := 47) (N := some 148) (v := undef) (a' := ?_) (bs_asts 53 281474976710655) rfl rfl (any_of HT_.out (by kernel_rfl)) (fun _ _ _ h => h) (Or.inr ⟨by rfl, rfl⟩) ?_ ?_
        rotate_left
        ·
         simp only [Act.put, List.setIfInBounds_toArray, List.set_cons_zero, List.set_cons_succ, i64_w, i32_w]
         rfl
        refine pure_ (i := 48) (N := some 149) (v := undef) (a' := ?_) (bs_asts 53 562949953421311) rfl rfl (any_of HT_.out (by kernel_rfl)) (fun _ _ _ h => h) (Or.inr ⟨by rfl, rfl⟩) ?_ ?_
        rotate_left
        ·
         simp only [Act.put, List.setIfInBounds_toArray, List.set_cons_zero, List.set_cons_succ, i64_w, i32_w]
         rfl
        refine pure_ (i := 49) (N := some 150) (v := undef) (a' := ?_) (bs_asts 53 1125899906842623) rfl rfl (any_of HT_.out (by kernel_rfl)) (fun _ _ _ h => h) (Or.inr ⟨by rfl, rfl⟩) ?_ ?_
        rotate_left
        ·
         simp only [Act.put, List.setIfInBounds_toArray, List.set_cons_zero, List.set_cons_succ, i64_w, i32_w]
         rfl
        refine pure_ (i := 50) (N := some 151) (v := undef) (a' := ?_) (bs_asts 53 2251799813685247) rfl rfl (any_of HT_.out (by kernel_rfl)) (fun _ _ _ h => h) (Or.inr ⟨by rfl, rfl⟩) ?_ ?_
        rotate_left
        ·
         simp only [Act.put, List.setIfInBounds_toArray, List.set_cons_zero, List.set_cons_succ, i64_w, i32_w]
         rfl
        refine pure_ (i := 51) (N := some 152) (v := undef) (a' := ?_) (bs_asts 53 4503599627370495) rfl rfl (any_of HT_.out (by kernel_rfl)) (fun _ _ _ h => h) (Or.inr ⟨by rfl, rfl⟩) ?_ ?_
        rotate_left
        ·
         simp only [Act.put, List.setIfInBounds_toArray, List.set_cons_zero, List.set_cons_succ, i64_w, i32_w]
         rfl
        refine pure_ (i := 52) (N := some 153) (v := ?_) (a' := ?_) (bs_asts 53 9007199254740991) rfl rfl (any_of HT_.out (by kernel_rfl)) (fun _ _ _ h => h) (Or.inl ⟨by rfl, ?_⟩) ?_ ?_
        rotate_left
        ·
         intro w'
         go_simp
         with_reducible rfl
        rotate_left
        ·
         simp only [Act.put, List.setIfInBounds_toArray, List.set_cons_zero, List.set_cons_succ, i64_w, i32_w]
         rfl
        refine done_ (done_of HT_.out (by kernel_rfl)) ?_
        try go_wp2
        go_ret
        exact ⟨by first | rfl | (simp [errW_none, errW_some] <;> rfl) | (simp [*, errW_none, errW_some] <;> rfl), by repeat (first | (with_reducible first | exact HB.out | apply below_alloc | apply pw_below_drewN | apply below_drew1) | exact HB.out)⟩
       rw [if_neg c44] at H
       have c44b0 : decide ((t389.length : Int) ≤ x12_6) = false := decide_eq_false c44
       clear c44
       by_cases c46 : 0 ≤ x14_6
       rotate_left
       ·
        rw [if_neg c46] at H
        exact absurd H (by simp)
       rw [if_pos c46] at H
       have c46b0 : decide (0 ≤ x14_6) = true := decide_eq_true c46
       clear c46
       by_cases c47 : 0 ≤ x12_6
       rotate_left
       ·
        rw [if_neg c47] at H
        exact absurd H (by simp)
       rw [if_pos c47] at H
       have c47b0 : decide (0 ≤ x12_6) = true := decide_eq_true c47
       clear c47
       by_cases c48 : x12_6 < (t389.length : Int)
       rotate_left
       ·
        rw [if_neg c48] at H
        exact absurd H (by simp)
       rw [if_pos c48] at H
       have c48b0 : decide (x12_6 < (t389.length : Int)) = true := decide_eq_true c48
       clear c48
       by_cases c49 : ((rd_T25 (rd_L12 t398 x13_5) x14_6).f0) = ((rd_T25 t389 x12_6).f0)
       rotate_left
       ·
        rw [if_neg c49] at H
        have c49b0 : (((rd_T25 (rd_L12 t398 x13_5) x14_6).f0) == ((rd_T25 t389 x12_6).f0)) = false := beq_eq_false_iff_ne.mpr c49
        have c49b1 : (((rd_T25 (rd_L12 t398 x13_5) x14_6).f0) != ((rd_T25 t389 x12_6).f0)) = true := bne_iff_ne.mpr c49
        obtain rfl := Option.some.inj H
        have p403 : 0 ≤ (x13_5 : Int) := of_decide_eq_true (by first | (with_reducible assumption) | assumption)
        have q403 : x13_5 < (t398.length : Int) := of_decide_eq_true (by first | (with_reducible assumption) | assumption)
        obtain ⟨ad403, A403_0, c403_0, e403, hx403_0, hl403_0, hi403_0⟩ := at_L12 (Kd.N_reads' HO_10.out).2.2 x13_5 p403 q403
        cases e403
        obtain ⟨ce403, hce403, hMe403, hcc403⟩ := Kd.N_get HO_10.out [] x13_5 p403 (by first | exact q403 | exact of_decide_eq_true (by first | (with_reducible assumption) | assumption) | (have e_ := (Kd.N_reads' HO_10.out).1; omega))
        obtain ⟨ua403_0, uc403_0, rfl, ul403_0, ge403_0⟩ := Kd.FK_slice_open hMe403
        have hv403_0 := hcc403 0 _ rfl
        rw [Nat.add_zero, show ((Kd.slice 25 k25)).sz = 1 from rfl, Nat.mul_one] at hv403_0
        replace hv403_0 := Option.some.inj (hv403_0.symm.trans hx403_0)
        injection hv403_0 with hva_ hvn_ hvc_
        rw [hva_] at ge403_0
        rw [hvc_] at ul403_0
        have HL403_0 := Aside0.mk (show Kd.V k25 25 _ w.heap.size _ _ (rd_L12 t398 x13_5) from Kd.V_mk ul403_0 ge403_0)
        clear hva_ hvn_ hvc_ ge403_0 ul403_0
        clear hcc403 hce403
        have HR403_0 := Aside0.mk hi403_0
        have HC403_0 := Aside0.mk hl403_0
        clear hi403_0 hl403_0
        replace p403 := eq_true p403
        replace q403 := eq_true q403
        try go_wp2
        have n0_ := Aside0.mk (Kd.N_drew HO_6.out)
        have n1_ := Aside0.mk (Kd.N_drew HO_10.out)
        have n2_ := Aside0.mk (Kd.V_drew HL403_0.out)
        have n3_ := Aside0.mk (Kd.C_drew HR403_0.out)
        have n4_ := Aside0.mk (below_drew1 HB.out)
        clear HO_6
        clear HO_10
        clear HL403_0
        clear HR403_0
        clear HB
        have HO_6 := n0_
        have HO_10 := n1_
        have HL403_0 := n2_
        have HR403_0 := n3_
        have HB := n4_
        clear n0_ n1_ n2_ n3_ n4_
        have p404 : 0 ≤ (x13_5 : Int) := of_decide_eq_true (by first | (with_reducible assumption) | assumption)
        have q404 : x13_5 < (t398.length : Int) := of_decide_eq_true (by first | (with_reducible assumption) | assumption)
        obtain ⟨ad404, A404_0, c404_0, e404, hx404_0, hl404_0, hi404_0⟩ := at_L12 (Kd.N_reads' HO_10.out).2.2 x13_5 p404 q404
        obtain rfl : ad403 = ad404 := (by injection e404)
        obtain ⟨ce404, hce404, hMe404, hcc404⟩ := Kd.N_get HO_10.out [] x13_5 p404 (by first | exact q404 | exact of_decide_eq_true (by first | (with_reducible assumption) | assumption) | (have e_ := (Kd.N_reads' HO_10.out).1; omega))
        obtain ⟨ua404_0, uc404_0, rfl, ul404_0, ge404_0⟩ := Kd.FK_slice_open hMe404
        have hv404_0 := hcc404 0 _ rfl
        rw [Nat.add_zero, show ((Kd.slice 25 k25)).sz = 1 from rfl, Nat.mul_one] at hv404_0
        replace hv404_0 := Option.some.inj (hv404_0.symm.trans hx404_0)
        injection hv404_0 with hva_ hvn_ hvc_
        rw [hva_] at ge404_0
        rw [hvc_] at ul404_0
        have HL404_0 := Aside0.mk (show Kd.V k25 25 _ w.heap.size _ _ (rd_L12 t398 x13_5) from Kd.V_mk ul404_0 ge404_0)
        clear hva_ hvn_ hvc_ ge404_0 ul404_0
        clear hcc404 hce404
        have HR404_0 := Aside0.mk hi404_0
        have HC404_0 := Aside0.mk hl404_0
        clear hi404_0 hl404_0
        replace p404 := eq_true p404
        replace q404 := eq_true q404
        have p405 : 0 ≤ (x14_6 : Int) := of_decide_eq_true (by first | (with_reducible assumption) | assumption)
        have q405 : x14_6 < ((rd_L12 t398 x13_5).length : Int) := of_decide_eq_true (by first | (with_reducible assumption) | assumption)
        obtain ⟨ad405, A405_1, c405_1, e405, hx405_0, hx405_1, hl405_1, hi405_1⟩ := at_T25 (by repeat (first | (with_reducible exact HR404_0.out) | (with_reducible refine Kd.C_alloc ?_ _) | (with_reducible refine Kd.C_drewN ?_ _) | (with_reducible refine Kd.C_drew ?_) | exact HR404_0.out)) x14_6 p405 q405
        cases e405
        obtain ⟨ce405, hce405, hMe405, hcc405⟩ := Kd.V_get HL404_0.out z25 x14_6 p405 (by first | exact q405 | exact of_decide_eq_true (by first | (with_reducible assumption) | assumption) | (have e_ := (Kd.V_reads' HL404_0.out).1; omega))
        obtain ⟨ua405_1, uc405_1, rfl, ul405_1, ge405_1⟩ := k25_openF hMe405
        have hv405_1 := hcc405 1 _ rfl
        rw [add_field _ _ 1 (by omega)] at hv405_1
        replace hv405_1 := Option.some.inj (hv405_1.symm.trans hx405_1)
        injection hv405_1 with hva_ hvn_ hvc_
        rw [hva_] at ge405_1
        rw [hvc_] at ul405_1
        have HL405_1 := Aside0.mk (show Kd.V (Kd.int .u8) 5 _ w.heap.size _ _ ((rd_T25 (rd_L12 t398 x13_5) x14_6).f1) from Kd.V_mk ul405_1 ge405_1)
        clear hva_ hvn_ hvc_ ge405_1 ul405_1
        clear hcc405 hce405
        have HR405_1 := Aside0.mk hi405_1
        have HC405_1 := Aside0.mk hl405_1
        clear hi405_1 hl405_1
        replace p405 := eq_true p405
        replace q405 := eq_true q405
        have p406 : 0 ≤ (x12_6 : Int) := of_decide_eq_true (by first | (with_reducible assumption) | assumption)
        have q406 : x12_6 < (t389.length : Int) := of_decide_eq_true (by first | (with_reducible assumption) | assumption)
        obtain ⟨ad406, A406_1, c406_1, e406, hx406_0, hx406_1, hl406_1, hi406_1⟩ := at_T25 (Kd.N_reads' HO_6.out).2.2 x12_6 p406 q406
        cases e406
        obtain ⟨ce406, hce406, hMe406, hcc406⟩ := Kd.N_get HO_6.out z25 x12_6 p406 (by first | exact q406 | exact of_decide_eq_true (by first | (with_reducible assumption) | assumption) | (have e_ := (Kd.N_reads' HO_6.out).1; omega))
        obtain ⟨ua406_1, uc406_1, rfl, ul406_1, ge406_1⟩ := k25_openF hMe406
        have hv406_1 := hcc406 1 _ rfl
        rw [add_field _ _ 1 (by omega)] at hv406_1
        replace hv406_1 := Option.some.inj (hv406_1.symm.trans hx406_1)
        injection hv406_1 with hva_ hvn_ hvc_
        rw [hva_] at ge406_1
        rw [hvc_] at ul406_1
        have HL406_1 := Aside0.mk (show Kd.V (Kd.int .u8) 5 _ w.heap.size _ _ ((rd_T25 t389 x12_6).f1) from Kd.V_mk ul406_1 ge406_1)
        clear hva_ hvn_ hvc_ ge406_1 ul406_1
        clear hcc406 hce406
        have HR406_1 := Aside0.mk hi406_1
        have HC406_1 := Aside0.mk hl406_1
        clear hi406_1 hl406_1
        replace p406 := eq_true p406
        replace q406 := eq_true q406
        refine start_ (n := 53) (S := fun w' => w'.cell? (ad403.add (x13_5).toNat) = some (.slice (some ad405) (rd_L12 t398 x13_5).length c404_0) ∧ w'.cell? (ad405.add ((x14_6).toNat * 2)) = some (.int .u64 ((rd_T25 (rd_L12 t398 x13_5) x14_6).f0)) ∧ w'.cell? ⟨(ad405.add ((x14_6).toNat * 2)).block, (ad405.add ((x14_6).toNat * 2)).off + 1, none⟩ = some (.slice A405_1 ((rd_T25 (rd_L12 t398 x13_5) x14_6).f1).length c405_1) ∧ w'.cell? (ad406.add ((x12_6).toNat * 2)) = some (.int .u64 ((rd_T25 t389 x12_6).f0)) ∧ w'.cell? ⟨(ad406.add ((x12_6).toNat * 2)).block, (ad406.add ((x12_6).toNat * 2)).off + 1, none⟩ = some (.slice A406_1 ((rd_T25 t389 x12_6).f1).length c406_1)) (ds := []) (bs_asts 53 0) (by kernel_rfl) rfl rfl ⟨hx404_0, hx405_0, hx405_1, hx406_0, hx406_1⟩ (fun hHeld => ?_); refine with_tabW reliquarylaw12_RecordLasts.tab27 reliquarylaw12_RecordLasts.bits27 (fun HT_ HW_ => ?_)
        generalize wr.drew = w65 at HO_6 HO_10 HL403_0 HR403_0 HB HL404_0 HL405_1 HL406_1 HR404_0 HR405_1 HR406_1 hx404_0 hx405_0 hx405_1 hx406_0 hx406_1 hHeld ⊢
        refine pure_ (i := 0) (N := some 101) (v := ?_) (a' := ?_) (bs_asts 53 1) rfl rfl (any_of HT_.out (by kernel_rfl)) (fun _ _ _ h => h) (Or.inl ⟨by rfl, ?_⟩) ?_ ?_
        rotate_left
        ·
         intro w'
         go_simp
         with_reducible rfl
        rotate_left
        ·
         simp only [Act.put, List.setIfInBounds_toArray, List.set_cons_zero, List.set_cons_succ, i64_w, i32_w]
         rfl
        refine pure_ (i := 1) (N := some 102) (v := ?_) (a' := ?_) (bs_asts 53 3) rfl rfl (any_of HT_.out (by kernel_rfl)) (fun _ _ _ h => h) (Or.inl ⟨by rfl, ?_⟩) ?_ ?_
        rotate_left
        ·
         intro w'
         go_simp
         with_reducible rfl
        rotate_left
        ·
         simp only [Act.put, List.setIfInBounds_toArray, List.set_cons_zero, List.set_cons_succ, i64_w, i32_w]
         rfl
        refine pure_ (i := 2) (N := some 103) (v := ?_) (a' := ?_) (bs_asts 53 7) rfl rfl (any_of HT_.out (by kernel_rfl)) (fun _ _ _ h => h) (Or.inl ⟨by rfl, ?_⟩) ?_ ?_
        rotate_left
        ·
         intro w'
         go_simp
         with_reducible rfl
        rotate_left
        ·
         simp only [Act.put, List.setIfInBounds_toArray, List.set_cons_zero, List.set_cons_succ, i64_w, i32_w]
         rfl
        refine pure_ (i := 3) (N := some 104) (v := ?_) (a' := ?_) (bs_asts 53 15) rfl rfl (any_of HT_.out (by kernel_rfl)) (fun _ _ _ h => h) (Or.inl ⟨by rfl, ?_⟩) ?_ ?_
        rotate_left
        ·
         intro w'
         go_simp
         with_reducible rfl
        rotate_left
        ·
         simp only [Act.put, List.setIfInBounds_toArray, List.set_cons_zero, List.set_cons_succ, i64_w, i32_w]
         rfl
        refine pure_ (i := 4) (N := some 105) (v := ?_) (a' := ?_) (bs_asts 53 31) rfl rfl (any_of HT_.out (by kernel_rfl)) (fun _ _ _ h => h) (Or.inl ⟨by rfl, ?_⟩) ?_ ?_
        rotate_left
        ·
         intro w'
         go_simp
         with_reducible rfl
        rotate_left
        ·
         simp only [Act.put, List.setIfInBounds_toArray, List.set_cons_zero, List.set_cons_succ, i64_w, i32_w]
         rfl
        refine pure_ (i := 5) (N := some 106) (v := ?_) (a' := ?_) (bs_asts 53 63) rfl rfl (any_of HT_.out (by kernel_rfl)) (fun _ _ _ h => h) (Or.inl ⟨by rfl, ?_⟩) ?_ ?_
        rotate_left
        ·
         intro w'
         go_simp
         with_reducible rfl
        rotate_left
        ·
         simp only [Act.put, List.setIfInBounds_toArray, List.set_cons_zero, List.set_cons_succ, i64_w, i32_w]
         rfl
        refine pure_ (i := 6) (N := some 107) (v := ?_) (a' := ?_) (bs_asts 53 127) rfl rfl (any_of HT_.out (by kernel_rfl)) (fun _ _ _ h => h) (Or.inl ⟨by rfl, ?_⟩) ?_ ?_
        rotate_left
        ·
         intro w'
         go_simp
         with_reducible rfl
        rotate_left
        ·
         simp only [Act.put, List.setIfInBounds_toArray, List.set_cons_zero, List.set_cons_succ, i64_w, i32_w]
         rfl
        refine pure_ (i := 7) (N := some 108) (v := ?_) (a' := ?_) (bs_asts 53 255) rfl rfl (any_of HT_.out (by kernel_rfl)) (fun _ _ _ h => h) (Or.inl ⟨by rfl, ?_⟩) ?_ ?_
        rotate_left
        ·
         intro w'
         go_simp
         with_reducible rfl
        rotate_left
        ·
         simp only [Act.put, List.setIfInBounds_toArray, List.set_cons_zero, List.set_cons_succ, i64_w, i32_w]
         rfl
        refine pure_ (i := 9) (N := some 110) (v := ?_) (a' := ?_) (bs_asts 53 767) rfl rfl (any_of HT_.out (by kernel_rfl)) (fun _ _ _ h => h) (Or.inl ⟨by rfl, ?_⟩) ?_ ?_
        rotate_left
        ·
         intro w'
         go_simp
         with_reducible rfl
        rotate_left
        ·
         simp only [Act.put, List.setIfInBounds_toArray, List.set_cons_zero, List.set_cons_succ, i64_w, i32_w]
         rfl
        refine pure_ (i := 13) (N := some 114) (v := ?_) (a' := ?_) (bs_asts 53 8959) rfl rfl (any_of HT_.out (by kernel_rfl)) (fun _ _ _ h => h) (Or.inl ⟨by rfl, ?_⟩) ?_ ?_
        rotate_left
        ·
         intro w'
         go_simp
         with_reducible rfl
        rotate_left
        ·
         simp only [Act.put, List.setIfInBounds_toArray, List.set_cons_zero, List.set_cons_succ, i64_w, i32_w]
         rfl
        refine pure_ (i := 14) (N := some 115) (v := ?_) (a' := ?_) (bs_asts 53 25343) rfl rfl (any_of HT_.out (by kernel_rfl)) (fun _ _ _ h => h) (Or.inl ⟨by rfl, ?_⟩) ?_ ?_
        rotate_left
        ·
         intro w'
         go_simp
         with_reducible rfl
        rotate_left
        ·
         simp only [Act.put, List.setIfInBounds_toArray, List.set_cons_zero, List.set_cons_succ, i64_w, i32_w]
         rfl
        refine pure_ (i := 15) (N := some 116) (v := ?_) (a' := ?_) (bs_asts 53 58111) rfl rfl (any_of HT_.out (by kernel_rfl)) (fun _ _ _ h => h) (Or.inl ⟨by rfl, ?_⟩) ?_ ?_
        rotate_left
        ·
         intro w'
         go_simp
         with_reducible rfl
        rotate_left
        ·
         simp only [Act.put, List.setIfInBounds_toArray, List.set_cons_zero, List.set_cons_succ, i64_w, i32_w]
         rfl
        refine pure_ (i := 16) (N := some 117) (v := ?_) (a' := ?_) (bs_asts 53 123647) rfl rfl (any_of HT_.out (by kernel_rfl)) (fun _ _ _ h => h) (Or.inl ⟨by rfl, ?_⟩) ?_ ?_
        rotate_left
        ·
         intro w'
         go_simp
         with_reducible rfl
        rotate_left
        ·
         simp only [Act.put, List.setIfInBounds_toArray, List.set_cons_zero, List.set_cons_succ, i64_w, i32_w]
         rfl
        refine take_ (i := 8) (N := some 109) (v := ?_) (a' := ?_) (bs_asts 53 123903) rfl rfl (take_ofW HT_.out HW_.out (by kernel_rfl)) (fun _ _ _ h => h) (Or.inl ⟨by rfl, ?_⟩) hHeld ?_ ?_
        rotate_left
        ·
         rintro w' ⟨s0, s1, s2, s3, s4⟩
         go_simp
         with_reducible rfl
        rotate_left
        ·
         simp only [Act.put, List.setIfInBounds_toArray, List.set_cons_zero, List.set_cons_succ, i64_w, i32_w]
         rfl
        refine pure_ (i := 10) (N := some 111) (v := ?_) (a' := ?_) (bs_asts 53 124927) rfl rfl (any_of HT_.out (by kernel_rfl)) (fun _ _ _ h => h) (Or.inl ⟨by rfl, ?_⟩) ?_ ?_
        rotate_left
        ·
         intro w'
         go_simp
         with_reducible rfl
        rotate_left
        ·
         simp only [Act.put, List.setIfInBounds_toArray, List.set_cons_zero, List.set_cons_succ, i64_w, i32_w]
         rfl
        refine pure_ (i := 11) (N := some 112) (v := ?_) (a' := ?_) (bs_asts 53 126975) rfl rfl (any_of HT_.out (by kernel_rfl)) (fun _ _ _ h => h) (Or.inl ⟨by rfl, ?_⟩) ?_ ?_
        rotate_left
        ·
         intro w'
         go_simp
         with_reducible rfl
        rotate_left
        ·
         simp only [Act.put, List.setIfInBounds_toArray, List.set_cons_zero, List.set_cons_succ, i64_w, i32_w]
         rfl
        refine take_ (i := 12) (N := some 113) (v := ?_) (a' := ?_) (bs_asts 53 131071) rfl rfl (take_ofW HT_.out HW_.out (by kernel_rfl)) (fun _ _ _ h => h) (Or.inl ⟨by rfl, ?_⟩) hHeld ?_ ?_
        rotate_left
        ·
         rintro w' ⟨s0, s1, s2, s3, s4⟩
         go_simp
         with_reducible rfl
        rotate_left
        ·
         simp only [Act.put, List.setIfInBounds_toArray, List.set_cons_zero, List.set_cons_succ, i64_w, i32_w]
         rfl
        refine take_ (i := 17) (N := some 118) (v := ?_) (a' := ?_) (bs_asts 53 262143) rfl rfl (take_ofW HT_.out HW_.out (by kernel_rfl)) (fun _ _ _ h => h) (Or.inl ⟨by rfl, ?_⟩) hHeld ?_ ?_
        rotate_left
        ·
         rintro w' ⟨s0, s1, s2, s3, s4⟩
         go_simp
         with_reducible rfl
        rotate_left
        ·
         simp only [Act.put, List.setIfInBounds_toArray, List.set_cons_zero, List.set_cons_succ, i64_w, i32_w]
         rfl
        refine pure_ (i := 18) (N := some 119) (v := ?_) (a' := ?_) (bs_asts 53 524287) rfl rfl (any_of HT_.out (by kernel_rfl)) (fun _ _ _ h => h) (Or.inl ⟨by rfl, ?_⟩) ?_ ?_
        rotate_left
        ·
         intro w'
         go_simp
         with_reducible rfl
        rotate_left
        ·
         simp only [Act.put, List.setIfInBounds_toArray, List.set_cons_zero, List.set_cons_succ, i64_w, i32_w]
         rfl
        refine pure_ (i := 19) (N := some 120) (v := ?_) (a' := ?_) (bs_asts 53 1048575) rfl rfl (any_of HT_.out (by kernel_rfl)) (fun _ _ _ h => h) (Or.inl ⟨by rfl, ?_⟩) ?_ ?_
        rotate_left
        ·
         intro w'
         go_simp
         with_reducible rfl
        rotate_left
        ·
         simp only [Act.put, List.setIfInBounds_toArray, List.set_cons_zero, List.set_cons_succ, i64_w, i32_w]
         rfl
        refine pure_ (i := 20) (N := some 121) (v := ?_) (a' := ?_) (bs_asts 53 2097151) rfl rfl (any_of HT_.out (by kernel_rfl)) (fun _ _ _ h => h) (Or.inl ⟨by rfl, ?_⟩) ?_ ?_
        rotate_left
        ·
         intro w'
         go_simp
         with_reducible rfl
        rotate_left
        ·
         simp only [Act.put, List.setIfInBounds_toArray, List.set_cons_zero, List.set_cons_succ, i64_w, i32_w]
         rfl
        refine pure_ (i := 21) (N := some 122) (v := undef) (a' := ?_) (bs_asts 53 4194303) rfl rfl (any_of HT_.out (by kernel_rfl)) (fun _ _ _ h => h) (Or.inr ⟨by rfl, rfl⟩) ?_ ?_
        rotate_left
        ·
         simp only [Act.put, List.setIfInBounds_toArray, List.set_cons_zero, List.set_cons_succ, i64_w, i32_w]
         rfl
        refine pure_ (i := 22) (N := some 123) (v := undef) (a' := ?_) (bs_asts 53 8388607) rfl rfl (any_of HT_.out (by kernel_rfl)) (fun _ _ _ h => h) (Or.inr ⟨by rfl, rfl⟩) ?_ ?_
        rotate_left
        ·
         simp only [Act.put, List.setIfInBounds_toArray, List.set_cons_zero, List.set_cons_succ, i64_w, i32_w]
         rfl
        refine pure_ (i := 23) (N := some 124) (v := undef) (a' := ?_) (bs_asts 53 16777215) rfl rfl (any_of HT_.out (by kernel_rfl)) (fun _ _ _ h => h) (Or.inr ⟨by rfl, rfl⟩) ?_ ?_
        rotate_left
        ·
         simp only [Act.put, List.setIfInBounds_toArray, List.set_cons_zero, List.set_cons_succ, i64_w, i32_w]
         rfl
        refine pure_ (i := 24) (N := some 125) (v := undef) (a' := ?_) (bs_asts 53 33554431) rfl rfl (any_of HT_.out (by kernel_rfl)) (fun _ _ _ h => h) (Or.inr ⟨by rfl, rfl⟩) ?_ ?_
        rotate_left
        ·
         simp only [Act.put, List.setIfInBounds_toArray, List.set_cons_zero, List.set_cons_succ, i64_w, i32_w]
         rfl
        refine pure_ (i := 25) (N := some 126) (v := undef) (a' := ?_) (bs_asts 53 67108863) rfl rfl (any_of HT_.out (by kernel_rfl)) (fun _ _ _ h => h) (Or.inr ⟨by rfl, rfl⟩) ?_ ?_
        rotate_left
        ·
         simp only [Act.put, List.setIfInBounds_toArray, List.set_cons_zero, List.set_cons_succ, i64_w, i32_w]
         rfl
        refine pure_ (i := 26) (N := some 127) (v := undef) (a' := ?_) (bs_asts 53 134217727) rfl rfl (any_of HT_.out (by kernel_rfl)) (fun _ _ _ h => h) (Or.inr ⟨by rfl, rfl⟩) ?_ ?_
        rotate_left
        ·
         simp only [Act.put, List.setIfInBounds_toArray, List.set_cons_zero, List.set_cons_succ, i64_w, i32_w]
         rfl
        refine pure_ (i := 27) (N := some 128) (v := undef) (a' := ?_) (bs_asts 53 268435455) rfl rfl (any_of HT_.out (by kernel_rfl)) (fun _ _ _ h => h) (Or.inr ⟨by rfl, rfl⟩) ?_ ?_
        rotate_left
        ·
         simp only [Act.put, List.setIfInBounds_toArray, List.set_cons_zero, List.set_cons_succ, i64_w, i32_w]
         rfl
        refine pure_ (i := 28) (N := some 129) (v := undef) (a' := ?_) (bs_asts 53 536870911) rfl rfl (any_of HT_.out (by kernel_rfl)) (fun _ _ _ h => h) (Or.inr ⟨by rfl, rfl⟩) ?_ ?_
        rotate_left
        ·
         simp only [Act.put, List.setIfInBounds_toArray, List.set_cons_zero, List.set_cons_succ, i64_w, i32_w]
         rfl
        refine pure_ (i := 29) (N := some 130) (v := undef) (a' := ?_) (bs_asts 53 1073741823) rfl rfl (any_of HT_.out (by kernel_rfl)) (fun _ _ _ h => h) (Or.inr ⟨by rfl, rfl⟩) ?_ ?_
        rotate_left
        ·
         simp only [Act.put, List.setIfInBounds_toArray, List.set_cons_zero, List.set_cons_succ, i64_w, i32_w]
         rfl
        refine pure_ (i := 30) (N := some 131) (v := undef) (a' := ?_) (bs_asts 53 2147483647) rfl rfl (any_of HT_.out (by kernel_rfl)) (fun _ _ _ h => h) (Or.inr ⟨by rfl, rfl⟩) ?_ ?_
        rotate_left
        ·
         simp only [Act.put, List.setIfInBounds_toArray, List.set_cons_zero, List.set_cons_succ, i64_w, i32_w]
         rfl
        refine pure_ (i := 31) (N := some 132) (v := undef) (a' := ?_) (bs_asts 53 4294967295) rfl rfl (any_of HT_.out (by kernel_rfl)) (fun _ _ _ h => h) (Or.inr ⟨by rfl, rfl⟩) ?_ ?_
        rotate_left
        ·
         simp only [Act.put, List.setIfInBounds_toArray, List.set_cons_zero, List.set_cons_succ, i64_w, i32_w]
         rfl
        refine pure_ (i := 32) (N := some 133) (v := undef) (a' := ?_) (bs_asts 53 8589934591) rfl rfl (any_of HT_.out (by kernel_rfl)) (fun _ _ _ h => h) (Or.inr ⟨by rfl, rfl⟩) ?_ ?_
        rotate_left
        ·
         simp only [Act.put, List.setIfInBounds_toArray, List.set_cons_zero, List.set_cons_succ, i64_w, i32_w]
         rfl
        refine pure_ (i := 33) (N := some 134) (v := undef) (a' := ?_) (bs_asts 53 17179869183) rfl rfl (any_of HT_.out (by kernel_rfl)) (fun _ _ _ h => h) (Or.inr ⟨by rfl, rfl⟩) ?_ ?_
        rotate_left
        ·
         simp only [Act.put, List.setIfInBounds_toArray, List.set_cons_zero, List.set_cons_succ, i64_w, i32_w]
         rfl
        refine pure_ (i := 34) (N := some 135) (v := undef) (a' := ?_) (bs_asts 53 34359738367) rfl rfl (any_of HT_.out (by kernel_rfl)) (fun _ _ _ h => h) (Or.inr ⟨by rfl, rfl⟩) ?_ ?_
        rotate_left
        ·
         simp only [Act.put, List.setIfInBounds_toArray, List.set_cons_zero, List.set_cons_succ, i64_w, i32_w]
         rfl
        refine pure_ (i := 35) (N := some 136) (v := undef) (a' := ?_) (bs_asts 53 68719476735) rfl rfl (any_of HT_.out (by kernel_rfl)) (fun _ _ _ h => h) (Or.inr ⟨by rfl, rfl⟩) ?_ ?_
        rotate_left
        ·
         simp only [Act.put, List.setIfInBounds_toArray, List.set_cons_zero, List.set_cons_succ, i64_w, i32_w]
         rfl
        refine pure_ (i := 36) (N := some 137) (v := undef) (a' := ?_) (bs_asts 53 137438953471) rfl rfl (any_of HT_.out (by kernel_rfl)) (fun _ _ _ h => h) (Or.inr ⟨by rfl, rfl⟩) ?_ ?_
        rotate_left
        ·
         simp only [Act.put, List.setIfInBounds_toArray, List.set_cons_zero, List.set_cons_succ, i64_w, i32_w]
         rfl
        refine pure_ (i := 37) (N := some 138) (v := ?_) (a' := ?_) (bs_asts 53 274877906943) rfl rfl (any_of HT_.out (by kernel_rfl)) (fun _ _ _ h => h) (Or.inl ⟨by rfl, ?_⟩) ?_ ?_
        rotate_left
        ·
         intro w'
         go_simp
         with_reducible rfl
        rotate_left
        ·
         simp only [Act.put, List.setIfInBounds_toArray, List.set_cons_zero, List.set_cons_succ, i64_w, i32_w]
         rfl
        refine pure_ (i := 38) (N := some 139) (v := ?_) (a' := ?_) (bs_asts 53 549755813887) rfl rfl (any_of HT_.out (by kernel_rfl)) (fun _ _ _ h => h) (Or.inl ⟨by rfl, ?_⟩) ?_ ?_
        rotate_left
        ·
         intro w'
         go_simp
         with_reducible rfl
        rotate_left
        ·
         simp only [Act.put, List.setIfInBounds_toArray, List.set_cons_zero, List.set_cons_succ, i64_w, i32_w]
         rfl
        refine pure_ (i := 39) (N := some 140) (v := undef) (a' := ?_) (bs_asts 53 1099511627775) rfl rfl (any_of HT_.out (by kernel_rfl)) (fun _ _ _ h => h) (Or.inr ⟨by rfl, rfl⟩) ?_ ?_
        rotate_left
        ·
         simp only [Act.put, List.setIfInBounds_toArray, List.set_cons_zero, List.set_cons_succ, i64_w, i32_w]
         rfl
        refine pure_ (i := 40) (N := some 141) (v := undef) (a' := ?_) (bs_asts 53 2199023255551) rfl rfl (any_of HT_.out (by kernel_rfl)) (fun _ _ _ h => h) (Or.inr ⟨by rfl, rfl⟩) ?_ ?_
        rotate_left
        ·
         simp only [Act.put, List.setIfInBounds_toArray, List.set_cons_zero, List.set_cons_succ, i64_w, i32_w]
         rfl
        refine pure_ (i := 41) (N := some 142) (v := undef) (a' := ?_) (bs_asts 53 4398046511103) rfl rfl (any_of HT_.out (by kernel_rfl)) (fun _ _ _ h => h) (Or.inr ⟨by rfl, rfl⟩) ?_ ?_
        rotate_left
        ·
         simp only [Act.put, List.setIfInBounds_toArray, List.set_cons_zero, List.set_cons_succ, i64_w, i32_w]
         rfl
        refine pure_ (i := 42) (N := some 143) (v := undef) (a' := ?_) (bs_asts 53 8796093022207) rfl rfl (any_of HT_.out (by kernel_rfl)) (fun _ _ _ h => h) (Or.inr ⟨by rfl, rfl⟩) ?_ ?_
        rotate_left
        ·
         simp only [Act.put, List.setIfInBounds_toArray, List.set_cons_zero, List.set_cons_succ, i64_w, i32_w]
         rfl
        refine pure_ (i := 43) (N := some 144) (v := undef) (a' := ?_) (bs_asts 53 17592186044415) rfl rfl (any_of HT_.out (by kernel_rfl)) (fun _ _ _ h => h) (Or.inr ⟨by rfl, rfl⟩) ?_ ?_
        rotate_left
        ·
         simp only [Act.put, List.setIfInBounds_toArray, List.set_cons_zero, List.set_cons_succ, i64_w, i32_w]
         rfl
        refine pure_ (i := 44) (N := some 145) (v := undef) (a' := ?_) (bs_asts 53 35184372088831) rfl rfl (any_of HT_.out (by kernel_rfl)) (fun _ _ _ h => h) (Or.inr ⟨by rfl, rfl⟩) ?_ ?_
        rotate_left
        ·
         simp only [Act.put, List.setIfInBounds_toArray, List.set_cons_zero, List.set_cons_succ, i64_w, i32_w]
         rfl
        refine pure_ (i := 45) (N := some 146) (v := undef) (a' := ?_) (bs_asts 53 70368744177663) rfl rfl (any_of HT_.out (by kernel_rfl)) (fun _ _ _ h => h) (Or.inr ⟨by rfl, rfl⟩) ?_ ?_
        rotate_left
        ·
         simp only [Act.put, List.setIfInBounds_toArray, List.set_cons_zero, List.set_cons_succ, i64_w, i32_w]
         rfl
        refine pure_ (i := 46) (N := some 147) (v := undef) (a' := ?_) (bs_asts 53 140737488355327) rfl rfl (any_of HT_.out (by kernel_rfl)) (fun _ _ _ h => h) (Or.inr ⟨by rfl, rfl⟩) ?_ ?_
        rotate_left
        ·
         simp only [Act.put, List.setIfInBounds_toArray, List.set_cons_zero, List.set_cons_succ, i64_w, i32_w]
         rfl
        refine pure_ (i := 47) (N := some 148) (v := undef) (a' := ?_) (bs_asts 53 281474976710655) rfl rfl (any_of HT_.out (by kernel_rfl)) (fun _ _ _ h => h) (Or.inr ⟨by rfl, rfl⟩) ?_ ?_
        rotate_left
        ·
         simp only [Act.put, List.setIfInBounds_toArray, List.set_cons_zero, List.set_cons_succ, i64_w, i32_w]
         rfl
        refine pure_ (i := 48) (N := some 149) (v := undef) (a' := ?_) (bs_asts 53 562949953421311) rfl rfl (any_of HT_.out (by kernel_rfl)) (fun _ _ _ h => h) (Or.inr ⟨by rfl, rfl⟩) ?_ ?_
        rotate_left
        ·
         simp only [Act.put, List.setIfInBounds_toArray, List.set_cons_zero, List.set_cons_succ, i64_w, i32_w]
         rfl
        refine pure_ (i := 49) (N := some 150) (v := undef) (a' := ?_) (bs_asts 53 1125899906842623) rfl rfl (any_of HT_.out (by kernel_rfl)) (fun _ _ _ h => h) (Or.inr ⟨by rfl, rfl⟩) ?_ ?_
        rotate_left
        ·
         simp only [Act.put, List.setIfInBounds_toArray, List.set_cons_zero, List.set_cons_succ, i64_w, i32_w]
         rfl
        refine pure_ (i := 50) (N := some 151) (v := undef) (a' := ?_) (bs_asts 53 2251799813685247) rfl rfl (any_of HT_.out (by kernel_rfl)) (fun _ _ _ h => h) (Or.inr ⟨by rfl, rfl⟩) ?_ ?_
        rotate_left
        ·
         simp only [Act.put, List.setIfInBounds_toArray, List.set_cons_zero, List.set_cons_succ, i64_w, i32_w]
         rfl
        refine pure_ (i := 51) (N := some 152) (v := undef) (a' := ?_) (bs_asts 53 4503599627370495) rfl rfl (any_of HT_.out (by kernel_rfl)) (fun _ _ _ h => h) (Or.inr ⟨by rfl, rfl⟩) ?_ ?_
        rotate_left
        ·
         simp only [Act.put, List.setIfInBounds_toArray, List.set_cons_zero, List.set_cons_succ, i64_w, i32_w]
         rfl
        refine pure_ (i := 52) (N := some 153) (v := ?_) (a' := ?_) (bs_asts 53 9007199254740991) rfl rfl (any_of HT_.out (by kernel_rfl)) (fun _ _ _ h => h) (Or.inl ⟨by rfl, ?_⟩) ?_ ?_
        rotate_left
        ·
         intro w'
         go_simp
         with_reducible rfl
        rotate_left
        ·
         simp only [Act.put, List.setIfInBounds_toArray, List.set_cons_zero, List.set_cons_succ, i64_w, i32_w]
         rfl
        refine done_ (done_of HT_.out (by kernel_rfl)) ?_
        try go_wp2
        go_ret
        exact ⟨by first | rfl | (simp [errW_none, errW_some] <;> rfl) | (simp [*, errW_none, errW_some] <;> rfl), by repeat (first | (with_reducible first | exact HB.out | apply below_alloc | apply pw_below_drewN | apply below_drew1) | exact HB.out)⟩
       rw [if_pos c49] at H
       have c49b0 : (((rd_T25 (rd_L12 t398 x13_5) x14_6).f0) == ((rd_T25 t389 x12_6).f0)) = true := beq_iff_eq.mpr c49
       have c49b1 : (((rd_T25 (rd_L12 t398 x13_5) x14_6).f0) != ((rd_T25 t389 x12_6).f0)) = false := bne_eq_false_iff_eq.mpr c49
       clear c49
       by_cases c50 : (strOfNums ((rd_T25 (rd_L12 t398 x13_5) x14_6).f1)).toList = (strOfNums ((rd_T25 t389 x12_6).f1)).toList
       rotate_left
       ·
        rw [if_neg c50] at H
        have c50b0 : ((strOfNums ((rd_T25 (rd_L12 t398 x13_5) x14_6).f1)).toList == (strOfNums ((rd_T25 t389 x12_6).f1)).toList) = false := beq_eq_false_iff_ne.mpr c50
        have c50b1 : ((strOfNums ((rd_T25 (rd_L12 t398 x13_5) x14_6).f1)).toList != (strOfNums ((rd_T25 t389 x12_6).f1)).toList) = true := bne_iff_ne.mpr c50
        obtain rfl := Option.some.inj H
        have p403 : 0 ≤ (x13_5 : Int) := of_decide_eq_true (by first | (with_reducible assumption) | assumption)
        have q403 : x13_5 < (t398.length : Int) := of_decide_eq_true (by first | (with_reducible assumption) | assumption)
        obtain ⟨ad403, A403_0, c403_0, e403, hx403_0, hl403_0, hi403_0⟩ := at_L12 (Kd.N_reads' HO_10.out).2.2 x13_5 p403 q403
        cases e403
        obtain ⟨ce403, hce403, hMe403, hcc403⟩ := Kd.N_get HO_10.out [] x13_5 p403 (by first | exact q403 | exact of_decide_eq_true (by first | (with_reducible assumption) | assumption) | (have e_ := (Kd.N_reads' HO_10.out).1; omega))
        obtain ⟨ua403_0, uc403_0, rfl, ul403_0, ge403_0⟩ := Kd.FK_slice_open hMe403
        have hv403_0 := hcc403 0 _ rfl
        rw [Nat.add_zero, show ((Kd.slice 25 k25)).sz = 1 from rfl, Nat.mul_one] at hv403_0
        replace hv403_0 := Option.some.inj (hv403_0.symm.trans hx403_0)
        injection hv403_0 with hva_ hvn_ hvc_
        rw [hva_] at ge403_0
        rw [hvc_] at ul403_0
        have HL403_0 := Aside0.mk (show Kd.V k25 25 _ w.heap.size _ _ (rd_L12 t398 x13_5) from Kd.V_mk ul403_0 ge403_0)
        clear hva_ hvn_ hvc_ ge403_0 ul403_0
        clear hcc403 hce403
        have HR403_0 := Aside0.mk hi403_0
        have HC403_0 := Aside0.mk hl403_0
        clear hi403_0 hl403_0
        replace p403 := eq_true p403
        replace q403 := eq_true q403
        try go_wp2
        have n0_ := Aside0.mk (Kd.N_drew HO_6.out)
        have n1_ := Aside0.mk (Kd.N_drew HO_10.out)
        have n2_ := Aside0.mk (Kd.V_drew HL403_0.out)
        have n3_ := Aside0.mk (Kd.C_drew HR403_0.out)
        have n4_ := Aside0.mk (below_drew1 HB.out)
        clear HO_6
        clear HO_10
        clear HL403_0
        clear HR403_0
        clear HB
        have HO_6 := n0_
        have HO_10 := n1_
        have HL403_0 := n2_
        have HR403_0 := n3_
        have HB := n4_
        clear n0_ n1_ n2_ n3_ n4_
        have p404 : 0 ≤ (x13_5 : Int) := of_decide_eq_true (by first | (with_reducible assumption) | assumption)
        have q404 : x13_5 < (t398.length : Int) := of_decide_eq_true (by first | (with_reducible assumption) | assumption)
        obtain ⟨ad404, A404_0, c404_0, e404, hx404_0, hl404_0, hi404_0⟩ := at_L12 (Kd.N_reads' HO_10.out).2.2 x13_5 p404 q404
        obtain rfl : ad403 = ad404 := (by injection e404)
        obtain ⟨ce404, hce404, hMe404, hcc404⟩ := Kd.N_get HO_10.out [] x13_5 p404 (by first | exact q404 | exact of_decide_eq_true (by first | (with_reducible assumption) | assumption) | (have e_ := (Kd.N_reads' HO_10.out).1; omega))
        obtain ⟨ua404_0, uc404_0, rfl, ul404_0, ge404_0⟩ := Kd.FK_slice_open hMe404
        have hv404_0 := hcc404 0 _ rfl
        rw [Nat.add_zero, show ((Kd.slice 25 k25)).sz = 1 from rfl, Nat.mul_one] at hv404_0
        replace hv404_0 := Option.some.inj (hv404_0.symm.trans hx404_0)
        injection hv404_0 with hva_ hvn_ hvc_
        rw [hva_] at ge404_0
        rw [hvc_] at ul404_0
        have HL404_0 := Aside0.mk (show Kd.V k25 25 _ w.heap.size _ _ (rd_L12 t398 x13_5) from Kd.V_mk ul404_0 ge404_0)
        clear hva_ hvn_ hvc_ ge404_0 ul404_0
        clear hcc404 hce404
        have HR404_0 := Aside0.mk hi404_0
        have HC404_0 := Aside0.mk hl404_0
        clear hi404_0 hl404_0
        replace p404 := eq_true p404
        replace q404 := eq_true q404
        have p405 : 0 ≤ (x14_6 : Int) := of_decide_eq_true (by first | (with_reducible assumption) | assumption)
        have q405 : x14_6 < ((rd_L12 t398 x13_5).length : Int) := of_decide_eq_true (by first | (with_reducible assumption) | assumption)
        obtain ⟨ad405, A405_1, c405_1, e405, hx405_0, hx405_1, hl405_1, hi405_1⟩ := at_T25 (by repeat (first | (with_reducible exact HR404_0.out) | (with_reducible refine Kd.C_alloc ?_ _) | (with_reducible refine Kd.C_drewN ?_ _) | (with_reducible refine Kd.C_drew ?_) | exact HR404_0.out)) x14_6 p405 q405
        cases e405
        obtain ⟨ce405, hce405, hMe405, hcc405⟩ := Kd.V_get HL404_0.out z25 x14_6 p405 (by first | exact q405 | exact of_decide_eq_true (by first | (with_reducible assumption) | assumption) | (have e_ := (Kd.V_reads' HL404_0.out).1; omega))
        obtain ⟨ua405_1, uc405_1, rfl, ul405_1, ge405_1⟩ := k25_openF hMe405
        have hv405_1 := hcc405 1 _ rfl
        rw [add_field _ _ 1 (by omega)] at hv405_1
        replace hv405_1 := Option.some.inj (hv405_1.symm.trans hx405_1)
        injection hv405_1 with hva_ hvn_ hvc_
        rw [hva_] at ge405_1
        rw [hvc_] at ul405_1
        have HL405_1 := Aside0.mk (show Kd.V (Kd.int .u8) 5 _ w.heap.size _ _ ((rd_T25 (rd_L12 t398 x13_5) x14_6).f1) from Kd.V_mk ul405_1 ge405_1)
        clear hva_ hvn_ hvc_ ge405_1 ul405_1
        clear hcc405 hce405
        have HR405_1 := Aside0.mk hi405_1
        have HC405_1 := Aside0.mk hl405_1
        clear hi405_1 hl405_1
        replace p405 := eq_true p405
        replace q405 := eq_true q405
        have p406 : 0 ≤ (x12_6 : Int) := of_decide_eq_true (by first | (with_reducible assumption) | assumption)
        have q406 : x12_6 < (t389.length : Int) := of_decide_eq_true (by first | (with_reducible assumption) | assumption)
        obtain ⟨ad406, A406_1, c406_1, e406, hx406_0, hx406_1, hl406_1, hi406_1⟩ := at_T25 (Kd.N_reads' HO_6.out).2.2 x12_6 p406 q406
        cases e406
        obtain ⟨ce406, hce406, hMe406, hcc406⟩ := Kd.N_get HO_6.out z25 x12_6 p406 (by first | exact q406 | exact of_decide_eq_true (by first | (with_reducible assumption) | assumption) | (have e_ := (Kd.N_reads' HO_6.out).1; omega))
        obtain ⟨ua406_1, uc406_1, rfl, ul406_1, ge406_1⟩ := k25_openF hMe406
        have hv406_1 := hcc406 1 _ rfl
        rw [add_field _ _ 1 (by omega)] at hv406_1
        replace hv406_1 := Option.some.inj (hv406_1.symm.trans hx406_1)
        injection hv406_1 with hva_ hvn_ hvc_
        rw [hva_] at ge406_1
        rw [hvc_] at ul406_1
        have HL406_1 := Aside0.mk (show Kd.V (Kd.int .u8) 5 _ w.heap.size _ _ ((rd_T25 t389 x12_6).f1) from Kd.V_mk ul406_1 ge406_1)
        clear hva_ hvn_ hvc_ ge406_1 ul406_1
        clear hcc406 hce406
        have HR406_1 := Aside0.mk hi406_1
        have HC406_1 := Aside0.mk hl406_1
        clear hi406_1 hl406_1
        replace p406 := eq_true p406
        replace q406 := eq_true q406
        have p407 : 0 ≤ (x13_5 : Int) := of_decide_eq_true (by first | (with_reducible assumption) | assumption)
        have q407 : x13_5 < (t398.length : Int) := of_decide_eq_true (by first | (with_reducible assumption) | assumption)
        obtain ⟨ad407, A407_0, c407_0, e407, hx407_0, hl407_0, hi407_0⟩ := at_L12 (Kd.N_reads' HO_10.out).2.2 x13_5 p407 q407
        obtain rfl : ad403 = ad407 := (by injection e407)
        obtain ⟨ce407, hce407, hMe407, hcc407⟩ := Kd.N_get HO_10.out [] x13_5 p407 (by first | exact q407 | exact of_decide_eq_true (by first | (with_reducible assumption) | assumption) | (have e_ := (Kd.N_reads' HO_10.out).1; omega))
        obtain ⟨ua407_0, uc407_0, rfl, ul407_0, ge407_0⟩ := Kd.FK_slice_open hMe407
        have hv407_0 := hcc407 0 _ rfl
        rw [Nat.add_zero, show ((Kd.slice 25 k25)).sz = 1 from rfl, Nat.mul_one] at hv407_0
        replace hv407_0 := Option.some.inj (hv407_0.symm.trans hx407_0)
        injection hv407_0 with hva_ hvn_ hvc_
        rw [hva_] at ge407_0
        rw [hvc_] at ul407_0
        have HL407_0 := Aside0.mk (show Kd.V k25 25 _ w.heap.size _ _ (rd_L12 t398 x13_5) from Kd.V_mk ul407_0 ge407_0)
        clear hva_ hvn_ hvc_ ge407_0 ul407_0
        clear hcc407 hce407
        have HR407_0 := Aside0.mk hi407_0
        have HC407_0 := Aside0.mk hl407_0
        clear hi407_0 hl407_0
        replace p407 := eq_true p407
        replace q407 := eq_true q407
        have ea_ := Option.some.inj (hx404_0.symm.trans hx407_0)
        injection ea_ with ea_ en_ ec_
        subst ea_
        subst ec_
        clear en_
        have p408 : 0 ≤ (x14_6 : Int) := of_decide_eq_true (by first | (with_reducible assumption) | assumption)
        have q408 : x14_6 < ((rd_L12 t398 x13_5).length : Int) := of_decide_eq_true (by first | (with_reducible assumption) | assumption)
        obtain ⟨ad408, A408_1, c408_1, e408, hx408_0, hx408_1, hl408_1, hi408_1⟩ := at_T25 (by repeat (first | (with_reducible exact HR407_0.out) | (with_reducible refine Kd.C_alloc ?_ _) | (with_reducible refine Kd.C_drewN ?_ _) | (with_reducible refine Kd.C_drew ?_) | exact HR407_0.out)) x14_6 p408 q408
        cases e408
        obtain ⟨ce408, hce408, hMe408, hcc408⟩ := Kd.V_get HL407_0.out z25 x14_6 p408 (by first | exact q408 | exact of_decide_eq_true (by first | (with_reducible assumption) | assumption) | (have e_ := (Kd.V_reads' HL407_0.out).1; omega))
        obtain ⟨ua408_1, uc408_1, rfl, ul408_1, ge408_1⟩ := k25_openF hMe408
        have hv408_1 := hcc408 1 _ rfl
        rw [add_field _ _ 1 (by omega)] at hv408_1
        replace hv408_1 := Option.some.inj (hv408_1.symm.trans hx408_1)
        injection hv408_1 with hva_ hvn_ hvc_
        rw [hva_] at ge408_1
        rw [hvc_] at ul408_1
        have HL408_1 := Aside0.mk (show Kd.V (Kd.int .u8) 5 _ w.heap.size _ _ ((rd_T25 (rd_L12 t398 x13_5) x14_6).f1) from Kd.V_mk ul408_1 ge408_1)
        clear hva_ hvn_ hvc_ ge408_1 ul408_1
        clear hcc408 hce408
        have HR408_1 := Aside0.mk hi408_1
        have HC408_1 := Aside0.mk hl408_1
        clear hi408_1 hl408_1
        replace p408 := eq_true p408
        replace q408 := eq_true q408
        have p409 : 0 ≤ (x12_6 : Int) := of_decide_eq_true (by first | (with_reducible assumption) | assumption)
        have q409 : x12_6 < (t389.length : Int) := of_decide_eq_true (by first | (with_reducible assumption) | assumption)
        obtain ⟨ad409, A409_1, c409_1, e409, hx409_0, hx409_1, hl409_1, hi409_1⟩ := at_T25 (Kd.N_reads' HO_6.out).2.2 x12_6 p409 q409
        obtain rfl : ad406 = ad409 := (by injection e409)
        obtain ⟨ce409, hce409, hMe409, hcc409⟩ := Kd.N_get HO_6.out z25 x12_6 p409 (by first | exact q409 | exact of_decide_eq_true (by first | (with_reducible assumption) | assumption) | (have e_ := (Kd.N_reads' HO_6.out).1; omega))
        obtain ⟨ua409_1, uc409_1, rfl, ul409_1, ge409_1⟩ := k25_openF hMe409
        have hv409_1 := hcc409 1 _ rfl
        rw [add_field _ _ 1 (by omega)] at hv409_1
        replace hv409_1 := Option.some.inj (hv409_1.symm.trans hx409_1)
        injection hv409_1 with hva_ hvn_ hvc_
        rw [hva_] at ge409_1
        rw [hvc_] at ul409_1
        have HL409_1 := Aside0.mk (show Kd.V (Kd.int .u8) 5 _ w.heap.size _ _ ((rd_T25 t389 x12_6).f1) from Kd.V_mk ul409_1 ge409_1)
        clear hva_ hvn_ hvc_ ge409_1 ul409_1
        clear hcc409 hce409
        have HR409_1 := Aside0.mk hi409_1
        have HC409_1 := Aside0.mk hl409_1
        clear hi409_1 hl409_1
        replace p409 := eq_true p409
        replace q409 := eq_true q409
        have ea_ := Option.some.inj (hx406_1.symm.trans hx409_1)
        injection ea_ with ea_ en_ ec_
        subst ea_
        subst ec_
        clear en_
        have eb_ := Option.some.inj (hx405_1.symm.trans hx408_1)
        injection eb_ with eba_ ebn_ ebc_
        subst eba_
        subst ebc_
        clear ebn_
        have hcv62 := Kd.C_string (P := Try.prog) (A := A405_1) (c := c405_1) Try.underlying23 Try.underlying5 Try.underlying9 (by repeat (first | (with_reducible exact HR408_1.out) | (with_reducible refine Kd.C_alloc ?_ _) | (with_reducible refine Kd.C_drewN ?_ _) | (with_reducible refine Kd.C_drew ?_) | exact HR408_1.out))
        have hcv63 := Kd.C_string (P := Try.prog) (A := A406_1) (c := c406_1) Try.underlying23 Try.underlying5 Try.underlying9 (by repeat (first | (with_reducible exact HR409_1.out) | (with_reducible refine Kd.C_alloc ?_ _) | (with_reducible refine Kd.C_drewN ?_ _) | (with_reducible refine Kd.C_drew ?_) | exact HR409_1.out))
        refine start_ (n := 53) (S := fun w' => w'.cell? (ad403.add (x13_5).toNat) = some (.slice (some ad405) (rd_L12 t398 x13_5).length c404_0) ∧ w'.cell? (ad405.add ((x14_6).toNat * 2)) = some (.int .u64 ((rd_T25 (rd_L12 t398 x13_5) x14_6).f0)) ∧ w'.cell? ⟨(ad405.add ((x14_6).toNat * 2)).block, (ad405.add ((x14_6).toNat * 2)).off + 1, none⟩ = some (.slice A405_1 ((rd_T25 (rd_L12 t398 x13_5) x14_6).f1).length c405_1) ∧ w'.cell? (ad406.add ((x12_6).toNat * 2)) = some (.int .u64 ((rd_T25 t389 x12_6).f0)) ∧ w'.cell? ⟨(ad406.add ((x12_6).toNat * 2)).block, (ad406.add ((x12_6).toNat * 2)).off + 1, none⟩ = some (.slice A406_1 ((rd_T25 t389 x12_6).f1).length c406_1) ∧ w'.cell? (ad403.add (x13_5).toNat) = some (.slice (some ad405) (rd_L12 t398 x13_5).length c404_0) ∧ w'.cell? (ad405.add ((x14_6).toNat * 2)) = some (.int .u64 ((rd_T25 (rd_L12 t398 x13_5) x14_6).f0)) ∧ w'.cell? ⟨(ad405.add ((x14_6).toNat * 2)).block, (ad405.add ((x14_6).toNat * 2)).off + 1, none⟩ = some (.slice A405_1 ((rd_T25 (rd_L12 t398 x13_5) x14_6).f1).length c405_1) ∧ w'.cell? (ad406.add ((x12_6).toNat * 2)) = some (.int .u64 ((rd_T25 t389 x12_6).f0)) ∧ w'.cell? ⟨(ad406.add ((x12_6).toNat * 2)).block, (ad406.add ((x12_6).toNat * 2)).off + 1, none⟩ = some (.slice A406_1 ((rd_T25 t389 x12_6).f1).length c406_1) ∧ (convert 23 9 (.slice A405_1 ((rd_T25 (rd_L12 t398 x13_5) x14_6).f1).length c405_1)).run Try.prog w' = .ok (.string (strOfNums ((rd_T25 (rd_L12 t398 x13_5) x14_6).f1))) w' ∧ (convert 23 9 (.slice A406_1 ((rd_T25 t389 x12_6).f1).length c406_1)).run Try.prog w' = .ok (.string (strOfNums ((rd_T25 t389 x12_6).f1))) w') (ds := []) (bs_asts 53 0) (by kernel_rfl) rfl rfl ⟨hx404_0, hx405_0, hx405_1, hx406_0, hx406_1, hx407_0, hx408_0, hx408_1, hx409_0, hx409_1, hcv62, hcv63⟩ (fun hHeld => ?_); refine with_tabW reliquarylaw12_RecordLasts.tab27 reliquarylaw12_RecordLasts.bits27 (fun HT_ HW_ => ?_)
        generalize wr.drew = w61 at HO_6 HO_10 HL403_0 HR403_0 HB HL404_0 HL405_1 HL406_1 HL407_0 HL408_1 HL409_1 HR404_0 HR405_1 HR406_1 HR407_0 HR408_1 HR409_1 hx404_0 hx405_0 hx405_1 hx406_0 hx406_1 hx407_0 hx408_0 hx408_1 hx409_0 hx409_1 hHeld ⊢
        refine pure_ (i := 0) (N := some 101) (v := ?_) (a' := ?_) (bs_asts 53 1) rfl rfl (any_of HT_.out (by kernel_rfl)) (fun _ _ _ h => h) (Or.inl ⟨by rfl, ?_⟩) ?_ ?_
        rotate_left
        ·
         intro w'
         go_simp
         with_reducible rfl
        rotate_left
        ·
         simp only [Act.put, List.setIfInBounds_toArray, List.set_cons_zero, List.set_cons_succ, i64_w, i32_w]
         rfl
        refine pure_ (i := 1) (N := some 102) (v := ?_) (a' := ?_) (bs_asts 53 3) rfl rfl (any_of HT_.out (by kernel_rfl)) (fun _ _ _ h => h) (Or.inl ⟨by rfl, ?_⟩) ?_ ?_
        rotate_left
        ·
         intro w'
         go_simp
         with_reducible rfl
        rotate_left
        ·
         simp only [Act.put, List.setIfInBounds_toArray, List.set_cons_zero, List.set_cons_succ, i64_w, i32_w]
         rfl
        refine pure_ (i := 2) (N := some 103) (v := ?_) (a' := ?_) (bs_asts 53 7) rfl rfl (any_of HT_.out (by kernel_rfl)) (fun _ _ _ h => h) (Or.inl ⟨by rfl, ?_⟩) ?_ ?_
        rotate_left
        ·
         intro w'
         go_simp
         with_reducible rfl
        rotate_left
        ·
         simp only [Act.put, List.setIfInBounds_toArray, List.set_cons_zero, List.set_cons_succ, i64_w, i32_w]
         rfl
        refine pure_ (i := 3) (N := some 104) (v := ?_) (a' := ?_) (bs_asts 53 15) rfl rfl (any_of HT_.out (by kernel_rfl)) (fun _ _ _ h => h) (Or.inl ⟨by rfl, ?_⟩) ?_ ?_
        rotate_left
        ·
         intro w'
         go_simp
         with_reducible rfl
        rotate_left
        ·
         simp only [Act.put, List.setIfInBounds_toArray, List.set_cons_zero, List.set_cons_succ, i64_w, i32_w]
         rfl
        refine pure_ (i := 4) (N := some 105) (v := ?_) (a' := ?_) (bs_asts 53 31) rfl rfl (any_of HT_.out (by kernel_rfl)) (fun _ _ _ h => h) (Or.inl ⟨by rfl, ?_⟩) ?_ ?_
        rotate_left
        ·
         intro w'
         go_simp
         with_reducible rfl
        rotate_left
        ·
         simp only [Act.put, List.setIfInBounds_toArray, List.set_cons_zero, List.set_cons_succ, i64_w, i32_w]
         rfl
        refine pure_ (i := 5) (N := some 106) (v := ?_) (a' := ?_) (bs_asts 53 63) rfl rfl (any_of HT_.out (by kernel_rfl)) (fun _ _ _ h => h) (Or.inl ⟨by rfl, ?_⟩) ?_ ?_
        rotate_left
        ·
         intro w'
         go_simp
         with_reducible rfl
        rotate_left
        ·
         simp only [Act.put, List.setIfInBounds_toArray, List.set_cons_zero, List.set_cons_succ, i64_w, i32_w]
         rfl
        refine pure_ (i := 6) (N := some 107) (v := ?_) (a' := ?_) (bs_asts 53 127) rfl rfl (any_of HT_.out (by kernel_rfl)) (fun _ _ _ h => h) (Or.inl ⟨by rfl, ?_⟩) ?_ ?_
        rotate_left
        ·
         intro w'
         go_simp
         with_reducible rfl
        rotate_left
        ·
         simp only [Act.put, List.setIfInBounds_toArray, List.set_cons_zero, List.set_cons_succ, i64_w, i32_w]
         rfl
        refine pure_ (i := 7) (N := some 108) (v := ?_) (a' := ?_) (bs_asts 53 255) rfl rfl (any_of HT_.out (by kernel_rfl)) (fun _ _ _ h => h) (Or.inl ⟨by rfl, ?_⟩) ?_ ?_
        rotate_left
        ·
         intro w'
         go_simp
         with_reducible rfl
        rotate_left
        ·
         simp only [Act.put, List.setIfInBounds_toArray, List.set_cons_zero, List.set_cons_succ, i64_w, i32_w]
         rfl
        refine pure_ (i := 9) (N := some 110) (v := ?_) (a' := ?_) (bs_asts 53 767) rfl rfl (any_of HT_.out (by kernel_rfl)) (fun _ _ _ h => h) (Or.inl ⟨by rfl, ?_⟩) ?_ ?_
        rotate_left
        ·
         intro w'
         go_simp
         with_reducible rfl
        rotate_left
        ·
         simp only [Act.put, List.setIfInBounds_toArray, List.set_cons_zero, List.set_cons_succ, i64_w, i32_w]
         rfl
        refine pure_ (i := 13) (N := some 114) (v := ?_) (a' := ?_) (bs_asts 53 8959) rfl rfl (any_of HT_.out (by kernel_rfl)) (fun _ _ _ h => h) (Or.inl ⟨by rfl, ?_⟩) ?_ ?_
        rotate_left
        ·
         intro w'
         go_simp
         with_reducible rfl
        rotate_left
        ·
         simp only [Act.put, List.setIfInBounds_toArray, List.set_cons_zero, List.set_cons_succ, i64_w, i32_w]
         rfl
        refine pure_ (i := 14) (N := some 115) (v := ?_) (a' := ?_) (bs_asts 53 25343) rfl rfl (any_of HT_.out (by kernel_rfl)) (fun _ _ _ h => h) (Or.inl ⟨by rfl, ?_⟩) ?_ ?_
        rotate_left
        ·
         intro w'
         go_simp
         with_reducible rfl
        rotate_left
        ·
         simp only [Act.put, List.setIfInBounds_toArray, List.set_cons_zero, List.set_cons_succ, i64_w, i32_w]
         rfl
        refine pure_ (i := 15) (N := some 116) (v := ?_) (a' := ?_) (bs_asts 53 58111) rfl rfl (any_of HT_.out (by kernel_rfl)) (fun _ _ _ h => h) (Or.inl ⟨by rfl, ?_⟩) ?_ ?_
        rotate_left
        ·
         intro w'
         go_simp
         with_reducible rfl
        rotate_left
        ·
         simp only [Act.put, List.setIfInBounds_toArray, List.set_cons_zero, List.set_cons_succ, i64_w, i32_w]
         rfl
        refine pure_ (i := 16) (N := some 117) (v := ?_) (a' := ?_) (bs_asts 53 123647) rfl rfl (any_of HT_.out (by kernel_rfl)) (fun _ _ _ h => h) (Or.inl ⟨by rfl, ?_⟩) ?_ ?_
        rotate_left
        ·
         intro w'
         go_simp
         with_reducible rfl
        rotate_left
        ·
         simp only [Act.put, List.setIfInBounds_toArray, List.set_cons_zero, List.set_cons_succ, i64_w, i32_w]
         rfl
        refine take_ (i := 8) (N := some 109) (v := ?_) (a' := ?_) (bs_asts 53 123903) rfl rfl (take_ofW HT_.out HW_.out (by kernel_rfl)) (fun _ _ _ h => h) (Or.inl ⟨by rfl, ?_⟩) hHeld ?_ ?_
        rotate_left
        ·
         rintro w' ⟨s0, s1, s2, s3, s4, s5, s6, s7, s8, s9, s10, s11⟩
         go_simp
         with_reducible rfl
        rotate_left
        ·
         simp only [Act.put, List.setIfInBounds_toArray, List.set_cons_zero, List.set_cons_succ, i64_w, i32_w]
         rfl
        refine pure_ (i := 10) (N := some 111) (v := ?_) (a' := ?_) (bs_asts 53 124927) rfl rfl (any_of HT_.out (by kernel_rfl)) (fun _ _ _ h => h) (Or.inl ⟨by rfl, ?_⟩) ?_ ?_
        rotate_left
        ·
         intro w'
         go_simp
         with_reducible rfl
        rotate_left
        ·
         simp only [Act.put, List.setIfInBounds_toArray, List.set_cons_zero, List.set_cons_succ, i64_w, i32_w]
         rfl
        refine pure_ (i := 11) (N := some 112) (v := ?_) (a' := ?_) (bs_asts 53 126975) rfl rfl (any_of HT_.out (by kernel_rfl)) (fun _ _ _ h => h) (Or.inl ⟨by rfl, ?_⟩) ?_ ?_
        rotate_left
        ·
         intro w'
         go_simp
         with_reducible rfl
        rotate_left
        ·
         simp only [Act.put, List.setIfInBounds_toArray, List.set_cons_zero, List.set_cons_succ, i64_w, i32_w]
         rfl
        refine take_ (i := 12) (N := some 113) (v := ?_) (a' := ?_) (bs_asts 53 131071) rfl rfl (take_ofW HT_.out HW_.out (by kernel_rfl)) (fun _ _ _ h => h) (Or.inl ⟨by rfl, ?_⟩) hHeld ?_ ?_
        rotate_left
        ·
         rintro w' ⟨s0, s1, s2, s3, s4, s5, s6, s7, s8, s9, s10, s11⟩
         go_simp
         with_reducible rfl
        rotate_left
        ·
         simp only [Act.put, List.setIfInBounds_toArray, List.set_cons_zero, List.set_cons_succ, i64_w, i32_w]
         rfl
        refine take_ (i := 17) (N := some 118) (v := ?_) (a' := ?_) (bs_asts 53 262143) rfl rfl (take_ofW HT_.out HW_.out (by kernel_rfl)) (fun _ _ _ h => h) (Or.inl ⟨by rfl, ?_⟩) hHeld ?_ ?_
        rotate_left
        ·
         rintro w' ⟨s0, s1, s2, s3, s4, s5, s6, s7, s8, s9, s10, s11⟩
         go_simp
         with_reducible rfl
        rotate_left
        ·
         simp only [Act.put, List.setIfInBounds_toArray, List.set_cons_zero, List.set_cons_succ, i64_w, i32_w]
         rfl
        refine pure_ (i := 18) (N := some 119) (v := ?_) (a' := ?_) (bs_asts 53 524287) rfl rfl (any_of HT_.out (by kernel_rfl)) (fun _ _ _ h => h) (Or.inl ⟨by rfl, ?_⟩) ?_ ?_
        rotate_left
        ·
         intro w'
         go_simp
         with_reducible rfl
        rotate_left
        ·
         simp only [Act.put, List.setIfInBounds_toArray, List.set_cons_zero, List.set_cons_succ, i64_w, i32_w]
         rfl
        refine pure_ (i := 19) (N := some 120) (v := ?_) (a' := ?_) (bs_asts 53 1048575) rfl rfl (any_of HT_.out (by kernel_rfl)) (fun _ _ _ h => h) (Or.inl ⟨by rfl, ?_⟩) ?_ ?_
        rotate_left
        ·
         intro w'
         go_simp
         with_reducible rfl
        rotate_left
        ·
         simp only [Act.put, List.setIfInBounds_toArray, List.set_cons_zero, List.set_cons_succ, i64_w, i32_w]
         rfl
        refine pure_ (i := 20) (N := some 121) (v := ?_) (a' := ?_) (bs_asts 53 2097151) rfl rfl (any_of HT_.out (by kernel_rfl)) (fun _ _ _ h => h) (Or.inl ⟨by rfl, ?_⟩) ?_ ?_
        rotate_left
        ·
         intro w'
         go_simp
         with_reducible rfl
        rotate_left
        ·
         simp only [Act.put, List.setIfInBounds_toArray, List.set_cons_zero, List.set_cons_succ, i64_w, i32_w]
         rfl
        refine pure_ (i := 21) (N := some 122) (v := ?_) (a' := ?_) (bs_asts 53 4194303) rfl rfl (any_of HT_.out (by kernel_rfl)) (fun _ _ _ h => h) (Or.inl ⟨by rfl, ?_⟩) ?_ ?_
        rotate_left
        ·
         intro w'
         go_simp
         with_reducible rfl
        rotate_left
        ·
         simp only [Act.put, List.setIfInBounds_toArray, List.set_cons_zero, List.set_cons_succ, i64_w, i32_w]
         rfl
        refine pure_ (i := 22) (N := some 123) (v := ?_) (a' := ?_) (bs_asts 53 8388607) rfl rfl (any_of HT_.out (by kernel_rfl)) (fun _ _ _ h => h) (Or.inl ⟨by rfl, ?_⟩) ?_ ?_
        rotate_left
        ·
         intro w'
         go_simp
         with_reducible rfl
        rotate_left
        ·
         simp only [Act.put, List.setIfInBounds_toArray, List.set_cons_zero, List.set_cons_succ, i64_w, i32_w]
         rfl
        refine pure_ (i := 23) (N := some 124) (v := ?_) (a' := ?_) (bs_asts 53 16777215) rfl rfl (any_of HT_.out (by kernel_rfl)) (fun _ _ _ h => h) (Or.inl ⟨by rfl, ?_⟩) ?_ ?_
        rotate_left
        ·
         intro w'
         go_simp
         with_reducible rfl
        rotate_left
        ·
         simp only [Act.put, List.setIfInBounds_toArray, List.set_cons_zero, List.set_cons_succ, i64_w, i32_w]
         rfl
        refine pure_ (i := 25) (N := some 126) (v := ?_) (a' := ?_) (bs_asts 53 50331647) rfl rfl (any_of HT_.out (by kernel_rfl)) (fun _ _ _ h => h) (Or.inl ⟨by rfl, ?_⟩) ?_ ?_
        rotate_left
        ·
         intro w'
         go_simp
         with_reducible rfl
        rotate_left
        ·
         simp only [Act.put, List.setIfInBounds_toArray, List.set_cons_zero, List.set_cons_succ, i64_w, i32_w]
         rfl
        refine pure_ (i := 30) (N := some 131) (v := ?_) (a' := ?_) (bs_asts 53 1124073471) rfl rfl (any_of HT_.out (by kernel_rfl)) (fun _ _ _ h => h) (Or.inl ⟨by rfl, ?_⟩) ?_ ?_
        rotate_left
        ·
         intro w'
         go_simp
         with_reducible rfl
        rotate_left
        ·
         simp only [Act.put, List.setIfInBounds_toArray, List.set_cons_zero, List.set_cons_succ, i64_w, i32_w]
         rfl
        refine pure_ (i := 31) (N := some 132) (v := ?_) (a' := ?_) (bs_asts 53 3271557119) rfl rfl (any_of HT_.out (by kernel_rfl)) (fun _ _ _ h => h) (Or.inl ⟨by rfl, ?_⟩) ?_ ?_
        rotate_left
        ·
         intro w'
         go_simp
         with_reducible rfl
        rotate_left
        ·
         simp only [Act.put, List.setIfInBounds_toArray, List.set_cons_zero, List.set_cons_succ, i64_w, i32_w]
         rfl
        refine pure_ (i := 32) (N := some 133) (v := ?_) (a' := ?_) (bs_asts 53 7566524415) rfl rfl (any_of HT_.out (by kernel_rfl)) (fun _ _ _ h => h) (Or.inl ⟨by rfl, ?_⟩) ?_ ?_
        rotate_left
        ·
         intro w'
         go_simp
         with_reducible rfl
        rotate_left
        ·
         simp only [Act.put, List.setIfInBounds_toArray, List.set_cons_zero, List.set_cons_succ, i64_w, i32_w]
         rfl
        refine pure_ (i := 33) (N := some 134) (v := ?_) (a' := ?_) (bs_asts 53 16156459007) rfl rfl (any_of HT_.out (by kernel_rfl)) (fun _ _ _ h => h) (Or.inl ⟨by rfl, ?_⟩) ?_ ?_
        rotate_left
        ·
         intro w'
         go_simp
         with_reducible rfl
        rotate_left
        ·
         simp only [Act.put, List.setIfInBounds_toArray, List.set_cons_zero, List.set_cons_succ, i64_w, i32_w]
         rfl
        refine take_ (i := 24) (N := some 125) (v := ?_) (a' := ?_) (bs_asts 53 16173236223) rfl rfl (take_ofW HT_.out HW_.out (by kernel_rfl)) (fun _ _ _ h => h) (Or.inl ⟨by rfl, ?_⟩) hHeld ?_ ?_
        rotate_left
        ·
         rintro w' ⟨s0, s1, s2, s3, s4, s5, s6, s7, s8, s9, s10, s11⟩
         go_simp
         with_reducible rfl
        rotate_left
        ·
         simp only [Act.put, List.setIfInBounds_toArray, List.set_cons_zero, List.set_cons_succ, i64_w, i32_w]
         rfl
        refine pure_ (i := 26) (N := some 127) (v := ?_) (a' := ?_) (bs_asts 53 16240345087) rfl rfl (any_of HT_.out (by kernel_rfl)) (fun _ _ _ h => h) (Or.inl ⟨by rfl, ?_⟩) ?_ ?_
        rotate_left
        ·
         intro w'
         go_simp
         with_reducible rfl
        rotate_left
        ·
         simp only [Act.put, List.setIfInBounds_toArray, List.set_cons_zero, List.set_cons_succ, i64_w, i32_w]
         rfl
        refine pure_ (i := 27) (N := some 128) (v := ?_) (a' := ?_) (bs_asts 53 16374562815) rfl rfl (any_of HT_.out (by kernel_rfl)) (fun _ _ _ h => h) (Or.inl ⟨by rfl, ?_⟩) ?_ ?_
        rotate_left
        ·
         intro w'
         go_simp
         with_reducible rfl
        rotate_left
        ·
         simp only [Act.put, List.setIfInBounds_toArray, List.set_cons_zero, List.set_cons_succ, i64_w, i32_w]
         rfl
        refine take_ (i := 28) (N := some 129) (v := ?_) (a' := ?_) (bs_asts 53 16642998271) rfl rfl (take_ofW HT_.out HW_.out (by kernel_rfl)) (fun _ _ _ h => h) (Or.inl ⟨by rfl, ?_⟩) hHeld ?_ ?_
        rotate_left
        ·
         rintro w' ⟨s0, s1, s2, s3, s4, s5, s6, s7, s8, s9, s10, s11⟩
         go_simp
         with_reducible rfl
        rotate_left
        ·
         simp only [Act.put, List.setIfInBounds_toArray, List.set_cons_zero, List.set_cons_succ, i64_w, i32_w]
         rfl
        refine take_ (i := 29) (N := some 130) (v := ?_) (a' := ?_) (bs_asts 53 17179869183) rfl rfl (take_ofW HT_.out HW_.out (by kernel_rfl)) (fun _ _ _ h => h) (Or.inl ⟨by rfl, ?_⟩) hHeld ?_ ?_
        rotate_left
        ·
         rintro w' ⟨s0, s1, s2, s3, s4, s5, s6, s7, s8, s9, s10, s11⟩
         go_simp
         with_reducible rfl
        rotate_left
        ·
         simp only [Act.put, List.setIfInBounds_toArray, List.set_cons_zero, List.set_cons_succ, i64_w, i32_w]
         rfl
        refine take_ (i := 34) (N := some 135) (v := ?_) (a' := ?_) (bs_asts 53 34359738367) rfl rfl (take_ofW HT_.out HW_.out (by kernel_rfl)) (fun _ _ _ h => h) (Or.inl ⟨by rfl, ?_⟩) hHeld ?_ ?_
        rotate_left
        ·
         rintro w' ⟨s0, s1, s2, s3, s4, s5, s6, s7, s8, s9, s10, s11⟩
         go_simp
         with_reducible rfl
        rotate_left
        ·
         simp only [Act.put, List.setIfInBounds_toArray, List.set_cons_zero, List.set_cons_succ, i64_w, i32_w]
         rfl
        refine take_ (i := 35) (N := some 136) (v := ?_) (a' := ?_) (bs_asts 53 68719476735) rfl rfl (take_ofW HT_.out HW_.out (by kernel_rfl)) (fun _ _ _ h => h) (Or.inl ⟨by rfl, ?_⟩) hHeld ?_ ?_
        rotate_left
        ·
         rintro w' ⟨s0, s1, s2, s3, s4, s5, s6, s7, s8, s9, s10, s11⟩
         go_simp
         with_reducible rfl
        rotate_left
        ·
         simp only [Act.put, List.setIfInBounds_toArray, List.set_cons_zero, List.set_cons_succ, i64_w, i32_w]
         rfl
        refine pure_ (i := 36) (N := some 137) (v := ?_) (a' := ?_) (bs_asts 53 137438953471) rfl rfl (any_of HT_.out (by kernel_rfl)) (fun _ _ _ h => h) (Or.inl ⟨by rfl, ?_⟩) ?_ ?_
        rotate_left
        ·
         intro w'
         go_simp
         with_reducible rfl
        rotate_left
        ·
         simp only [Act.put, List.setIfInBounds_toArray, List.set_cons_zero, List.set_cons_succ, i64_w, i32_w]
         rfl
        refine pure_ (i := 37) (N := some 138) (v := ?_) (a' := ?_) (bs_asts 53 274877906943) rfl rfl (any_of HT_.out (by kernel_rfl)) (fun _ _ _ h => h) (Or.inl ⟨by rfl, ?_⟩) ?_ ?_
        rotate_left
        ·
         intro w'
         go_simp
         with_reducible rfl
        rotate_left
        ·
         simp only [Act.put, List.setIfInBounds_toArray, List.set_cons_zero, List.set_cons_succ, i64_w, i32_w]
         rfl
        refine pure_ (i := 38) (N := some 139) (v := ?_) (a' := ?_) (bs_asts 53 549755813887) rfl rfl (any_of HT_.out (by kernel_rfl)) (fun _ _ _ h => h) (Or.inl ⟨by rfl, ?_⟩) ?_ ?_
        rotate_left
        ·
         intro w'
         go_simp
         with_reducible rfl
        rotate_left
        ·
         simp only [Act.put, List.setIfInBounds_toArray, List.set_cons_zero, List.set_cons_succ, i64_w, i32_w]
         rfl
        refine pure_ (i := 39) (N := some 140) (v := undef) (a' := ?_) (bs_asts 53 1099511627775) rfl rfl (any_of HT_.out (by kernel_rfl)) (fun _ _ _ h => h) (Or.inr ⟨by rfl, rfl⟩) ?_ ?_
        rotate_left
        ·
         simp only [Act.put, List.setIfInBounds_toArray, List.set_cons_zero, List.set_cons_succ, i64_w, i32_w]
         rfl
        refine pure_ (i := 40) (N := some 141) (v := undef) (a' := ?_) (bs_asts 53 2199023255551) rfl rfl (any_of HT_.out (by kernel_rfl)) (fun _ _ _ h => h) (Or.inr ⟨by rfl, rfl⟩) ?_ ?_
        rotate_left
        ·
         simp only [Act.put, List.setIfInBounds_toArray, List.set_cons_zero, List.set_cons_succ, i64_w, i32_w]
         rfl
        refine pure_ (i := 41) (N := some 142) (v := undef) (a' := ?_) (bs_asts 53 4398046511103) rfl rfl (any_of HT_.out (by kernel_rfl)) (fun _ _ _ h => h) (Or.inr ⟨by rfl, rfl⟩) ?_ ?_
        rotate_left
        ·
         simp only [Act.put, List.setIfInBounds_toArray, List.set_cons_zero, List.set_cons_succ, i64_w, i32_w]
         rfl
        refine pure_ (i := 42) (N := some 143) (v := undef) (a' := ?_) (bs_asts 53 8796093022207) rfl rfl (any_of HT_.out (by kernel_rfl)) (fun _ _ _ h => h) (Or.inr ⟨by rfl, rfl⟩) ?_ ?_
        rotate_left
        ·
         simp only [Act.put, List.setIfInBounds_toArray, List.set_cons_zero, List.set_cons_succ, i64_w, i32_w]
         rfl
        refine pure_ (i := 43) (N := some 144) (v := undef) (a' := ?_) (bs_asts 53 17592186044415) rfl rfl (any_of HT_.out (by kernel_rfl)) (fun _ _ _ h => h) (Or.inr ⟨by rfl, rfl⟩) ?_ ?_
        rotate_left
        ·
         simp only [Act.put, List.setIfInBounds_toArray, List.set_cons_zero, List.set_cons_succ, i64_w, i32_w]
         rfl
        refine pure_ (i := 44) (N := some 145) (v := undef) (a' := ?_) (bs_asts 53 35184372088831) rfl rfl (any_of HT_.out (by kernel_rfl)) (fun _ _ _ h => h) (Or.inr ⟨by rfl, rfl⟩) ?_ ?_
        rotate_left
        ·
         simp only [Act.put, List.setIfInBounds_toArray, List.set_cons_zero, List.set_cons_succ, i64_w, i32_w]
         rfl
        refine pure_ (i := 45) (N := some 146) (v := undef) (a' := ?_) (bs_asts 53 70368744177663) rfl rfl (any_of HT_.out (by kernel_rfl)) (fun _ _ _ h => h) (Or.inr ⟨by rfl, rfl⟩) ?_ ?_
        rotate_left
        ·
         simp only [Act.put, List.setIfInBounds_toArray, List.set_cons_zero, List.set_cons_succ, i64_w, i32_w]
         rfl
        refine pure_ (i := 46) (N := some 147) (v := undef) (a' := ?_) (bs_asts 53 140737488355327) rfl rfl (any_of HT_.out (by kernel_rfl)) (fun _ _ _ h => h) (Or.inr ⟨by rfl, rfl⟩) ?_ ?_
        rotate_left
        ·
         simp only [Act.put, List.setIfInBounds_toArray, List.set_cons_zero, List.set_cons_succ, i64_w, i32_w]
         rfl
        refine pure_ (i := 47) (N := some 148) (v := undef) (a' := ?_) (bs_asts 53 281474976710655) rfl rfl (any_of HT_.out (by kernel_rfl)) (fun _ _ _ h => h) (Or.inr ⟨by rfl, rfl⟩) ?_ ?_
        rotate_left
        ·
         simp only [Act.put, List.setIfInBounds_toArray, List.set_cons_zero, List.set_cons_succ, i64_w, i32_w]
         rfl
        refine pure_ (i := 48) (N := some 149) (v := undef) (a' := ?_) (bs_asts 53 562949953421311) rfl rfl (any_of HT_.out (by kernel_rfl)) (fun _ _ _ h => h) (Or.inr ⟨by rfl, rfl⟩) ?_ ?_
        rotate_left
        ·
         simp only [Act.put, List.setIfInBounds_toArray, List.set_cons_zero, List.set_cons_succ, i64_w, i32_w]
         rfl
        refine pure_ (i := 49) (N := some 150) (v := undef) (a' := ?_) (bs_asts 53 1125899906842623) rfl rfl (any_of HT_.out (by kernel_rfl)) (fun _ _ _ h => h) (Or.inr ⟨by rfl, rfl⟩) ?_ ?_
        rotate_left
        ·
         simp only [Act.put, List.setIfInBounds_toArray, List.set_cons_zero, List.set_cons_succ, i64_w, i32_w]
         rfl
        refine pure_ (i := 50) (N := some 151) (v := undef) (a' := ?_) (bs_asts 53 2251799813685247) rfl rfl (any_of HT_.out (by kernel_rfl)) (fun _ _ _ h => h) (Or.inr ⟨by rfl, rfl⟩) ?_ ?_
        rotate_left
        ·
         simp only [Act.put, List.setIfInBounds_toArray, List.set_cons_zero, List.set_cons_succ, i64_w, i32_w]
         rfl
        refine pure_ (i := 51) (N := some 152) (v := undef) (a' := ?_) (bs_asts 53 4503599627370495) rfl rfl (any_of HT_.out (by kernel_rfl)) (fun _ _ _ h => h) (Or.inr ⟨by rfl, rfl⟩) ?_ ?_
        rotate_left
        ·
         simp only [Act.put, List.setIfInBounds_toArray, List.set_cons_zero, List.set_cons_succ, i64_w, i32_w]
         rfl
        refine pure_ (i := 52) (N := some 153) (v := ?_) (a' := ?_) (bs_asts 53 9007199254740991) rfl rfl (any_of HT_.out (by kernel_rfl)) (fun _ _ _ h => h) (Or.inl ⟨by rfl, ?_⟩) ?_ ?_
        rotate_left
        ·
         intro w'
         go_simp
         with_reducible rfl
        rotate_left
        ·
         simp only [Act.put, List.setIfInBounds_toArray, List.set_cons_zero, List.set_cons_succ, i64_w, i32_w]
         rfl
        refine done_ (done_of HT_.out (by kernel_rfl)) ?_
        try go_wp2
        go_ret
        exact ⟨by first | rfl | (simp [errW_none, errW_some] <;> rfl) | (simp [*, errW_none, errW_some] <;> rfl), by repeat (first | (with_reducible first | exact HB.out | apply below_alloc | apply pw_below_drewN | apply below_drew1) | exact HB.out)⟩
       rw [if_pos c50] at H
       have c50b0 : ((strOfNums ((rd_T25 (rd_L12 t398 x13_5) x14_6).f1)).toList == (strOfNums ((rd_T25 t389 x12_6).f1)).toList) = true := beq_iff_eq.mpr c50
       have c50b1 : ((strOfNums ((rd_T25 (rd_L12 t398 x13_5) x14_6).f1)).toList != (strOfNums ((rd_T25 t389 x12_6).f1)).toList) = false := bne_eq_false_iff_eq.mpr c50
       clear c50
       by_cases c51 : x12_6 < (l1.length : Int)
       rotate_left
       ·
        rw [if_neg c51] at H
        exact absurd H (by simp)
       rw [if_pos c51] at H
       have c51b0 : decide (x12_6 < (l1.length : Int)) = true := decide_eq_true c51
       clear c51
       by_cases c52 : ((rdOf false l1 x12_6) != (x14_6 == (wrap64 (((rd_L12 t398 x13_5).length : Int) - 1)))) = true
       ·
        rw [if_pos c52] at H
        have c52b0 : ((rdOf false l1 x12_6) != (x14_6 == (wrap64 (((rd_L12 t398 x13_5).length : Int) - 1)))) = true := c52
        (try (have c52b1 : decide ((rdOf false l1 x12_6) = (x14_6 == (wrap64 (((rd_L12 t398 x13_5).length : Int) - 1)))) = false := by simpa using c52))
        (try (have c52b2 : ((rdOf false l1 x12_6) == (x14_6 == (wrap64 (((rd_L12 t398 x13_5).length : Int) - 1)))) = false := by simpa using c52))
        (try (have c52b3 : ¬ ((rdOf false l1 x12_6) = (x14_6 == (wrap64 (((rd_L12 t398 x13_5).length : Int) - 1)))) := by simpa using c52))
        clear c52
        obtain rfl := Option.some.inj H
        have p403 : 0 ≤ (x13_5 : Int) := of_decide_eq_true (by first | (with_reducible assumption) | assumption)
        have q403 : x13_5 < (t398.length : Int) := of_decide_eq_true (by first | (with_reducible assumption) | assumption)
        obtain ⟨ad403, A403_0, c403_0, e403, hx403_0, hl403_0, hi403_0⟩ := at_L12 (Kd.N_reads' HO_10.out).2.2 x13_5 p403 q403
        cases e403
        obtain ⟨ce403, hce403, hMe403, hcc403⟩ := Kd.N_get HO_10.out [] x13_5 p403 (by first | exact q403 | exact of_decide_eq_true (by first | (with_reducible assumption) | assumption) | (have e_ := (Kd.N_reads' HO_10.out).1; omega))
        obtain ⟨ua403_0, uc403_0, rfl, ul403_0, ge403_0⟩ := Kd.FK_slice_open hMe403
        have hv403_0 := hcc403 0 _ rfl
        rw [Nat.add_zero, show ((Kd.slice 25 k25)).sz = 1 from rfl, Nat.mul_one] at hv403_0
        replace hv403_0 := Option.some.inj (hv403_0.symm.trans hx403_0)
        injection hv403_0 with hva_ hvn_ hvc_
        rw [hva_] at ge403_0
        rw [hvc_] at ul403_0
        have HL403_0 := Aside0.mk (show Kd.V k25 25 _ w.heap.size _ _ (rd_L12 t398 x13_5) from Kd.V_mk ul403_0 ge403_0)
        clear hva_ hvn_ hvc_ ge403_0 ul403_0
        clear hcc403 hce403
        have HR403_0 := Aside0.mk hi403_0
        have HC403_0 := Aside0.mk hl403_0
        clear hi403_0 hl403_0
        replace p403 := eq_true p403
        replace q403 := eq_true q403
        try go_wp2
        have n0_ := Aside0.mk (Kd.N_drew HO_6.out)
        have n1_ := Aside0.mk (Kd.N_drew HO_10.out)
        have n2_ := Aside0.mk (Kd.V_drew HL403_0.out)
        have n3_ := Aside0.mk (Kd.C_drew HR403_0.out)
        have n4_ := Aside0.mk (below_drew1 HB.out)
        clear HO_6
        clear HO_10
        clear HL403_0
        clear HR403_0
        clear HB
        have HO_6 := n0_
        have HO_10 := n1_
        have HL403_0 := n2_
        have HR403_0 := n3_
        have HB := n4_
        clear n0_ n1_ n2_ n3_ n4_
        have p404 : 0 ≤ (x13_5 : Int) := of_decide_eq_true (by first | (with_reducible assumption) | assumption)
        have q404 : x13_5 < (t398.length : Int) := of_decide_eq_true (by first | (with_reducible assumption) | assumption)
        obtain ⟨ad404, A404_0, c404_0, e404, hx404_0, hl404_0, hi404_0⟩ := at_L12 (Kd.N_reads' HO_10.out).2.2 x13_5 p404 q404
        obtain rfl : ad403 = ad404 := (by injection e404)
        obtain ⟨ce404, hce404, hMe404, hcc404⟩ := Kd.N_get HO_10.out [] x13_5 p404 (by first | exact q404 | exact of_decide_eq_true (by first | (with_reducible assumption) | assumption) | (have e_ := (Kd.N_reads' HO_10.out).1; omega))
        obtain ⟨ua404_0, uc404_0, rfl, ul404_0, ge404_0⟩ := Kd.FK_slice_open hMe404
        have hv404_0 := hcc404 0 _ rfl
        rw [Nat.add_zero, show ((Kd.slice 25 k25)).sz = 1 from rfl, Nat.mul_one] at hv404_0
        replace hv404_0 := Option.some.inj (hv404_0.symm.trans hx404_0)
        injection hv404_0 with hva_ hvn_ hvc_
        rw [hva_] at ge404_0
        rw [hvc_] at ul404_0
        have HL404_0 := Aside0.mk (show Kd.V k25 25 _ w.heap.size _ _ (rd_L12 t398 x13_5) from Kd.V_mk ul404_0 ge404_0)
        clear hva_ hvn_ hvc_ ge404_0 ul404_0
        clear hcc404 hce404
        have HR404_0 := Aside0.mk hi404_0
        have HC404_0 := Aside0.mk hl404_0
        clear hi404_0 hl404_0
        replace p404 := eq_true p404
        replace q404 := eq_true q404
        have p405 : 0 ≤ (x14_6 : Int) := of_decide_eq_true (by first | (with_reducible assumption) | assumption)
        have q405 : x14_6 < ((rd_L12 t398 x13_5).length : Int) := of_decide_eq_true (by first | (with_reducible assumption) | assumption)
        obtain ⟨ad405, A405_1, c405_1, e405, hx405_0, hx405_1, hl405_1, hi405_1⟩ := at_T25 (by repeat (first | (with_reducible exact HR404_0.out) | (with_reducible refine Kd.C_alloc ?_ _) | (with_reducible refine Kd.C_drewN ?_ _) | (with_reducible refine Kd.C_drew ?_) | exact HR404_0.out)) x14_6 p405 q405
        cases e405
        obtain ⟨ce405, hce405, hMe405, hcc405⟩ := Kd.V_get HL404_0.out z25 x14_6 p405 (by first | exact q405 | exact of_decide_eq_true (by first | (with_reducible assumption) | assumption) | (have e_ := (Kd.V_reads' HL404_0.out).1; omega))
        obtain ⟨ua405_1, uc405_1, rfl, ul405_1, ge405_1⟩ := k25_openF hMe405
        have hv405_1 := hcc405 1 _ rfl
        rw [add_field _ _ 1 (by omega)] at hv405_1
        replace hv405_1 := Option.some.inj (hv405_1.symm.trans hx405_1)
        injection hv405_1 with hva_ hvn_ hvc_
        rw [hva_] at ge405_1
        rw [hvc_] at ul405_1
        have HL405_1 := Aside0.mk (show Kd.V (Kd.int .u8) 5 _ w.heap.size _ _ ((rd_T25 (rd_L12 t398 x13_5) x14_6).f1) from Kd.V_mk ul405_1 ge405_1)
        clear hva_ hvn_ hvc_ ge405_1 ul405_1
        clear hcc405 hce405
        have HR405_1 := Aside0.mk hi405_1
        have HC405_1 := Aside0.mk hl405_1
        clear hi405_1 hl405_1
        replace p405 := eq_true p405
        replace q405 := eq_true q405
        have p406 : 0 ≤ (x12_6 : Int) := of_decide_eq_true (by first | (with_reducible assumption) | assumption)
        have q406 : x12_6 < (t389.length : Int) := of_decide_eq_true (by first | (with_reducible assumption) | assumption)
        obtain ⟨ad406, A406_1, c406_1, e406, hx406_0, hx406_1, hl406_1, hi406_1⟩ := at_T25 (Kd.N_reads' HO_6.out).2.2 x12_6 p406 q406
        cases e406
        obtain ⟨ce406, hce406, hMe406, hcc406⟩ := Kd.N_get HO_6.out z25 x12_6 p406 (by first | exact q406 | exact of_decide_eq_true (by first | (with_reducible assumption) | assumption) | (have e_ := (Kd.N_reads' HO_6.out).1; omega))
        obtain ⟨ua406_1, uc406_1, rfl, ul406_1, ge406_1⟩ := k25_openF hMe406
        have hv406_1 := hcc406 1 _ rfl
        rw [add_field _ _ 1 (by omega)] at hv406_1
        replace hv406_1 := Option.some.inj (hv406_1.symm.trans hx406_1)
        injection hv406_1 with hva_ hvn_ hvc_
        rw [hva_] at ge406_1
        rw [hvc_] at ul406_1
        have HL406_1 := Aside0.mk (show Kd.V (Kd.int .u8) 5 _ w.heap.size _ _ ((rd_T25 t389 x12_6).f1) from Kd.V_mk ul406_1 ge406_1)
        clear hva_ hvn_ hvc_ ge406_1 ul406_1
        clear hcc406 hce406
        have HR406_1 := Aside0.mk hi406_1
        have HC406_1 := Aside0.mk hl406_1
        clear hi406_1 hl406_1
        replace p406 := eq_true p406
        replace q406 := eq_true q406
        have p407 : 0 ≤ (x13_5 : Int) := of_decide_eq_true (by first | (with_reducible assumption) | assumption)
        have q407 : x13_5 < (t398.length : Int) := of_decide_eq_true (by first | (with_reducible assumption) | assumption)
        obtain ⟨ad407, A407_0, c407_0, e407, hx407_0, hl407_0, hi407_0⟩ := at_L12 (Kd.N_reads' HO_10.out).2.2 x13_5 p407 q407
        obtain rfl : ad403 = ad407 := (by injection e407)
        obtain ⟨ce407, hce407, hMe407, hcc407⟩ := Kd.N_get HO_10.out [] x13_5 p407 (by first | exact q407 | exact of_decide_eq_true (by first | (with_reducible assumption) | assumption) | (have e_ := (Kd.N_reads' HO_10.out).1; omega))
        obtain ⟨ua407_0, uc407_0, rfl, ul407_0, ge407_0⟩ := Kd.FK_slice_open hMe407
        have hv407_0 := hcc407 0 _ rfl
        rw [Nat.add_zero, show ((Kd.slice 25 k25)).sz = 1 from rfl, Nat.mul_one] at hv407_0
        replace hv407_0 := Option.some.inj (hv407_0.symm.trans hx407_0)
        injection hv407_0 with hva_ hvn_ hvc_
        rw [hva_] at ge407_0
        rw [hvc_] at ul407_0
        have HL407_0 := Aside0.mk (show Kd.V k25 25 _ w.heap.size _ _ (rd_L12 t398 x13_5) from Kd.V_mk ul407_0 ge407_0)
        clear hva_ hvn_ hvc_ ge407_0 ul407_0
        clear hcc407 hce407
        have HR407_0 := Aside0.mk hi407_0
        have HC407_0 := Aside0.mk hl407_0
        clear hi407_0 hl407_0
        replace p407 := eq_true p407
        replace q407 := eq_true q407
        have ea_ := Option.some.inj (hx404_0.symm.trans hx407_0)
        injection ea_ with ea_ en_ ec_
        subst ea_
        subst ec_
        clear en_
        have p408 : 0 ≤ (x14_6 : Int) := of_decide_eq_true (by first | (with_reducible assumption) | assumption)
        have q408 : x14_6 < ((rd_L12 t398 x13_5).length : Int) := of_decide_eq_true (by first | (with_reducible assumption) | assumption)
        obtain ⟨ad408, A408_1, c408_1, e408, hx408_0, hx408_1, hl408_1, hi408_1⟩ := at_T25 (by repeat (first | (with_reducible exact HR407_0.out) | (with_reducible refine Kd.C_alloc ?_ _) | (with_reducible refine Kd.C_drewN ?_ _) | (with_reducible refine Kd.C_drew ?_) | exact HR407_0.out)) x14_6 p408 q408
        cases e408
        obtain ⟨ce408, hce408, hMe408, hcc408⟩ := Kd.V_get HL407_0.out z25 x14_6 p408 (by first | exact q408 | exact of_decide_eq_true (by first | (with_reducible assumption) | assumption) | (have e_ := (Kd.V_reads' HL407_0.out).1; omega))
        obtain ⟨ua408_1, uc408_1, rfl, ul408_1, ge408_1⟩ := k25_openF hMe408
        have hv408_1 := hcc408 1 _ rfl
        rw [add_field _ _ 1 (by omega)] at hv408_1
        replace hv408_1 := Option.some.inj (hv408_1.symm.trans hx408_1)
        injection hv408_1 with hva_ hvn_ hvc_
        rw [hva_] at ge408_1
        rw [hvc_] at ul408_1
        have HL408_1 := Aside0.mk (show Kd.V (Kd.int .u8) 5 _ w.heap.size _ _ ((rd_T25 (rd_L12 t398 x13_5) x14_6).f1) from Kd.V_mk ul408_1 ge408_1)
        clear hva_ hvn_ hvc_ ge408_1 ul408_1
        clear hcc408 hce408
        have HR408_1 := Aside0.mk hi408_1
        have HC408_1 := Aside0.mk hl408_1
        clear hi408_1 hl408_1
        replace p408 := eq_true p408
        replace q408 := eq_true q408
        have p409 : 0 ≤ (x12_6 : Int) := of_decide_eq_true (by first | (with_reducible assumption) | assumption)
        have q409 : x12_6 < (t389.length : Int) := of_decide_eq_true (by first | (with_reducible assumption) | assumption)
        obtain ⟨ad409, A409_1, c409_1, e409, hx409_0, hx409_1, hl409_1, hi409_1⟩ := at_T25 (Kd.N_reads' HO_6.out).2.2 x12_6 p409 q409
        obtain rfl : ad406 = ad409 := (by injection e409)
        obtain ⟨ce409, hce409, hMe409, hcc409⟩ := Kd.N_get HO_6.out z25 x12_6 p409 (by first | exact q409 | exact of_decide_eq_true (by first | (with_reducible assumption) | assumption) | (have e_ := (Kd.N_reads' HO_6.out).1; omega))
        obtain ⟨ua409_1, uc409_1, rfl, ul409_1, ge409_1⟩ := k25_openF hMe409
        have hv409_1 := hcc409 1 _ rfl
        rw [add_field _ _ 1 (by omega)] at hv409_1
        replace hv409_1 := Option.some.inj (hv409_1.symm.trans hx409_1)
        injection hv409_1 with hva_ hvn_ hvc_
        rw [hva_] at ge409_1
        rw [hvc_] at ul409_1
        have HL409_1 := Aside0.mk (show Kd.V (Kd.int .u8) 5 _ w.heap.size _ _ ((rd_T25 t389 x12_6).f1) from Kd.V_mk ul409_1 ge409_1)
        clear hva_ hvn_ hvc_ ge409_1 ul409_1
        clear hcc409 hce409
        have HR409_1 := Aside0.mk hi409_1
        have HC409_1 := Aside0.mk hl409_1
        clear hi409_1 hl409_1
        replace p409 := eq_true p409
        replace q409 := eq_true q409
        have ea_ := Option.some.inj (hx406_1.symm.trans hx409_1)
        injection ea_ with ea_ en_ ec_
        subst ea_
        subst ec_
        clear en_
        have eb_ := Option.some.inj (hx405_1.symm.trans hx408_1)
        injection eb_ with eba_ ebn_ ebc_
        subst eba_
        subst ebc_
        clear ebn_
        have hcv54 := Kd.C_string (P := Try.prog) (A := A405_1) (c := c405_1) Try.underlying23 Try.underlying5 Try.underlying9 (by repeat (first | (with_reducible exact HR408_1.out) | (with_reducible refine Kd.C_alloc ?_ _) | (with_reducible refine Kd.C_drewN ?_ _) | (with_reducible refine Kd.C_drew ?_) | exact HR408_1.out))
        have hcv55 := Kd.C_string (P := Try.prog) (A := A406_1) (c := c406_1) Try.underlying23 Try.underlying5 Try.underlying9 (by repeat (first | (with_reducible exact HR409_1.out) | (with_reducible refine Kd.C_alloc ?_ _) | (with_reducible refine Kd.C_drewN ?_ _) | (with_reducible refine Kd.C_drew ?_) | exact HR409_1.out))
        have p410 : 0 ≤ (x12_6 : Int) := of_decide_eq_true (by first | (with_reducible assumption) | assumption)
        have q410 : x12_6 < (l1.length : Int) := of_decide_eq_true (by first | (with_reducible assumption) | assumption)
        obtain ⟨ad410, e410, hx410_0⟩ := Kd.at_bool HR1.out x12_6 p410 q410
        have hw410_0 := hx410_0
        cases e410
        replace hx410_0 := (HB.out.cell (World.block_lt_of_cell? w _ hx410_0)).trans hx410_0
        replace p410 := eq_true p410
        replace q410 := eq_true q410
        have p411 : 0 ≤ (x13_5 : Int) := of_decide_eq_true (by first | (with_reducible assumption) | assumption)
        have q411 : x13_5 < (t398.length : Int) := of_decide_eq_true (by first | (with_reducible assumption) | assumption)
        obtain ⟨ad411, A411_0, c411_0, e411, hx411_0, hl411_0, hi411_0⟩ := at_L12 (Kd.N_reads' HO_10.out).2.2 x13_5 p411 q411
        obtain rfl : ad403 = ad411 := (by injection e411)
        obtain ⟨ce411, hce411, hMe411, hcc411⟩ := Kd.N_get HO_10.out [] x13_5 p411 (by first | exact q411 | exact of_decide_eq_true (by first | (with_reducible assumption) | assumption) | (have e_ := (Kd.N_reads' HO_10.out).1; omega))
        obtain ⟨ua411_0, uc411_0, rfl, ul411_0, ge411_0⟩ := Kd.FK_slice_open hMe411
        have hv411_0 := hcc411 0 _ rfl
        rw [Nat.add_zero, show ((Kd.slice 25 k25)).sz = 1 from rfl, Nat.mul_one] at hv411_0
        replace hv411_0 := Option.some.inj (hv411_0.symm.trans hx411_0)
        injection hv411_0 with hva_ hvn_ hvc_
        rw [hva_] at ge411_0
        rw [hvc_] at ul411_0
        have HL411_0 := Aside0.mk (show Kd.V k25 25 _ w.heap.size _ _ (rd_L12 t398 x13_5) from Kd.V_mk ul411_0 ge411_0)
        clear hva_ hvn_ hvc_ ge411_0 ul411_0
        clear hcc411 hce411
        have HR411_0 := Aside0.mk hi411_0
        have HC411_0 := Aside0.mk hl411_0
        clear hi411_0 hl411_0
        replace p411 := eq_true p411
        replace q411 := eq_true q411
        refine start_ (n := 53) (S := fun w' => w'.cell? (ad403.add (x13_5).toNat) = some (.slice (some ad405) (rd_L12 t398 x13_5).length c404_0) ∧ w'.cell? (ad405.add ((x14_6).toNat * 2)) = some (.int .u64 ((rd_T25 (rd_L12 t398 x13_5) x14_6).f0)) ∧ w'.cell? ⟨(ad405.add ((x14_6).toNat * 2)).block, (ad405.add ((x14_6).toNat * 2)).off + 1, none⟩ = some (.slice A405_1 ((rd_T25 (rd_L12 t398 x13_5) x14_6).f1).length c405_1) ∧ w'.cell? (ad406.add ((x12_6).toNat * 2)) = some (.int .u64 ((rd_T25 t389 x12_6).f0)) ∧ w'.cell? ⟨(ad406.add ((x12_6).toNat * 2)).block, (ad406.add ((x12_6).toNat * 2)).off + 1, none⟩ = some (.slice A406_1 ((rd_T25 t389 x12_6).f1).length c406_1) ∧ w'.cell? (ad403.add (x13_5).toNat) = some (.slice (some ad405) (rd_L12 t398 x13_5).length c404_0) ∧ w'.cell? (ad405.add ((x14_6).toNat * 2)) = some (.int .u64 ((rd_T25 (rd_L12 t398 x13_5) x14_6).f0)) ∧ w'.cell? ⟨(ad405.add ((x14_6).toNat * 2)).block, (ad405.add ((x14_6).toNat * 2)).off + 1, none⟩ = some (.slice A405_1 ((rd_T25 (rd_L12 t398 x13_5) x14_6).f1).length c405_1) ∧ w'.cell? (ad406.add ((x12_6).toNat * 2)) = some (.int .u64 ((rd_T25 t389 x12_6).f0)) ∧ w'.cell? ⟨(ad406.add ((x12_6).toNat * 2)).block, (ad406.add ((x12_6).toNat * 2)).off + 1, none⟩ = some (.slice A406_1 ((rd_T25 t389 x12_6).f1).length c406_1) ∧ w'.cell? (ad410.add (x12_6).toNat) = some (.bool (rdOf false l1 x12_6)) ∧ w'.cell? (ad403.add (x13_5).toNat) = some (.slice A411_0 (rd_L12 t398 x13_5).length c411_0) ∧ (convert 23 9 (.slice A405_1 ((rd_T25 (rd_L12 t398 x13_5) x14_6).f1).length c405_1)).run Try.prog w' = .ok (.string (strOfNums ((rd_T25 (rd_L12 t398 x13_5) x14_6).f1))) w' ∧ (convert 23 9 (.slice A406_1 ((rd_T25 t389 x12_6).f1).length c406_1)).run Try.prog w' = .ok (.string (strOfNums ((rd_T25 t389 x12_6).f1))) w') (ds := []) (bs_asts 53 0) (by kernel_rfl) rfl rfl ⟨hx404_0, hx405_0, hx405_1, hx406_0, hx406_1, hx407_0, hx408_0, hx408_1, hx409_0, hx409_1, ((HB.out.cell (World.block_lt_of_cell? w _ hw410_0)).trans hw410_0), hx411_0, hcv54, hcv55⟩ (fun hHeld => ?_); refine with_tabW reliquarylaw12_RecordLasts.tab27 reliquarylaw12_RecordLasts.bits27 (fun HT_ HW_ => ?_)
        generalize wr.drew = w53 at HO_6 HO_10 HL403_0 HR403_0 HB HL404_0 HL405_1 HL406_1 HL407_0 HL408_1 HL409_1 HL411_0 HR404_0 HR405_1 HR406_1 HR407_0 HR408_1 HR409_1 HR411_0 hx404_0 hx405_0 hx405_1 hx406_0 hx406_1 hx407_0 hx408_0 hx408_1 hx409_0 hx409_1 hx410_0 hx411_0 hHeld ⊢
        refine pure_ (i := 0) (N := some 101) (v := ?_) (a' := ?_) (bs_asts 53 1) rfl rfl (any_of HT_.out (by kernel_rfl)) (fun _ _ _ h => h) (Or.inl ⟨by rfl, ?_⟩) ?_ ?_
        rotate_left
        ·
         intro w'
         go_simp
         with_reducible rfl
        rotate_left
        ·
         simp only [Act.put, List.setIfInBounds_toArray, List.set_cons_zero, List.set_cons_succ, i64_w, i32_w]
         rfl
        refine pure_ (i := 1) (N := some 102) (v := ?_) (a' := ?_) (bs_asts 53 3) rfl rfl (any_of HT_.out (by kernel_rfl)) (fun _ _ _ h => h) (Or.inl ⟨by rfl, ?_⟩) ?_ ?_
        rotate_left
        ·
         intro w'
         go_simp
         with_reducible rfl
        rotate_left
        ·
         simp only [Act.put, List.setIfInBounds_toArray, List.set_cons_zero, List.set_cons_succ, i64_w, i32_w]
         rfl
        refine pure_ (i := 2) (N := some 103) (v := ?_) (a' := ?_) (bs_asts 53 7) rfl rfl (any_of HT_.out (by kernel_rfl)) (fun _ _ _ h => h) (Or.inl ⟨by rfl, ?_⟩) ?_ ?_
        rotate_left
        ·
         intro w'
         go_simp
         with_reducible rfl
        rotate_left
        ·
         simp only [Act.put, List.setIfInBounds_toArray, List.set_cons_zero, List.set_cons_succ, i64_w, i32_w]
         rfl
        refine pure_ (i := 3) (N := some 104) (v := ?_) (a' := ?_) (bs_asts 53 15) rfl rfl (any_of HT_.out (by kernel_rfl)) (fun _ _ _ h => h) (Or.inl ⟨by rfl, ?_⟩) ?_ ?_
        rotate_left
        ·
         intro w'
         go_simp
         with_reducible rfl
        rotate_left
        ·
         simp only [Act.put, List.setIfInBounds_toArray, List.set_cons_zero, List.set_cons_succ, i64_w, i32_w]
         rfl
        refine pure_ (i := 4) (N := some 105) (v := ?_) (a' := ?_) (bs_asts 53 31) rfl rfl (any_of HT_.out (by kernel_rfl)) (fun _ _ _ h => h) (Or.inl ⟨by rfl, ?_⟩) ?_ ?_
        rotate_left
        ·
         intro w'
         go_simp
         with_reducible rfl
        rotate_left
        ·
         simp only [Act.put, List.setIfInBounds_toArray, List.set_cons_zero, List.set_cons_succ, i64_w, i32_w]
         rfl
        refine pure_ (i := 5) (N := some 106) (v := ?_) (a' := ?_) (bs_asts 53 63) rfl rfl (any_of HT_.out (by kernel_rfl)) (fun _ _ _ h => h) (Or.inl ⟨by rfl, ?_⟩) ?_ ?_
        rotate_left
        ·
         intro w'
         go_simp
         with_reducible rfl
        rotate_left
        ·
         simp only [Act.put, List.setIfInBounds_toArray, List.set_cons_zero, List.set_cons_succ, i64_w, i32_w]
         rfl
        refine pure_ (i := 6) (N := some 107) (v := ?_) (a' := ?_) (bs_asts 53 127) rfl rfl (any_of HT_.out (by kernel_rfl)) (fun _ _ _ h => h) (Or.inl ⟨by rfl, ?_⟩) ?_ ?_
        rotate_left
        ·
         intro w'
         go_simp
         with_reducible rfl
        rotate_left
        ·
         simp only [Act.put, List.setIfInBounds_toArray, List.set_cons_zero, List.set_cons_succ, i64_w, i32_w]
         rfl
        refine pure_ (i := 7) (N := some 108) (v := ?_) (a' := ?_) (bs_asts 53 255) rfl rfl (any_of HT_.out (by kernel_rfl)) (fun _ _ _ h => h) (Or.inl ⟨by rfl, ?_⟩) ?_ ?_
        rotate_left
        ·
         intro w'
         go_simp
         with_reducible rfl
        rotate_left
        ·
         simp only [Act.put, List.setIfInBounds_toArray, List.set_cons_zero, List.set_cons_succ, i64_w, i32_w]
         rfl
        refine pure_ (i := 9) (N := some 110) (v := ?_) (a' := ?_) (bs_asts 53 767) rfl rfl (any_of HT_.out (by kernel_rfl)) (fun _ _ _ h => h) (Or.inl ⟨by rfl, ?_⟩) ?_ ?_
        rotate_left
        ·
         intro w'
         go_simp
         with_reducible rfl
        rotate_left
        ·
         simp only [Act.put, List.setIfInBounds_toArray, List.set_cons_zero, List.set_cons_succ, i64_w, i32_w]
         rfl
        refine pure_ (i := 13) (N := some 114) (v := ?_) (a' := ?_) (bs_asts 53 8959) rfl rfl (any_of HT_.out (by kernel_rfl)) (fun _ _ _ h => h) (Or.inl ⟨by rfl, ?_⟩) ?_ ?_
        rotate_left
        ·
         intro w'
         go_simp
         with_reducible rfl
        rotate_left
        ·
         simp only [Act.put, List.setIfInBounds_toArray, List.set_cons_zero, List.set_cons_succ, i64_w, i32_w]
         rfl
        refine pure_ (i := 14) (N := some 115) (v := ?_) (a' := ?_) (bs_asts 53 25343) rfl rfl (any_of HT_.out (by kernel_rfl)) (fun _ _ _ h => h) (Or.inl ⟨by rfl, ?_⟩) ?_ ?_
        rotate_left
        ·
         intro w'
         go_simp
         with_reducible rfl
        rotate_left
        ·
         simp only [Act.put, List.setIfInBounds_toArray, List.set_cons_zero, List.set_cons_succ, i64_w, i32_w]
         rfl
        refine pure_ (i := 15) (N := some 116) (v := ?_) (a' := ?_) (bs_asts 53 58111) rfl rfl (any_of HT_.out (by kernel_rfl)) (fun _ _ _ h => h) (Or.inl ⟨by rfl, ?_⟩) ?_ ?_
        rotate_left
        ·
         intro w'
         go_simp
         with_reducible rfl
        rotate_left
        ·
         simp only [Act.put, List.setIfInBounds_toArray, List.set_cons_zero, List.set_cons_succ, i64_w, i32_w]
         rfl
        refine pure_ (i := 16) (N := some 117) (v := ?_) (a' := ?_) (bs_asts 53 123647) rfl rfl (any_of HT_.out (by kernel_rfl)) (fun _ _ _ h => h) (Or.inl ⟨by rfl, ?_⟩) ?_ ?_
        rotate_left
        ·
         intro w'
         go_simp
         with_reducible rfl
        rotate_left
        ·
         simp only [Act.put, List.setIfInBounds_toArray, List.set_cons_zero, List.set_cons_succ, i64_w, i32_w]
         rfl
        refine take_ (i := 8) (N := some 109) (v := ?_) (a' := ?_) (bs_asts 53 123903) rfl rfl (take_ofW HT_.out HW_.out (by kernel_rfl)) (fun _ _ _ h => h) (Or.inl ⟨by rfl, ?_⟩) hHeld ?_ ?_
        rotate_left
        ·
         rintro w' ⟨s0, s1, s2, s3, s4, s5, s6, s7, s8, s9, s10, s11, s12, s13⟩
         go_simp
         with_reducible rfl
        rotate_left
        ·
         simp only [Act.put, List.setIfInBounds_toArray, List.set_cons_zero, List.set_cons_succ, i64_w, i32_w]
         rfl
        refine pure_ (i := 10) (N := some 111) (v := ?_) (a' := ?_) (bs_asts 53 124927) rfl rfl (any_of HT_.out (by kernel_rfl)) (fun _ _ _ h => h) (Or.inl ⟨by rfl, ?_⟩) ?_ ?_
        rotate_left
        ·
         intro w'
         go_simp
         with_reducible rfl
        rotate_left
        ·
         simp only [Act.put, List.setIfInBounds_toArray, List.set_cons_zero, List.set_cons_succ, i64_w, i32_w]
         rfl
        refine pure_ (i := 11) (N := some 112) (v := ?_) (a' := ?_) (bs_asts 53 126975) rfl rfl (any_of HT_.out (by kernel_rfl)) (fun _ _ _ h => h) (Or.inl ⟨by rfl, ?_⟩) ?_ ?_
        rotate_left
        ·
         intro w'
         go_simp
         with_reducible rfl
        rotate_left
        ·
         simp only [Act.put, List.setIfInBounds_toArray, List.set_cons_zero, List.set_cons_succ, i64_w, i32_w]
         rfl
        refine take_ (i := 12) (N := some 113) (v := ?_) (a' := ?_) (bs_asts 53 131071) rfl rfl (take_ofW HT_.out HW_.out (by kernel_rfl)) (fun _ _ _ h => h) (Or.inl ⟨by rfl, ?_⟩) hHeld ?_ ?_
        rotate_left
        ·
         rintro w' ⟨s0, s1, s2, s3, s4, s5, s6, s7, s8, s9, s10, s11, s12, s13⟩
         go_simp
         with_reducible rfl
        rotate_left
        ·
         simp only [Act.put, List.setIfInBounds_toArray, List.set_cons_zero, List.set_cons_succ, i64_w, i32_w]
         rfl
        refine take_ (i := 17) (N := some 118) (v := ?_) (a' := ?_) (bs_asts 53 262143) rfl rfl (take_ofW HT_.out HW_.out (by kernel_rfl)) (fun _ _ _ h => h) (Or.inl ⟨by rfl, ?_⟩) hHeld ?_ ?_
        rotate_left
        ·
         rintro w' ⟨s0, s1, s2, s3, s4, s5, s6, s7, s8, s9, s10, s11, s12, s13⟩
         go_simp
         with_reducible rfl
        rotate_left
        ·
         simp only [Act.put, List.setIfInBounds_toArray, List.set_cons_zero, List.set_cons_succ, i64_w, i32_w]
         rfl
        refine pure_ (i := 18) (N := some 119) (v := ?_) (a' := ?_) (bs_asts 53 524287) rfl rfl (any_of HT_.out (by kernel_rfl)) (fun _ _ _ h => h) (Or.inl ⟨by rfl, ?_⟩) ?_ ?_
        rotate_left
        ·
         intro w'
         go_simp
         with_reducible rfl
        rotate_left
        ·
         simp only [Act.put, List.setIfInBounds_toArray, List.set_cons_zero, List.set_cons_succ, i64_w, i32_w]
         rfl
        refine pure_ (i := 19) (N := some 120) (v := ?_) (a' := ?_) (bs_asts 53 1048575) rfl rfl (any_of HT_.out (by kernel_rfl)) (fun _ _ _ h => h) (Or.inl ⟨by rfl, ?_⟩) ?_ ?_
        rotate_left
        ·
         intro w'
         go_simp
         with_reducible rfl
        rotate_left
        ·
         simp only [Act.put, List.setIfInBounds_toArray, List.set_cons_zero, List.set_cons_succ, i64_w, i32_w]
         rfl
        refine pure_ (i := 20) (N := some 121) (v := ?_) (a' := ?_) (bs_asts 53 2097151) rfl rfl (any_of HT_.out (by kernel_rfl)) (fun _ _ _ h => h) (Or.inl ⟨by rfl, ?_⟩) ?_ ?_
        rotate_left
        ·
         intro w'
         go_simp
         with_reducible rfl
        rotate_left
        ·
         simp only [Act.put, List.setIfInBounds_toArray, List.set_cons_zero, List.set_cons_succ, i64_w, i32_w]
         rfl
        refine pure_ (i := 21) (N := some 122) (v := ?_) (a' := ?_) (bs_asts 53 4194303) rfl rfl (any_of HT_.out (by kernel_rfl)) (fun _ _ _ h => h) (Or.inl ⟨by rfl, ?_⟩) ?_ ?_
        rotate_left
        ·
         intro w'
         go_simp
         with_reducible rfl
        rotate_left
        ·
         simp only [Act.put, List.setIfInBounds_toArray, List.set_cons_zero, List.set_cons_succ, i64_w, i32_w]
         rfl
        refine pure_ (i := 22) (N := some 123) (v := ?_) (a' := ?_) (bs_asts 53 8388607) rfl rfl (any_of HT_.out (by kernel_rfl)) (fun _ _ _ h => h) (Or.inl ⟨by rfl, ?_⟩) ?_ ?_
        rotate_left
        ·
         intro w'
         go_simp
         with_reducible rfl
        rotate_left
        ·
         simp only [Act.put, List.setIfInBounds_toArray, List.set_cons_zero, List.set_cons_succ, i64_w, i32_w]
         rfl
        refine pure_ (i := 23) (N := some 124) (v := ?_) (a' := ?_) (bs_asts 53 16777215) rfl rfl (any_of HT_.out (by kernel_rfl)) (fun _ _ _ h => h) (Or.inl ⟨by rfl, ?_⟩) ?_ ?_
        rotate_left
        ·
         intro w'
         go_simp
         with_reducible rfl
        rotate_left
        ·
         simp only [Act.put, List.setIfInBounds_toArray, List.set_cons_zero, List.set_cons_succ, i64_w, i32_w]
         rfl
        refine pure_ (i := 25) (N := some 126) (v := ?_) (a' := ?_) (bs_asts 53 50331647) rfl rfl (any_of HT_.out (by kernel_rfl)) (fun _ _ _ h => h) (Or.inl ⟨by rfl, ?_⟩) ?_ ?_
        rotate_left
        ·
         intro w'
         go_simp
         with_reducible rfl
        rotate_left
        ·
         simp only [Act.put, List.setIfInBounds_toArray, List.set_cons_zero, List.set_cons_succ, i64_w, i32_w]
         rfl
        refine pure_ (i := 30) (N := some 131) (v := ?_) (a' := ?_) (bs_asts 53 1124073471) rfl rfl (any_of HT_.out (by kernel_rfl)) (fun _ _ _ h => h) (Or.inl ⟨by rfl, ?_⟩) ?_ ?_
        rotate_left
        ·
         intro w'
         go_simp
         with_reducible rfl
        rotate_left
        ·
         simp only [Act.put, List.setIfInBounds_toArray, List.set_cons_zero, List.set_cons_succ, i64_w, i32_w]
         rfl
        refine pure_ (i := 31) (N := some 132) (v := ?_) (a' := ?_) (bs_asts 53 3271557119) rfl rfl (any_of HT_.out (by kernel_rfl)) (fun _ _ _ h => h) (Or.inl ⟨by rfl, ?_⟩) ?_ ?_
        rotate_left
        ·
         intro w'
         go_simp
         with_reducible rfl
        rotate_left
        ·
         simp only [Act.put, List.setIfInBounds_toArray, List.set_cons_zero, List.set_cons_succ, i64_w, i32_w]
         rfl
        refine pure_ (i := 32) (N := some 133) (v := ?_) (a' := ?_) (bs_asts 53 7566524415) rfl rfl (any_of HT_.out (by kernel_rfl)) (fun _ _ _ h => h) (Or.inl ⟨by rfl, ?_⟩) ?_ ?_
        rotate_left
        ·
         intro w'
         go_simp
         with_reducible rfl
        rotate_left
        ·
         simp only [Act.put, List.setIfInBounds_toArray, List.set_cons_zero, List.set_cons_succ, i64_w, i32_w]
         rfl
        refine pure_ (i := 33) (N := some 134) (v := ?_) (a' := ?_) (bs_asts 53 16156459007) rfl rfl (any_of HT_.out (by kernel_rfl)) (fun _ _ _ h => h) (Or.inl ⟨by rfl, ?_⟩) ?_ ?_
        rotate_left
        ·
         intro w'
         go_simp
         with_reducible rfl
        rotate_left
        ·
         simp only [Act.put, List.setIfInBounds_toArray, List.set_cons_zero, List.set_cons_succ, i64_w, i32_w]
         rfl
        refine take_ (i := 24) (N := some 125) (v := ?_) (a' := ?_) (bs_asts 53 16173236223) rfl rfl (take_ofW HT_.out HW_.out (by kernel_rfl)) (fun _ _ _ h => h) (Or.inl ⟨by rfl, ?_⟩) hHeld ?_ ?_
        rotate_left
        ·
         rintro w' ⟨s0, s1, s2, s3, s4, s5, s6, s7, s8, s9, s10, s11, s12, s13⟩
         go_simp
         with_reducible rfl
        rotate_left
        ·
         simp only [Act.put, List.setIfInBounds_toArray, List.set_cons_zero, List.set_cons_succ, i64_w, i32_w]
         rfl
        refine pure_ (i := 26) (N := some 127) (v := ?_) (a' := ?_) (bs_asts 53 16240345087) rfl rfl (any_of HT_.out (by kernel_rfl)) (fun _ _ _ h => h) (Or.inl ⟨by rfl, ?_⟩) ?_ ?_
        rotate_left
        ·
         intro w'
         go_simp
         with_reducible rfl
        rotate_left
        ·
         simp only [Act.put, List.setIfInBounds_toArray, List.set_cons_zero, List.set_cons_succ, i64_w, i32_w]
         rfl
        refine pure_ (i := 27) (N := some 128) (v := ?_) (a' := ?_) (bs_asts 53 16374562815) rfl rfl (any_of HT_.out (by kernel_rfl)) (fun _ _ _ h => h) (Or.inl ⟨by rfl, ?_⟩) ?_ ?_
        rotate_left
        ·
         intro w'
         go_simp
         with_reducible rfl
        rotate_left
        ·
         simp only [Act.put, List.setIfInBounds_toArray, List.set_cons_zero, List.set_cons_succ, i64_w, i32_w]
         rfl
        refine take_ (i := 28) (N := some 129) (v := ?_) (a' := ?_) (bs_asts 53 16642998271) rfl rfl (take_ofW HT_.out HW_.out (by kernel_rfl)) (fun _ _ _ h => h) (Or.inl ⟨by rfl, ?_⟩) hHeld ?_ ?_
        rotate_left
        ·
         rintro w' ⟨s0, s1, s2, s3, s4, s5, s6, s7, s8, s9, s10, s11, s12, s13⟩
         go_simp
         with_reducible rfl
        rotate_left
        ·
         simp only [Act.put, List.setIfInBounds_toArray, List.set_cons_zero, List.set_cons_succ, i64_w, i32_w]
         rfl
        refine take_ (i := 29) (N := some 130) (v := ?_) (a' := ?_) (bs_asts 53 17179869183) rfl rfl (take_ofW HT_.out HW_.out (by kernel_rfl)) (fun _ _ _ h => h) (Or.inl ⟨by rfl, ?_⟩) hHeld ?_ ?_
        rotate_left
        ·
         rintro w' ⟨s0, s1, s2, s3, s4, s5, s6, s7, s8, s9, s10, s11, s12, s13⟩
         go_simp
         with_reducible rfl
        rotate_left
        ·
         simp only [Act.put, List.setIfInBounds_toArray, List.set_cons_zero, List.set_cons_succ, i64_w, i32_w]
         rfl
        refine take_ (i := 34) (N := some 135) (v := ?_) (a' := ?_) (bs_asts 53 34359738367) rfl rfl (take_ofW HT_.out HW_.out (by kernel_rfl)) (fun _ _ _ h => h) (Or.inl ⟨by rfl, ?_⟩) hHeld ?_ ?_
        rotate_left
        ·
         rintro w' ⟨s0, s1, s2, s3, s4, s5, s6, s7, s8, s9, s10, s11, s12, s13⟩
         go_simp
         with_reducible rfl
        rotate_left
        ·
         simp only [Act.put, List.setIfInBounds_toArray, List.set_cons_zero, List.set_cons_succ, i64_w, i32_w]
         rfl
        refine take_ (i := 35) (N := some 136) (v := ?_) (a' := ?_) (bs_asts 53 68719476735) rfl rfl (take_ofW HT_.out HW_.out (by kernel_rfl)) (fun _ _ _ h => h) (Or.inl ⟨by rfl, ?_⟩) hHeld ?_ ?_
        rotate_left
        ·
         rintro w' ⟨s0, s1, s2, s3, s4, s5, s6, s7, s8, s9, s10, s11, s12, s13⟩
         go_simp
         with_reducible rfl
        rotate_left
        ·
         simp only [Act.put, List.setIfInBounds_toArray, List.set_cons_zero, List.set_cons_succ, i64_w, i32_w]
         rfl
        refine pure_ (i := 36) (N := some 137) (v := ?_) (a' := ?_) (bs_asts 53 137438953471) rfl rfl (any_of HT_.out (by kernel_rfl)) (fun _ _ _ h => h) (Or.inl ⟨by rfl, ?_⟩) ?_ ?_
        rotate_left
        ·
         intro w'
         go_simp
         with_reducible rfl
        rotate_left
        ·
         simp only [Act.put, List.setIfInBounds_toArray, List.set_cons_zero, List.set_cons_succ, i64_w, i32_w]
         rfl
        refine pure_ (i := 37) (N := some 138) (v := ?_) (a' := ?_) (bs_asts 53 274877906943) rfl rfl (any_of HT_.out (by kernel_rfl)) (fun _ _ _ h => h) (Or.inl ⟨by rfl, ?_⟩) ?_ ?_
        rotate_left
        ·
         intro w'
         go_simp
         with_reducible rfl
        rotate_left
        ·
         simp only [Act.put, List.setIfInBounds_toArray, List.set_cons_zero, List.set_cons_succ, i64_w, i32_w]
         rfl
        refine pure_ (i := 38) (N := some 139) (v := ?_) (a' := ?_) (bs_asts 53 549755813887) rfl rfl (any_of HT_.out (by kernel_rfl)) (fun _ _ _ h => h) (Or.inl ⟨by rfl, ?_⟩) ?_ ?_
        rotate_left
        ·
         intro w'
         go_simp
         with_reducible rfl
        rotate_left
        ·
         simp only [Act.put, List.setIfInBounds_toArray, List.set_cons_zero, List.set_cons_succ, i64_w, i32_w]
         rfl
        refine pure_ (i := 39) (N := some 140) (v := ?_) (a' := ?_) (bs_asts 53 1099511627775) rfl rfl (any_of HT_.out (by kernel_rfl)) (fun _ _ _ h => h) (Or.inl ⟨by rfl, ?_⟩) ?_ ?_
        rotate_left
        ·
         intro w'
         go_simp
         with_reducible rfl
        rotate_left
        ·
         simp only [Act.put, List.setIfInBounds_toArray, List.set_cons_zero, List.set_cons_succ, i64_w, i32_w]
         rfl
        refine pure_ (i := 40) (N := some 141) (v := ?_) (a' := ?_) (bs_asts 53 2199023255551) rfl rfl (any_of HT_.out (by kernel_rfl)) (fun _ _ _ h => h) (Or.inl ⟨by rfl, ?_⟩) ?_ ?_
        rotate_left
        ·
         intro w'
         go_simp
         with_reducible rfl
        rotate_left
        ·
         simp only [Act.put, List.setIfInBounds_toArray, List.set_cons_zero, List.set_cons_succ, i64_w, i32_w]
         rfl
        refine pure_ (i := 41) (N := some 142) (v := ?_) (a' := ?_) (bs_asts 53 4398046511103) rfl rfl (any_of HT_.out (by kernel_rfl)) (fun _ _ _ h => h) (Or.inl ⟨by rfl, ?_⟩) ?_ ?_
        rotate_left
        ·
         intro w'
         go_simp
         with_reducible rfl
        rotate_left
        ·
         simp only [Act.put, List.setIfInBounds_toArray, List.set_cons_zero, List.set_cons_succ, i64_w, i32_w]
         rfl
        refine pure_ (i := 43) (N := some 144) (v := ?_) (a' := ?_) (bs_asts 53 13194139533311) rfl rfl (any_of HT_.out (by kernel_rfl)) (fun _ _ _ h => h) (Or.inl ⟨by rfl, ?_⟩) ?_ ?_
        rotate_left
        ·
         intro w'
         go_simp
         with_reducible rfl
        rotate_left
        ·
         simp only [Act.put, List.setIfInBounds_toArray, List.set_cons_zero, List.set_cons_succ, i64_w, i32_w]
         rfl
        refine pure_ (i := 44) (N := some 145) (v := ?_) (a' := ?_) (bs_asts 53 30786325577727) rfl rfl (any_of HT_.out (by kernel_rfl)) (fun _ _ _ h => h) (Or.inl ⟨by rfl, ?_⟩) ?_ ?_
        rotate_left
        ·
         intro w'
         go_simp
         with_reducible rfl
        rotate_left
        ·
         simp only [Act.put, List.setIfInBounds_toArray, List.set_cons_zero, List.set_cons_succ, i64_w, i32_w]
         rfl
        refine pure_ (i := 45) (N := some 146) (v := ?_) (a' := ?_) (bs_asts 53 65970697666559) rfl rfl (any_of HT_.out (by kernel_rfl)) (fun _ _ _ h => h) (Or.inl ⟨by rfl, ?_⟩) ?_ ?_
        rotate_left
        ·
         intro w'
         go_simp
         with_reducible rfl
        rotate_left
        ·
         simp only [Act.put, List.setIfInBounds_toArray, List.set_cons_zero, List.set_cons_succ, i64_w, i32_w]
         rfl
        refine pure_ (i := 46) (N := some 147) (v := ?_) (a' := ?_) (bs_asts 53 136339441844223) rfl rfl (any_of HT_.out (by kernel_rfl)) (fun _ _ _ h => h) (Or.inl ⟨by rfl, ?_⟩) ?_ ?_
        rotate_left
        ·
         intro w'
         go_simp
         with_reducible rfl
        rotate_left
        ·
         simp only [Act.put, List.setIfInBounds_toArray, List.set_cons_zero, List.set_cons_succ, i64_w, i32_w]
         rfl
        refine take_ (i := 42) (N := some 143) (v := ?_) (a' := ?_) (bs_asts 53 140737488355327) rfl rfl (take_ofW HT_.out HW_.out (by kernel_rfl)) (fun _ _ _ h => h) (Or.inl ⟨by rfl, ?_⟩) hHeld ?_ ?_
        rotate_left
        ·
         rintro w' ⟨s0, s1, s2, s3, s4, s5, s6, s7, s8, s9, s10, s11, s12, s13⟩
         go_simp
         with_reducible rfl
        rotate_left
        ·
         simp only [Act.put, List.setIfInBounds_toArray, List.set_cons_zero, List.set_cons_succ, i64_w, i32_w]
         rfl
        refine take_ (i := 47) (N := some 148) (v := ?_) (a' := ?_) (bs_asts 53 281474976710655) rfl rfl (take_ofW HT_.out HW_.out (by kernel_rfl)) (fun _ _ _ h => h) (Or.inl ⟨by rfl, ?_⟩) hHeld ?_ ?_
        rotate_left
        ·
         rintro w' ⟨s0, s1, s2, s3, s4, s5, s6, s7, s8, s9, s10, s11, s12, s13⟩
         go_simp
         with_reducible rfl
        rotate_left
        ·
         simp only [Act.put, List.setIfInBounds_toArray, List.set_cons_zero, List.set_cons_succ, i64_w, i32_w]
         rfl
        refine pure_ (i := 48) (N := some 149) (v := ?_) (a' := ?_) (bs_asts 53 562949953421311) rfl rfl (any_of HT_.out (by kernel_rfl)) (fun _ _ _ h => h) (Or.inl ⟨by rfl, ?_⟩) ?_ ?_
        rotate_left
        ·
         intro w'
         go_simp
         with_reducible rfl
        rotate_left
        ·
         simp only [Act.put, List.setIfInBounds_toArray, List.set_cons_zero, List.set_cons_succ, i64_w, i32_w]
         rfl
        refine pure_ (i := 49) (N := some 150) (v := ?_) (a' := ?_) (bs_asts 53 1125899906842623) rfl rfl (any_of HT_.out (by kernel_rfl)) (fun _ _ _ h => h) (Or.inl ⟨by rfl, ?_⟩) ?_ ?_
        rotate_left
        ·
         intro w'
         go_simp
         with_reducible rfl
        rotate_left
        ·
         simp only [Act.put, List.setIfInBounds_toArray, List.set_cons_zero, List.set_cons_succ, i64_w, i32_w]
         rfl
        refine pure_ (i := 50) (N := some 151) (v := ?_) (a' := ?_) (bs_asts 53 2251799813685247) rfl rfl (any_of HT_.out (by kernel_rfl)) (fun _ _ _ h => h) (Or.inl ⟨by rfl, ?_⟩) ?_ ?_
        rotate_left
        ·
         intro w'
         go_simp
         with_reducible rfl
        rotate_left
        ·
         simp only [Act.put, List.setIfInBounds_toArray, List.set_cons_zero, List.set_cons_succ, i64_w, i32_w]
         rfl
        refine pure_ (i := 51) (N := some 152) (v := ?_) (a' := ?_) (bs_asts 53 4503599627370495) rfl rfl (any_of HT_.out (by kernel_rfl)) (fun _ _ _ h => h) (Or.inl ⟨by rfl, ?_⟩) ?_ ?_
        rotate_left
        ·
         intro w'
         go_simp
         with_reducible rfl
        rotate_left
        ·
         simp only [Act.put, List.setIfInBounds_toArray, List.set_cons_zero, List.set_cons_succ, i64_w, i32_w]
         rfl
        refine pure_ (i := 52) (N := some 153) (v := ?_) (a' := ?_) (bs_asts 53 9007199254740991) rfl rfl (any_of HT_.out (by kernel_rfl)) (fun _ _ _ h => h) (Or.inl ⟨by rfl, ?_⟩) ?_ ?_
        rotate_left
        ·
         intro w'
         go_simp
         with_reducible rfl
        rotate_left
        ·
         simp only [Act.put, List.setIfInBounds_toArray, List.set_cons_zero, List.set_cons_succ, i64_w, i32_w]
         rfl
        refine done_ (done_of HT_.out (by kernel_rfl)) ?_
        try go_wp2
        go_ret
        exact ⟨by first | rfl | (simp [errW_none, errW_some] <;> rfl) | (simp [*, errW_none, errW_some] <;> rfl), by repeat (first | (with_reducible first | exact HB.out | apply below_alloc | apply pw_below_drewN | apply below_drew1) | exact HB.out)⟩
       rw [if_neg c52] at H
       have c52b0 : ((rdOf false l1 x12_6) != (x14_6 == (wrap64 (((rd_L12 t398 x13_5).length : Int) - 1)))) = false := by simpa using c52
       (try (have c52b1 : decide ((rdOf false l1 x12_6) = (x14_6 == (wrap64 (((rd_L12 t398 x13_5).length : Int) - 1)))) = true := by simpa using c52))
       (try (have c52b2 : ((rdOf false l1 x12_6) == (x14_6 == (wrap64 (((rd_L12 t398 x13_5).length : Int) - 1)))) = true := by simpa using c52))
       clear c52
       have H' := Aside0.mk H
       clear H
       have p403 : 0 ≤ (x13_5 : Int) := of_decide_eq_true (by first | (with_reducible assumption) | assumption)
       have q403 : x13_5 < (t398.length : Int) := of_decide_eq_true (by first | (with_reducible assumption) | assumption)
       obtain ⟨ad403, A403_0, c403_0, e403, hx403_0, hl403_0, hi403_0⟩ := at_L12 (Kd.N_reads' HO_10.out).2.2 x13_5 p403 q403
       cases e403
       obtain ⟨ce403, hce403, hMe403, hcc403⟩ := Kd.N_get HO_10.out [] x13_5 p403 (by first | exact q403 | exact of_decide_eq_true (by first | (with_reducible assumption) | assumption) | (have e_ := (Kd.N_reads' HO_10.out).1; omega))
       obtain ⟨ua403_0, uc403_0, rfl, ul403_0, ge403_0⟩ := Kd.FK_slice_open hMe403
       have hv403_0 := hcc403 0 _ rfl
       rw [Nat.add_zero, show ((Kd.slice 25 k25)).sz = 1 from rfl, Nat.mul_one] at hv403_0
       replace hv403_0 := Option.some.inj (hv403_0.symm.trans hx403_0)
       injection hv403_0 with hva_ hvn_ hvc_
       rw [hva_] at ge403_0
       rw [hvc_] at ul403_0
       have HL403_0 := Aside0.mk (show Kd.V k25 25 _ w.heap.size _ _ (rd_L12 t398 x13_5) from Kd.V_mk ul403_0 ge403_0)
       clear hva_ hvn_ hvc_ ge403_0 ul403_0
       clear hcc403 hce403
       have HR403_0 := Aside0.mk hi403_0
       have HC403_0 := Aside0.mk hl403_0
       clear hi403_0 hl403_0
       replace p403 := eq_true p403
       replace q403 := eq_true q403
       try go_wp2
       have n0_ := Aside0.mk (Kd.N_drew HO_6.out)
       have n1_ := Aside0.mk (Kd.N_drew HO_10.out)
       have n2_ := Aside0.mk (Kd.V_drew HL403_0.out)
       have n3_ := Aside0.mk (Kd.C_drew HR403_0.out)
       have n4_ := Aside0.mk (below_drew1 HB.out)
       clear HO_6
       clear HO_10
       clear HL403_0
       clear HR403_0
       clear HB
       have HO_6 := n0_
       have HO_10 := n1_
       have HL403_0 := n2_
       have HR403_0 := n3_
       have HB := n4_
       clear n0_ n1_ n2_ n3_ n4_
       have p404 : 0 ≤ (x13_5 : Int) := of_decide_eq_true (by first | (with_reducible assumption) | assumption)
       have q404 : x13_5 < (t398.length : Int) := of_decide_eq_true (by first | (with_reducible assumption) | assumption)
       obtain ⟨ad404, A404_0, c404_0, e404, hx404_0, hl404_0, hi404_0⟩ := at_L12 (Kd.N_reads' HO_10.out).2.2 x13_5 p404 q404
       obtain rfl : ad403 = ad404 := (by injection e404)
       obtain ⟨ce404, hce404, hMe404, hcc404⟩ := Kd.N_get HO_10.out [] x13_5 p404 (by first | exact q404 | exact of_decide_eq_true (by first | (with_reducible assumption) | assumption) | (have e_ := (Kd.N_reads' HO_10.out).1; omega))
       obtain ⟨ua404_0, uc404_0, rfl, ul404_0, ge404_0⟩ := Kd.FK_slice_open hMe404
       have hv404_0 := hcc404 0 _ rfl
       rw [Nat.add_zero, show ((Kd.slice 25 k25)).sz = 1 from rfl, Nat.mul_one] at hv404_0
       replace hv404_0 := Option.some.inj (hv404_0.symm.trans hx404_0)
       injection hv404_0 with hva_ hvn_ hvc_
       rw [hva_] at ge404_0
       rw [hvc_] at ul404_0
       have HL404_0 := Aside0.mk (show Kd.V k25 25 _ w.heap.size _ _ (rd_L12 t398 x13_5) from Kd.V_mk ul404_0 ge404_0)
       clear hva_ hvn_ hvc_ ge404_0 ul404_0
       clear hcc404 hce404
       have HR404_0 := Aside0.mk hi404_0
       have HC404_0 := Aside0.mk hl404_0
       clear hi404_0 hl404_0
       replace p404 := eq_true p404
       replace q404 := eq_true q404
       have p405 : 0 ≤ (x14_6 : Int) := of_decide_eq_true (by first | (with_reducible assumption) | assumption)
       have q405 : x14_6 < ((rd_L12 t398 x13_5).length : Int) := of_decide_eq_true (by first | (with_reducible assumption) | assumption)
       obtain ⟨ad405, A405_1, c405_1, e405, hx405_0, hx405_1, hl405_1, hi405_1⟩ := at_T25 (by repeat (first | (with_reducible exact HR404_0.out) | (with_reducible refine Kd.C_alloc ?_ _) | (with_reducible refine Kd.C_drewN ?_ _) | (with_reducible refine Kd.C_drew ?_) | exact HR404_0.out)) x14_6 p405 q405
       cases e405
       obtain ⟨ce405, hce405, hMe405, hcc405⟩ := Kd.V_get HL404_0.out z25 x14_6 p405 (by first | exact q405 | exact of_decide_eq_true (by first | (with_reducible assumption) | assumption) | (have e_ := (Kd.V_reads' HL404_0.out).1; omega))
       obtain ⟨ua405_1, uc405_1, rfl, ul405_1, ge405_1⟩ := k25_openF hMe405
       have hv405_1 := hcc405 1 _ rfl
       rw [add_field _ _ 1 (by omega)] at hv405_1
       replace hv405_1 := Option.some.inj (hv405_1.symm.trans hx405_1)
       injection hv405_1 with hva_ hvn_ hvc_
       rw [hva_] at ge405_1
       rw [hvc_] at ul405_1
       have HL405_1 := Aside0.mk (show Kd.V (Kd.int .u8) 5 _ w.heap.size _ _ ((rd_T25 (rd_L12 t398 x13_5) x14_6).f1) from Kd.V_mk ul405_1 ge405_1)
       clear hva_ hvn_ hvc_ ge405_1 ul405_1
       clear hcc405 hce405
       have HR405_1 := Aside0.mk hi405_1
       have HC405_1 := Aside0.mk hl405_1
       clear hi405_1 hl405_1
       replace p405 := eq_true p405
       replace q405 := eq_true q405
       have p406 : 0 ≤ (x12_6 : Int) := of_decide_eq_true (by first | (with_reducible assumption) | assumption)
       have q406 : x12_6 < (t389.length : Int) := of_decide_eq_true (by first | (with_reducible assumption) | assumption)
       obtain ⟨ad406, A406_1, c406_1, e406, hx406_0, hx406_1, hl406_1, hi406_1⟩ := at_T25 (Kd.N_reads' HO_6.out).2.2 x12_6 p406 q406
       cases e406
       obtain ⟨ce406, hce406, hMe406, hcc406⟩ := Kd.N_get HO_6.out z25 x12_6 p406 (by first | exact q406 | exact of_decide_eq_true (by first | (with_reducible assumption) | assumption) | (have e_ := (Kd.N_reads' HO_6.out).1; omega))
       obtain ⟨ua406_1, uc406_1, rfl, ul406_1, ge406_1⟩ := k25_openF hMe406
       have hv406_1 := hcc406 1 _ rfl
       rw [add_field _ _ 1 (by omega)] at hv406_1
       replace hv406_1 := Option.some.inj (hv406_1.symm.trans hx406_1)
       injection hv406_1 with hva_ hvn_ hvc_
       rw [hva_] at ge406_1
       rw [hvc_] at ul406_1
       have HL406_1 := Aside0.mk (show Kd.V (Kd.int .u8) 5 _ w.heap.size _ _ ((rd_T25 t389 x12_6).f1) from Kd.V_mk ul406_1 ge406_1)
       clear hva_ hvn_ hvc_ ge406_1 ul406_1
       clear hcc406 hce406
       have HR406_1 := Aside0.mk hi406_1
       have HC406_1 := Aside0.mk hl406_1
       clear hi406_1 hl406_1
       replace p406 := eq_true p406
       replace q406 := eq_true q406
       have p407 : 0 ≤ (x13_5 : Int) := of_decide_eq_true (by first | (with_reducible assumption) | assumption)
       have q407 : x13_5 < (t398.length : Int) := of_decide_eq_true (by first | (with_reducible assumption) | assumption)
       obtain ⟨ad407, A407_0, c407_0, e407, hx407_0, hl407_0, hi407_0⟩ := at_L12 (Kd.N_reads' HO_10.out).2.2 x13_5 p407 q407
       obtain rfl : ad403 = ad407 := (by injection e407)
       obtain ⟨ce407, hce407, hMe407, hcc407⟩ := Kd.N_get HO_10.out [] x13_5 p407 (by first | exact q407 | exact of_decide_eq_true (by first | (with_reducible assumption) | assumption) | (have e_ := (Kd.N_reads' HO_10.out).1; omega))
       obtain ⟨ua407_0, uc407_0, rfl, ul407_0, ge407_0⟩ := Kd.FK_slice_open hMe407
       have hv407_0 := hcc407 0 _ rfl
       rw [Nat.add_zero, show ((Kd.slice 25 k25)).sz = 1 from rfl, Nat.mul_one] at hv407_0
       replace hv407_0 := Option.some.inj (hv407_0.symm.trans hx407_0)
       injection hv407_0 with hva_ hvn_ hvc_
       rw [hva_] at ge407_0
       rw [hvc_] at ul407_0
       have HL407_0 := Aside0.mk (show Kd.V k25 25 _ w.heap.size _ _ (rd_L12 t398 x13_5) from Kd.V_mk ul407_0 ge407_0)
       clear hva_ hvn_ hvc_ ge407_0 ul407_0
       clear hcc407 hce407
       have HR407_0 := Aside0.mk hi407_0
       have HC407_0 := Aside0.mk hl407_0
       clear hi407_0 hl407_0
       replace p407 := eq_true p407
       replace q407 := eq_true q407
       have ea_ := Option.some.inj (hx404_0.symm.trans hx407_0)
       injection ea_ with ea_ en_ ec_
       subst ea_
       subst ec_
       clear en_
       have p408 : 0 ≤ (x14_6 : Int) := of_decide_eq_true (by first | (with_reducible assumption) | assumption)
       have q408 : x14_6 < ((rd_L12 t398 x13_5).length : Int) := of_decide_eq_true (by first | (with_reducible assumption) | assumption)
       obtain ⟨ad408, A408_1, c408_1, e408, hx408_0, hx408_1, hl408_1, hi408_1⟩ := at_T25 (by repeat (first | (with_reducible exact HR407_0.out) | (with_reducible refine Kd.C_alloc ?_ _) | (with_reducible refine Kd.C_drewN ?_ _) | (with_reducible refine Kd.C_drew ?_) | exact HR407_0.out)) x14_6 p408 q408
       cases e408
       obtain ⟨ce408, hce408, hMe408, hcc408⟩ := Kd.V_get HL407_0.out z25 x14_6 p408 (by first | exact q408 | exact of_decide_eq_true (by first | (with_reducible assumption) | assumption) | (have e_ := (Kd.V_reads' HL407_0.out).1; omega))
       obtain ⟨ua408_1, uc408_1, rfl, ul408_1, ge408_1⟩ := k25_openF hMe408
       have hv408_1 := hcc408 1 _ rfl
       rw [add_field _ _ 1 (by omega)] at hv408_1
       replace hv408_1 := Option.some.inj (hv408_1.symm.trans hx408_1)
       injection hv408_1 with hva_ hvn_ hvc_
       rw [hva_] at ge408_1
       rw [hvc_] at ul408_1
       have HL408_1 := Aside0.mk (show Kd.V (Kd.int .u8) 5 _ w.heap.size _ _ ((rd_T25 (rd_L12 t398 x13_5) x14_6).f1) from Kd.V_mk ul408_1 ge408_1)
       clear hva_ hvn_ hvc_ ge408_1 ul408_1
       clear hcc408 hce408
       have HR408_1 := Aside0.mk hi408_1
       have HC408_1 := Aside0.mk hl408_1
       clear hi408_1 hl408_1
       replace p408 := eq_true p408
       replace q408 := eq_true q408
       have p409 : 0 ≤ (x12_6 : Int) := of_decide_eq_true (by first | (with_reducible assumption) | assumption)
       have q409 : x12_6 < (t389.length : Int) := of_decide_eq_true (by first | (with_reducible assumption) | assumption)
       obtain ⟨ad409, A409_1, c409_1, e409, hx409_0, hx409_1, hl409_1, hi409_1⟩ := at_T25 (Kd.N_reads' HO_6.out).2.2 x12_6 p409 q409
       obtain rfl : ad406 = ad409 := (by injection e409)
       obtain ⟨ce409, hce409, hMe409, hcc409⟩ := Kd.N_get HO_6.out z25 x12_6 p409 (by first | exact q409 | exact of_decide_eq_true (by first | (with_reducible assumption) | assumption) | (have e_ := (Kd.N_reads' HO_6.out).1; omega))
       obtain ⟨ua409_1, uc409_1, rfl, ul409_1, ge409_1⟩ := k25_openF hMe409
       have hv409_1 := hcc409 1 _ rfl
       rw [add_field _ _ 1 (by omega)] at hv409_1
       replace hv409_1 := Option.some.inj (hv409_1.symm.trans hx409_1)
       injection hv409_1 with hva_ hvn_ hvc_
       rw [hva_] at ge409_1
       rw [hvc_] at ul409_1
       have HL409_1 := Aside0.mk (show Kd.V (Kd.int .u8) 5 _ w.heap.size _ _ ((rd_T25 t389 x12_6).f1) from Kd.V_mk ul409_1 ge409_1)
       clear hva_ hvn_ hvc_ ge409_1 ul409_1
       clear hcc409 hce409
       have HR409_1 := Aside0.mk hi409_1
       have HC409_1 := Aside0.mk hl409_1
       clear hi409_1 hl409_1
       replace p409 := eq_true p409
       replace q409 := eq_true q409
       have ea_ := Option.some.inj (hx406_1.symm.trans hx409_1)
       injection ea_ with ea_ en_ ec_
       subst ea_
       subst ec_
       clear en_
       have eb_ := Option.some.inj (hx405_1.symm.trans hx408_1)
       injection eb_ with eba_ ebn_ ebc_
       subst eba_
       subst ebc_
       clear ebn_
       have hcv58 := Kd.C_string (P := Try.prog) (A := A405_1) (c := c405_1) Try.underlying23 Try.underlying5 Try.underlying9 (by repeat (first | (with_reducible exact HR408_1.out) | (with_reducible refine Kd.C_alloc ?_ _) | (with_reducible refine Kd.C_drewN ?_ _) | (with_reducible refine Kd.C_drew ?_) | exact HR408_1.out))
       have hcv59 := Kd.C_string (P := Try.prog) (A := A406_1) (c := c406_1) Try.underlying23 Try.underlying5 Try.underlying9 (by repeat (first | (with_reducible exact HR409_1.out) | (with_reducible refine Kd.C_alloc ?_ _) | (with_reducible refine Kd.C_drewN ?_ _) | (with_reducible refine Kd.C_drew ?_) | exact HR409_1.out))
       have p410 : 0 ≤ (x12_6 : Int) := of_decide_eq_true (by first | (with_reducible assumption) | assumption)
       have q410 : x12_6 < (l1.length : Int) := of_decide_eq_true (by first | (with_reducible assumption) | assumption)
       obtain ⟨ad410, e410, hx410_0⟩ := Kd.at_bool HR1.out x12_6 p410 q410
       have hw410_0 := hx410_0
       cases e410
       replace hx410_0 := (HB.out.cell (World.block_lt_of_cell? w _ hx410_0)).trans hx410_0
       replace p410 := eq_true p410
       replace q410 := eq_true q410
       have p411 : 0 ≤ (x13_5 : Int) := of_decide_eq_true (by first | (with_reducible assumption) | assumption)
       have q411 : x13_5 < (t398.length : Int) := of_decide_eq_true (by first | (with_reducible assumption) | assumption)
       obtain ⟨ad411, A411_0, c411_0, e411, hx411_0, hl411_0, hi411_0⟩ := at_L12 (Kd.N_reads' HO_10.out).2.2 x13_5 p411 q411
       obtain rfl : ad403 = ad411 := (by injection e411)
       obtain ⟨ce411, hce411, hMe411, hcc411⟩ := Kd.N_get HO_10.out [] x13_5 p411 (by first | exact q411 | exact of_decide_eq_true (by first | (with_reducible assumption) | assumption) | (have e_ := (Kd.N_reads' HO_10.out).1; omega))
       obtain ⟨ua411_0, uc411_0, rfl, ul411_0, ge411_0⟩ := Kd.FK_slice_open hMe411
       have hv411_0 := hcc411 0 _ rfl
       rw [Nat.add_zero, show ((Kd.slice 25 k25)).sz = 1 from rfl, Nat.mul_one] at hv411_0
       replace hv411_0 := Option.some.inj (hv411_0.symm.trans hx411_0)
       injection hv411_0 with hva_ hvn_ hvc_
       rw [hva_] at ge411_0
       rw [hvc_] at ul411_0
       have HL411_0 := Aside0.mk (show Kd.V k25 25 _ w.heap.size _ _ (rd_L12 t398 x13_5) from Kd.V_mk ul411_0 ge411_0)
       clear hva_ hvn_ hvc_ ge411_0 ul411_0
       clear hcc411 hce411
       have HR411_0 := Aside0.mk hi411_0
       have HC411_0 := Aside0.mk hl411_0
       clear hi411_0 hl411_0
       replace p411 := eq_true p411
       replace q411 := eq_true q411
       refine start_ (n := 53) (S := fun w' => w'.cell? (ad403.add (x13_5).toNat) = some (.slice (some ad405) (rd_L12 t398 x13_5).length c404_0) ∧ w'.cell? (ad405.add ((x14_6).toNat * 2)) = some (.int .u64 ((rd_T25 (rd_L12 t398 x13_5) x14_6).f0)) ∧ w'.cell? ⟨(ad405.add ((x14_6).toNat * 2)).block, (ad405.add ((x14_6).toNat * 2)).off + 1, none⟩ = some (.slice A405_1 ((rd_T25 (rd_L12 t398 x13_5) x14_6).f1).length c405_1) ∧ w'.cell? (ad406.add ((x12_6).toNat * 2)) = some (.int .u64 ((rd_T25 t389 x12_6).f0)) ∧ w'.cell? ⟨(ad406.add ((x12_6).toNat * 2)).block, (ad406.add ((x12_6).toNat * 2)).off + 1, none⟩ = some (.slice A406_1 ((rd_T25 t389 x12_6).f1).length c406_1) ∧ w'.cell? (ad403.add (x13_5).toNat) = some (.slice (some ad405) (rd_L12 t398 x13_5).length c404_0) ∧ w'.cell? (ad405.add ((x14_6).toNat * 2)) = some (.int .u64 ((rd_T25 (rd_L12 t398 x13_5) x14_6).f0)) ∧ w'.cell? ⟨(ad405.add ((x14_6).toNat * 2)).block, (ad405.add ((x14_6).toNat * 2)).off + 1, none⟩ = some (.slice A405_1 ((rd_T25 (rd_L12 t398 x13_5) x14_6).f1).length c405_1) ∧ w'.cell? (ad406.add ((x12_6).toNat * 2)) = some (.int .u64 ((rd_T25 t389 x12_6).f0)) ∧ w'.cell? ⟨(ad406.add ((x12_6).toNat * 2)).block, (ad406.add ((x12_6).toNat * 2)).off + 1, none⟩ = some (.slice A406_1 ((rd_T25 t389 x12_6).f1).length c406_1) ∧ w'.cell? (ad410.add (x12_6).toNat) = some (.bool (rdOf false l1 x12_6)) ∧ w'.cell? (ad403.add (x13_5).toNat) = some (.slice A411_0 (rd_L12 t398 x13_5).length c411_0) ∧ (convert 23 9 (.slice A405_1 ((rd_T25 (rd_L12 t398 x13_5) x14_6).f1).length c405_1)).run Try.prog w' = .ok (.string (strOfNums ((rd_T25 (rd_L12 t398 x13_5) x14_6).f1))) w' ∧ (convert 23 9 (.slice A406_1 ((rd_T25 t389 x12_6).f1).length c406_1)).run Try.prog w' = .ok (.string (strOfNums ((rd_T25 t389 x12_6).f1))) w') (ds := []) (bs_asts 53 0) (by kernel_rfl) rfl rfl ⟨hx404_0, hx405_0, hx405_1, hx406_0, hx406_1, hx407_0, hx408_0, hx408_1, hx409_0, hx409_1, ((HB.out.cell (World.block_lt_of_cell? w _ hw410_0)).trans hw410_0), hx411_0, hcv58, hcv59⟩ (fun hHeld => ?_); refine with_tabW reliquarylaw12_RecordLasts.tab27 reliquarylaw12_RecordLasts.bits27 (fun HT_ HW_ => ?_)
       generalize wr.drew = w57 at HO_6 HO_10 HL403_0 HR403_0 HB HL404_0 HL405_1 HL406_1 HL407_0 HL408_1 HL409_1 HL411_0 HR404_0 HR405_1 HR406_1 HR407_0 HR408_1 HR409_1 HR411_0 hx404_0 hx405_0 hx405_1 hx406_0 hx406_1 hx407_0 hx408_0 hx408_1 hx409_0 hx409_1 hx410_0 hx411_0 hHeld ⊢
       refine pure_ (i := 0) (N := some 101) (v := ?_) (a' := ?_) (bs_asts 53 1) rfl rfl (any_of HT_.out (by kernel_rfl)) (fun _ _ _ h => h) (Or.inl ⟨by rfl, ?_⟩) ?_ ?_
       rotate_left
       ·
        intro w'
        go_simp
        with_reducible rfl
       rotate_left
       ·
        simp only [Act.put, List.setIfInBounds_toArray, List.set_cons_zero, List.set_cons_succ, i64_w, i32_w]
        rfl
       refine pure_ (i := 1) (N := some 102) (v := ?_) (a' := ?_) (bs_asts 53 3) rfl rfl (any_of HT_.out (by kernel_rfl)) (fun _ _ _ h => h) (Or.inl ⟨by rfl, ?_⟩) ?_ ?_
       rotate_left
       ·
        intro w'
        go_simp
        with_reducible rfl
       rotate_left
       ·
        simp only [Act.put, List.setIfInBounds_toArray, List.set_cons_zero, List.set_cons_succ, i64_w, i32_w]
        rfl
       refine pure_ (i := 2) (N := some 103) (v := ?_) (a' := ?_) (bs_asts 53 7) rfl rfl (any_of HT_.out (by kernel_rfl)) (fun _ _ _ h => h) (Or.inl ⟨by rfl, ?_⟩) ?_ ?_
       rotate_left
       ·
        intro w'
        go_simp
        with_reducible rfl
       rotate_left
       ·
        simp only [Act.put, List.setIfInBounds_toArray, List.set_cons_zero, List.set_cons_succ, i64_w, i32_w]
        rfl
       refine pure_ (i := 3) (N := some 104) (v := ?_) (a' := ?_) (bs_asts 53 15) rfl rfl (any_of HT_.out (by kernel_rfl)) (fun _ _ _ h => h) (Or.inl ⟨by rfl, ?_⟩) ?_ ?_
       rotate_left
       ·
        intro w'
        go_simp
        with_reducible rfl
       rotate_left
       ·
        simp only [Act.put, List.setIfInBounds_toArray, List.set_cons_zero, List.set_cons_succ, i64_w, i32_w]
        rfl
       refine pure_ (i := 4) (N := some 105) (v := ?_) (a' := ?_) (bs_asts 53 31) rfl rfl (any_of HT_.out (by kernel_rfl)) (fun _ _ _ h => h) (Or.inl ⟨by rfl, ?_⟩) ?_ ?_
       rotate_left
       ·
        intro w'
        go_simp
        with_reducible rfl
       rotate_left
       ·
        simp only [Act.put, List.setIfInBounds_toArray, List.set_cons_zero, List.set_cons_succ, i64_w, i32_w]
        rfl
       refine pure_ (i := 5) (N := some 106) (v := ?_) (a' := ?_) (bs_asts 53 63) rfl rfl (any_of HT_.out (by kernel_rfl)) (fun _ _ _ h => h) (Or.inl ⟨by rfl, ?_⟩) ?_ ?_
       rotate_left
       ·
        intro w'
        go_simp
        with_reducible rfl
       rotate_left
       ·
        simp only [Act.put, List.setIfInBounds_toArray, List.set_cons_zero, List.set_cons_succ, i64_w, i32_w]
        rfl
       refine pure_ (i := 6) (N := some 107) (v := ?_) (a' := ?_) (bs_asts 53 127) rfl rfl (any_of HT_.out (by kernel_rfl)) (fun _ _ _ h => h) (Or.inl ⟨by rfl, ?_⟩) ?_ ?_
       rotate_left
       ·
        intro w'
        go_simp
        with_reducible rfl
       rotate_left
       ·
        simp only [Act.put, List.setIfInBounds_toArray, List.set_cons_zero, List.set_cons_succ, i64_w, i32_w]
        rfl
       refine pure_ (i := 7) (N := some 108) (v := ?_) (a' := ?_) (bs_asts 53 255) rfl rfl (any_of HT_.out (by kernel_rfl)) (fun _ _ _ h => h) (Or.inl ⟨by rfl, ?_⟩) ?_ ?_
       rotate_left
       ·
        intro w'
        go_simp
        with_reducible rfl
       rotate_left
       ·
        simp only [Act.put, List.setIfInBounds_toArray, List.set_cons_zero, List.set_cons_succ, i64_w, i32_w]
        rfl
       refine pure_ (i := 9) (N := some 110) (v := ?_) (a' := ?_) (bs_asts 53 767) rfl rfl (any_of HT_.out (by kernel_rfl)) (fun _ _ _ h => h) (Or.inl ⟨by rfl, ?_⟩) ?_ ?_
       rotate_left
       ·
        intro w'
        go_simp
        with_reducible rfl
       rotate_left
       ·
        simp only [Act.put, List.setIfInBounds_toArray, List.set_cons_zero, List.set_cons_succ, i64_w, i32_w]
        rfl
       refine pure_ (i := 13) (N := some 114) (v := ?_) (a' := ?_) (bs_asts 53 8959) rfl rfl (any_of HT_.out (by kernel_rfl)) (fun _ _ _ h => h) (Or.inl ⟨by rfl, ?_⟩) ?_ ?_
       rotate_left
       ·
        intro w'
        go_simp
        with_reducible rfl
       rotate_left
       ·
        simp only [Act.put, List.setIfInBounds_toArray, List.set_cons_zero, List.set_cons_succ, i64_w, i32_w]
        rfl
       refine pure_ (i := 14) (N := some 115) (v := ?_) (a' := ?_) (bs_asts 53 25343) rfl rfl (any_of HT_.out (by kernel_rfl)) (fun _ _ _ h => h) (Or.inl ⟨by rfl, ?_⟩) ?_ ?_
       rotate_left
       ·
        intro w'
        go_simp
        with_reducible rfl
       rotate_left
       ·
        simp only [Act.put, List.setIfInBounds_toArray, List.set_cons_zero, List.set_cons_succ, i64_w, i32_w]
        rfl
       refine pure_ (i := 15) (N := some 116) (v := ?_) (a' := ?_) (bs_asts 53 58111) rfl rfl (any_of HT_.out (by kernel_rfl)) (fun _ _ _ h => h) (Or.inl ⟨by rfl, ?_⟩) ?_ ?_
       rotate_left
       ·
        intro w'
        go_simp
        with_reducible rfl
       rotate_left
       ·
        simp only [Act.put, List.setIfInBounds_toArray, List.set_cons_zero, List.set_cons_succ, i64_w, i32_w]
        rfl
       refine pure_ (i := 16) (N := some 117) (v := ?_) (a' := ?_) (bs_asts 53 123647) rfl rfl (any_of HT_.out (by kernel_rfl)) (fun _ _ _ h => h) (Or.inl ⟨by rfl, ?_⟩) ?_ ?_
       rotate_left
       ·
        intro w'
        go_simp
        with_reducible rfl
       rotate_left
       ·
        simp only [Act.put, List.setIfInBounds_toArray, List.set_cons_zero, List.set_cons_succ, i64_w, i32_w]
        rfl
       refine take_ (i := 8) (N := some 109) (v := ?_) (a' := ?_) (bs_asts 53 123903) rfl rfl (take_ofW HT_.out HW_.out (by kernel_rfl)) (fun _ _ _ h => h) (Or.inl ⟨by rfl, ?_⟩) hHeld ?_ ?_
       rotate_left
       ·
        rintro w' ⟨s0, s1, s2, s3, s4, s5, s6, s7, s8, s9, s10, s11, s12, s13⟩
        go_simp
        with_reducible rfl
       rotate_left
       ·
        simp only [Act.put, List.setIfInBounds_toArray, List.set_cons_zero, List.set_cons_succ, i64_w, i32_w]
        rfl
       refine pure_ (i := 10) (N := some 111) (v := ?_) (a' := ?_) (bs_asts 53 124927) rfl rfl (any_of HT_.out (by kernel_rfl)) (fun _ _ _ h => h) (Or.inl ⟨by rfl, ?_⟩) ?_ ?_
       rotate_left
       ·
        intro w'
        go_simp
        with_reducible rfl
       rotate_left
       ·
        simp only [Act.put, List.setIfInBounds_toArray, List.set_cons_zero, List.set_cons_succ, i64_w, i32_w]
        rfl
       refine pure_ (i := 11) (N := some 112) (v := ?_) (a' := ?_) (bs_asts 53 126975) rfl rfl (any_of HT_.out (by kernel_rfl)) (fun _ _ _ h => h) (Or.inl ⟨by rfl, ?_⟩) ?_ ?_
       rotate_left
       ·
        intro w'
        go_simp
        with_reducible rfl
       rotate_left
       ·
        simp only [Act.put, List.setIfInBounds_toArray, List.set_cons_zero, List.set_cons_succ, i64_w, i32_w]
        rfl
       refine take_ (i := 12) (N := some 113) (v := ?_) (a' := ?_) (bs_asts 53 131071) rfl rfl (take_ofW HT_.out HW_.out (by kernel_rfl)) (fun _ _ _ h => h) (Or.inl ⟨by rfl, ?_⟩) hHeld ?_ ?_
       rotate_left
       ·
        rintro w' ⟨s0, s1, s2, s3, s4, s5, s6, s7, s8, s9, s10, s11, s12, s13⟩
        go_simp
        with_reducible rfl
       rotate_left
       ·
        simp only [Act.put, List.setIfInBounds_toArray, List.set_cons_zero, List.set_cons_succ, i64_w, i32_w]
        rfl
       refine take_ (i := 17) (N := some 118) (v := ?_) (a' := ?_) (bs_asts 53 262143) rfl rfl (take_ofW HT_.out HW_.out (by kernel_rfl)) (fun _ _ _ h => h) (Or.inl ⟨by rfl, ?_⟩) hHeld ?_ ?_
       rotate_left
       ·
        rintro w' ⟨s0, s1, s2, s3, s4, s5, s6, s7, s8, s9, s10, s11, s12, s13⟩
        go_simp
        with_reducible rfl
       rotate_left
       ·
        simp only [Act.put, List.setIfInBounds_toArray, List.set_cons_zero, List.set_cons_succ, i64_w, i32_w]
        rfl
       refine pure_ (i := 18) (N := some 119) (v := ?_) (a' := ?_) (bs_asts 53 524287) rfl rfl (any_of HT_.out (by kernel_rfl)) (fun _ _ _ h => h) (Or.inl ⟨by rfl, ?_⟩) ?_ ?_
       rotate_left
       ·
        intro w'
        go_simp
        with_reducible rfl
       rotate_left
       ·
        simp only [Act.put, List.setIfInBounds_toArray, List.set_cons_zero, List.set_cons_succ, i64_w, i32_w]
        rfl
       refine pure_ (i := 19) (N := some 120) (v := ?_) (a' := ?_) (bs_asts 53 1048575) rfl rfl (any_of HT_.out (by kernel_rfl)) (fun _ _ _ h => h) (Or.inl ⟨by rfl, ?_⟩) ?_ ?_
       rotate_left
       ·
        intro w'
        go_simp
        with_reducible rfl
       rotate_left
       ·
        simp only [Act.put, List.setIfInBounds_toArray, List.set_cons_zero, List.set_cons_succ, i64_w, i32_w]
        rfl
       refine pure_ (i := 20) (N := some 121) (v := ?_) (a' := ?_) (bs_asts 53 2097151) rfl rfl (any_of HT_.out (by kernel_rfl)) (fun _ _ _ h => h) (Or.inl ⟨by rfl, ?_⟩) ?_ ?_
       rotate_left
       ·
        intro w'
        go_simp
        with_reducible rfl
       rotate_left
       ·
        simp only [Act.put, List.setIfInBounds_toArray, List.set_cons_zero, List.set_cons_succ, i64_w, i32_w]
        rfl
       refine pure_ (i := 21) (N := some 122) (v := ?_) (a' := ?_) (bs_asts 53 4194303) rfl rfl (any_of HT_.out (by kernel_rfl)) (fun _ _ _ h => h) (Or.inl ⟨by rfl, ?_⟩) ?_ ?_
       rotate_left
       ·
        intro w'
        go_simp
        with_reducible rfl
       rotate_left
       ·
        simp only [Act.put, List.setIfInBounds_toArray, List.set_cons_zero, List.set_cons_succ, i64_w, i32_w]
        rfl
       refine pure_ (i := 22) (N := some 123) (v := ?_) (a' := ?_) (bs_asts 53 8388607) rfl rfl (any_of HT_.out (by kernel_rfl)) (fun _ _ _ h => h) (Or.inl ⟨by rfl, ?_⟩) ?_ ?_
       rotate_left
       ·
        intro w'
        go_simp
        with_reducible rfl
       rotate_left
       ·
        simp only [Act.put, List.setIfInBounds_toArray, List.set_cons_zero, List.set_cons_succ, i64_w, i32_w]
        rfl
       refine pure_ (i := 23) (N := some 124) (v := ?_) (a' := ?_) (bs_asts 53 16777215) rfl rfl (any_of HT_.out (by kernel_rfl)) (fun _ _ _ h => h) (Or.inl ⟨by rfl, ?_⟩) ?_ ?_
       rotate_left
       ·
        intro w'
        go_simp
        with_reducible rfl
       rotate_left
       ·
        simp only [Act.put, List.setIfInBounds_toArray, List.set_cons_zero, List.set_cons_succ, i64_w, i32_w]
        rfl
       refine pure_ (i := 25) (N := some 126) (v := ?_) (a' := ?_) (bs_asts 53 50331647) rfl rfl (any_of HT_.out (by kernel_rfl)) (fun _ _ _ h => h) (Or.inl ⟨by rfl, ?_⟩) ?_ ?_
       rotate_left
       ·
        intro w'
        go_simp
        with_reducible rfl
       rotate_left
       ·
        simp only [Act.put, List.setIfInBounds_toArray, List.set_cons_zero, List.set_cons_succ, i64_w, i32_w]
        rfl
       refine pure_ (i := 30) (N := some 131) (v := ?_) (a' := ?_) (bs_asts 53 1124073471) rfl rfl (any_of HT_.out (by kernel_rfl)) (fun _ _ _ h => h) (Or.inl ⟨by rfl, ?_⟩) ?_ ?_
       rotate_left
       ·
        intro w'
        go_simp
        with_reducible rfl
       rotate_left
       ·
        simp only [Act.put, List.setIfInBounds_toArray, List.set_cons_zero, List.set_cons_succ, i64_w, i32_w]
        rfl
       refine pure_ (i := 31) (N := some 132) (v := ?_) (a' := ?_) (bs_asts 53 3271557119) rfl rfl (any_of HT_.out (by kernel_rfl)) (fun _ _ _ h => h) (Or.inl ⟨by rfl, ?_⟩) ?_ ?_
       rotate_left
       ·
        intro w'
        go_simp
        with_reducible rfl
       rotate_left
       ·
        simp only [Act.put, List.setIfInBounds_toArray, List.set_cons_zero, List.set_cons_succ, i64_w, i32_w]
        rfl
       refine pure_ (i := 32) (N := some 133) (v := ?_) (a' := ?_) (bs_asts 53 7566524415) rfl rfl (any_of HT_.out (by kernel_rfl)) (fun _ _ _ h => h) (Or.inl ⟨by rfl, ?_⟩) ?_ ?_
       rotate_left
       ·
        intro w'
        go_simp
        with_reducible rfl
       rotate_left
       ·
        simp only [Act.put, List.setIfInBounds_toArray, List.set_cons_zero, List.set_cons_succ, i64_w, i32_w]
        rfl
       refine pure_ (i := 33) (N := some 134) (v := ?_) (a' := ?_) (bs_asts 53 16156459007) rfl rfl (any_of HT_.out (by kernel_rfl)) (fun _ _ _ h => h) (Or.inl ⟨by rfl, ?_⟩) ?_ ?_
       rotate_left
       ·
        intro w'
        go_simp
        with_reducible rfl
       rotate_left
       ·
        simp only [Act.put, List.setIfInBounds_toArray, List.set_cons_zero, List.set_cons_succ, i64_w, i32_w]
        rfl
       refine take_ (i := 24) (N := some 125) (v := ?_) (a' := ?_) (bs_asts 53 16173236223) rfl rfl (take_ofW HT_.out HW_.out (by kernel_rfl)) (fun _ _ _ h => h) (Or.inl ⟨by rfl, ?_⟩) hHeld ?_ ?_
       rotate_left
       ·
        rintro w' ⟨s0, s1, s2, s3, s4, s5, s6, s7, s8, s9, s10, s11, s12, s13⟩
        go_simp
        with_reducible rfl
       rotate_left
       ·
        simp only [Act.put, List.setIfInBounds_toArray, List.set_cons_zero, List.set_cons_succ, i64_w, i32_w]
        rfl
       refine pure_ (i := 26) (N := some 127) (v := ?_) (a' := ?_) (bs_asts 53 16240345087) rfl rfl (any_of HT_.out (by kernel_rfl)) (fun _ _ _ h => h) (Or.inl ⟨by rfl, ?_⟩) ?_ ?_
       rotate_left
       ·
        intro w'
        go_simp
        with_reducible rfl
       rotate_left
       ·
        simp only [Act.put, List.setIfInBounds_toArray, List.set_cons_zero, List.set_cons_succ, i64_w, i32_w]
        rfl
       refine pure_ (i := 27) (N := some 128) (v := ?_) (a' := ?_) (bs_asts 53 16374562815) rfl rfl (any_of HT_.out (by kernel_rfl)) (fun _ _ _ h => h) (Or.inl ⟨by rfl, ?_⟩) ?_ ?_
       rotate_left
       ·
        intro w'
        go_simp
        with_reducible rfl
       rotate_left
       ·
        simp only [Act.put, List.setIfInBounds_toArray, List.set_cons_zero, List.set_cons_succ, i64_w, i32_w]
        rfl
       refine take_ (i := 28) (N := some 129) (v := ?_) (a' := ?_) (bs_asts 53 16642998271) rfl rfl (take_ofW HT_.out HW_.out (by kernel_rfl)) (fun _ _ _ h => h) (Or.inl ⟨by rfl, ?_⟩) hHeld ?_ ?_
       rotate_left
       ·
        rintro w' ⟨s0, s1, s2, s3, s4, s5, s6, s7, s8, s9, s10, s11, s12, s13⟩
        go_simp
        with_reducible rfl
       rotate_left
       ·
        simp only [Act.put, List.setIfInBounds_toArray, List.set_cons_zero, List.set_cons_succ, i64_w, i32_w]
        rfl
       refine take_ (i := 29) (N := some 130) (v := ?_) (a' := ?_) (bs_asts 53 17179869183) rfl rfl (take_ofW HT_.out HW_.out (by kernel_rfl)) (fun _ _ _ h => h) (Or.inl ⟨by rfl, ?_⟩) hHeld ?_ ?_
       rotate_left
       ·
        rintro w' ⟨s0, s1, s2, s3, s4, s5, s6, s7, s8, s9, s10, s11, s12, s13⟩
        go_simp
        with_reducible rfl
       rotate_left
       ·
        simp only [Act.put, List.setIfInBounds_toArray, List.set_cons_zero, List.set_cons_succ, i64_w, i32_w]
        rfl
       refine take_ (i := 34) (N := some 135) (v := ?_) (a' := ?_) (bs_asts 53 34359738367) rfl rfl (take_ofW HT_.out HW_.out (by kernel_rfl)) (fun _ _ _ h => h) (Or.inl ⟨by rfl, ?_⟩) hHeld ?_ ?_
       rotate_left
       ·
        rintro w' ⟨s0, s1, s2, s3, s4, s5, s6, s7, s8, s9, s10, s11, s12, s13⟩
        go_simp
        with_reducible rfl
       rotate_left
       ·
        simp only [Act.put, List.setIfInBounds_toArray, List.set_cons_zero, List.set_cons_succ, i64_w, i32_w]
        rfl
       refine take_ (i := 35) (N := some 136) (v := ?_) (a' := ?_) (bs_asts 53 68719476735) rfl rfl (take_ofW HT_.out HW_.out (by kernel_rfl)) (fun _ _ _ h => h) (Or.inl ⟨by rfl, ?_⟩) hHeld ?_ ?_
       rotate_left
       ·
        rintro w' ⟨s0, s1, s2, s3, s4, s5, s6, s7, s8, s9, s10, s11, s12, s13⟩
        go_simp
        with_reducible rfl
       rotate_left
       ·
        simp only [Act.put, List.setIfInBounds_toArray, List.set_cons_zero, List.set_cons_succ, i64_w, i32_w]
        rfl
       refine pure_ (i := 36) (N := some 137) (v := ?_) (a' := ?_) (bs_asts 53 137438953471) rfl rfl (any_of HT_.out (by kernel_rfl)) (fun _ _ _ h => h) (Or.inl ⟨by rfl, ?_⟩) ?_ ?_
       rotate_left
       ·
        intro w'
        go_simp
        with_reducible rfl
       rotate_left
       ·
        simp only [Act.put, List.setIfInBounds_toArray, List.set_cons_zero, List.set_cons_succ, i64_w, i32_w]
        rfl
       refine pure_ (i := 37) (N := some 138) (v := ?_) (a' := ?_) (bs_asts 53 274877906943) rfl rfl (any_of HT_.out (by kernel_rfl)) (fun _ _ _ h => h) (Or.inl ⟨by rfl, ?_⟩) ?_ ?_
       rotate_left
       ·
        intro w'
        go_simp
        with_reducible rfl
       rotate_left
       ·
        simp only [Act.put, List.setIfInBounds_toArray, List.set_cons_zero, List.set_cons_succ, i64_w, i32_w]
        rfl
       refine pure_ (i := 38) (N := some 139) (v := ?_) (a' := ?_) (bs_asts 53 549755813887) rfl rfl (any_of HT_.out (by kernel_rfl)) (fun _ _ _ h => h) (Or.inl ⟨by rfl, ?_⟩) ?_ ?_
       rotate_left
       ·
        intro w'
        go_simp
        with_reducible rfl
       rotate_left
       ·
        simp only [Act.put, List.setIfInBounds_toArray, List.set_cons_zero, List.set_cons_succ, i64_w, i32_w]
        rfl
       refine pure_ (i := 39) (N := some 140) (v := ?_) (a' := ?_) (bs_asts 53 1099511627775) rfl rfl (any_of HT_.out (by kernel_rfl)) (fun _ _ _ h => h) (Or.inl ⟨by rfl, ?_⟩) ?_ ?_
       rotate_left
       ·
        intro w'
        go_simp
        with_reducible rfl
       rotate_left
       ·
        simp only [Act.put, List.setIfInBounds_toArray, List.set_cons_zero, List.set_cons_succ, i64_w, i32_w]
        rfl
       refine pure_ (i := 40) (N := some 141) (v := ?_) (a' := ?_) (bs_asts 53 2199023255551) rfl rfl (any_of HT_.out (by kernel_rfl)) (fun _ _ _ h => h) (Or.inl ⟨by rfl, ?_⟩) ?_ ?_
       rotate_left
       ·
        intro w'
        go_simp
        with_reducible rfl
       rotate_left
       ·
        simp only [Act.put, List.setIfInBounds_toArray, List.set_cons_zero, List.set_cons_succ, i64_w, i32_w]
        rfl
       refine pure_ (i := 41) (N := some 142) (v := ?_) (a' := ?_) (bs_asts 53 4398046511103) rfl rfl (any_of HT_.out (by kernel_rfl)) (fun _ _ _ h => h) (Or.inl ⟨by rfl, ?_⟩) ?_ ?_
       rotate_left
       ·
        intro w'
        go_simp
        with_reducible rfl
       rotate_left
       ·
        simp only [Act.put, List.setIfInBounds_toArray, List.set_cons_zero, List.set_cons_succ, i64_w, i32_w]
        rfl
       refine pure_ (i := 43) (N := some 144) (v := ?_) (a' := ?_) (bs_asts 53 13194139533311) rfl rfl (any_of HT_.out (by kernel_rfl)) (fun _ _ _ h => h) (Or.inl ⟨by rfl, ?_⟩) ?_ ?_
       rotate_left
       ·
        intro w'
        go_simp
        with_reducible rfl
       rotate_left
       ·
        simp only [Act.put, List.setIfInBounds_toArray, List.set_cons_zero, List.set_cons_succ, i64_w, i32_w]
        rfl
       refine pure_ (i := 44) (N := some 145) (v := ?_) (a' := ?_) (bs_asts 53 30786325577727) rfl rfl (any_of HT_.out (by kernel_rfl)) (fun _ _ _ h => h) (Or.inl ⟨by rfl, ?_⟩) ?_ ?_
       rotate_left
       ·
        intro w'
        go_simp
        with_reducible rfl
       rotate_left
       ·
        simp only [Act.put, List.setIfInBounds_toArray, List.set_cons_zero, List.set_cons_succ, i64_w, i32_w]
        rfl
       refine pure_ (i := 45) (N := some 146) (v := ?_) (a' := ?_) (bs_asts 53 65970697666559) rfl rfl (any_of HT_.out (by kernel_rfl)) (fun _ _ _ h => h) (Or.inl ⟨by rfl, ?_⟩) ?_ ?_
       rotate_left
       ·
        intro w'
        go_simp
        with_reducible rfl
       rotate_left
       ·
        simp only [Act.put, List.setIfInBounds_toArray, List.set_cons_zero, List.set_cons_succ, i64_w, i32_w]
        rfl
       refine pure_ (i := 46) (N := some 147) (v := ?_) (a' := ?_) (bs_asts 53 136339441844223) rfl rfl (any_of HT_.out (by kernel_rfl)) (fun _ _ _ h => h) (Or.inl ⟨by rfl, ?_⟩) ?_ ?_
       rotate_left
       ·
        intro w'
        go_simp
        with_reducible rfl
       rotate_left
       ·
        simp only [Act.put, List.setIfInBounds_toArray, List.set_cons_zero, List.set_cons_succ, i64_w, i32_w]
        rfl
       refine take_ (i := 42) (N := some 143) (v := ?_) (a' := ?_) (bs_asts 53 140737488355327) rfl rfl (take_ofW HT_.out HW_.out (by kernel_rfl)) (fun _ _ _ h => h) (Or.inl ⟨by rfl, ?_⟩) hHeld ?_ ?_
       rotate_left
       ·
        rintro w' ⟨s0, s1, s2, s3, s4, s5, s6, s7, s8, s9, s10, s11, s12, s13⟩
        go_simp
        with_reducible rfl
       rotate_left
       ·
        simp only [Act.put, List.setIfInBounds_toArray, List.set_cons_zero, List.set_cons_succ, i64_w, i32_w]
        rfl
       refine take_ (i := 47) (N := some 148) (v := ?_) (a' := ?_) (bs_asts 53 281474976710655) rfl rfl (take_ofW HT_.out HW_.out (by kernel_rfl)) (fun _ _ _ h => h) (Or.inl ⟨by rfl, ?_⟩) hHeld ?_ ?_
       rotate_left
       ·
        rintro w' ⟨s0, s1, s2, s3, s4, s5, s6, s7, s8, s9, s10, s11, s12, s13⟩
        go_simp
        with_reducible rfl
       rotate_left
       ·
        simp only [Act.put, List.setIfInBounds_toArray, List.set_cons_zero, List.set_cons_succ, i64_w, i32_w]
        rfl
       refine pure_ (i := 48) (N := some 149) (v := ?_) (a' := ?_) (bs_asts 53 562949953421311) rfl rfl (any_of HT_.out (by kernel_rfl)) (fun _ _ _ h => h) (Or.inl ⟨by rfl, ?_⟩) ?_ ?_
       rotate_left
       ·
        intro w'
        go_simp
        with_reducible rfl
       rotate_left
       ·
        simp only [Act.put, List.setIfInBounds_toArray, List.set_cons_zero, List.set_cons_succ, i64_w, i32_w]
        rfl
       refine pure_ (i := 49) (N := some 150) (v := ?_) (a' := ?_) (bs_asts 53 1125899906842623) rfl rfl (any_of HT_.out (by kernel_rfl)) (fun _ _ _ h => h) (Or.inl ⟨by rfl, ?_⟩) ?_ ?_
       rotate_left
       ·
        intro w'
        go_simp
        with_reducible rfl
       rotate_left
       ·
        simp only [Act.put, List.setIfInBounds_toArray, List.set_cons_zero, List.set_cons_succ, i64_w, i32_w]
        rfl
       refine pure_ (i := 50) (N := some 151) (v := ?_) (a' := ?_) (bs_asts 53 2251799813685247) rfl rfl (any_of HT_.out (by kernel_rfl)) (fun _ _ _ h => h) (Or.inl ⟨by rfl, ?_⟩) ?_ ?_
       rotate_left
       ·
        intro w'
        go_simp
        with_reducible rfl
       rotate_left
       ·
        simp only [Act.put, List.setIfInBounds_toArray, List.set_cons_zero, List.set_cons_succ, i64_w, i32_w]
        rfl
       refine pure_ (i := 51) (N := some 152) (v := ?_) (a' := ?_) (bs_asts 53 4503599627370495) rfl rfl (any_of HT_.out (by kernel_rfl)) (fun _ _ _ h => h) (Or.inl ⟨by rfl, ?_⟩) ?_ ?_
       rotate_left
       ·
        intro w'
        go_simp
        with_reducible rfl
       rotate_left
       ·
        simp only [Act.put, List.setIfInBounds_toArray, List.set_cons_zero, List.set_cons_succ, i64_w, i32_w]
        rfl
       refine pure_ (i := 52) (N := some 153) (v := ?_) (a' := ?_) (bs_asts 53 9007199254740991) rfl rfl (any_of HT_.out (by kernel_rfl)) (fun _ _ _ h => h) (Or.inl ⟨by rfl, ?_⟩) ?_ ?_
       rotate_left
       ·
        intro w'
        go_simp
        with_reducible rfl
       rotate_left
       ·
        simp only [Act.put, List.setIfInBounds_toArray, List.set_cons_zero, List.set_cons_succ, i64_w, i32_w]
        rfl
       refine done_ (done_of HT_.out (by kernel_rfl)) ?_
       try go_wp2
       go_roundg k6
       case measure => have := HJ4.out; have := HK2.out; have := HJ23.out; have := HJ34.out; have := HK5.out; have := HK6.out; omega
       case rel => exact ⟨(wrap64 (x12_6 + 1)), (wrap64 (x14_6 + 1)), (by first | rfl | (simp; done) | (simp [*]; done)), (by first | rfl | (simp; done) | (simp [*]; done)), H', ⟨by have := HJ4.out; have := HK2.out; have := HJ23.out; have := HJ34.out; have := HK5.out; have := HK6.out; omega⟩, ⟨by (with_reducible repeat (first | apply Kd.N_alloc | apply Kd.N_drewN | apply Kd.N_drew)); exact HO_6.out⟩, ⟨by (with_reducible repeat (first | apply Kd.N_alloc | apply Kd.N_drewN | apply Kd.N_drew)); exact HO_10.out⟩, ⟨by repeat (first | (with_reducible first | exact HB.out | apply below_alloc | apply pw_below_drewN | apply below_drew1) | exact HB.out)⟩⟩

end Go.Proofs.Ytjpkjakdhbnehaa.Q
end
