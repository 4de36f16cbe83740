/- RecordChanges: for every input the statement's function returns true; there is no further condition. Text 5 of 6: this session's texts, laid together by its own program (merge.py). Not trusted: Lean checks them. -/
import Derived.Test.YtjpkjakdhbnehaaMRecordChanges0
import Derived.Test.YtjpkjakdhbnehaaMRecordChanges3
import Derived.Test.YtjpkjakdhbnehaaMRecordChanges1
import Derived.Test.YtjpkjakdhbnehaaMRecordChanges2
section
-- Written by this session's own program (ext_print.py) over the kit's print.py, hand proofs among it. Not trusted: Lean checks it.
namespace Go.Proofs.Ytjpkjakdhbnehaa.Q
open Go.RowKit Go.Proofs.YtjpkjakdhbnehaaW.PrintWords Go.Proofs.YtjpkjakdhbnehaaW.PrintLast Go.Proofs.YtjpkjakdhbnehaaW.PrintMore
attribute [local go_sem] max2_int min2_int max_two min_two max_three min_three max_four min_four   -- for this text's walks alone
set_option linter.unusedVariables false
set_option linter.unusedSimpArgs false

attribute [local go_sem high] eqA39
/-! ### reliquarylaw12_RecordChanges: function 5 -/
mutual
def reliquarylaw12_RecordChanges.j0 : Nat → List Bool → List (S25) → List (S30) → List (S39) → Bool → Option (Bool)
  | 0, _, _, _, _, _ => none
  | k + 1, x1, x8, x9, x11, x52 => if x52 = true then (some false) else (reliquarylaw12_RecordChanges.l0 k x1 x8 x9 x11 0)
def reliquarylaw12_RecordChanges.l0 : Nat → List Bool → List (S25) → List (S30) → List (S39) → Int → Option (Bool)
  | 0, _, _, _, _, _ => none
  | k + 1, x1, x8, x9, x11, x13 => if x13 < (x9.length : Int) then (if 0 ≤ x13 then ((reliquarylaw12_recordOf.f ((rd_T30 x9 x13).f0.f0) ((rd_T30 x9 x13).f0.f1) ((rd_T30 x9 x13).f1)).bind fun bt333 => (if x13 < (x11.length : Int) then (if ((!(bt333.1 == ((rd_T39 x11 x13).f0.f0)) || (!(bt333.2.1.toList == (((rd_T39 x11 x13).f0.f1).toList)))) || (!(bt333.2.2 == ((rd_T39 x11 x13).f1)))) = true then (some false) else (reliquarylaw12_RecordChanges.l0 k x1 x8 x9 x11 (wrap64 (x13 + 1)))) else (none))) else (none)) else (reliquarylaw12_RecordChanges.l1 k x1 x8 ([] : List (S30)) ([] : List (S39)) 0)
def reliquarylaw12_RecordChanges.j3 : Nat → List (S30) → List (S39) → Option (Bool)
  | 0, _, _ => none
  | k + 1, x14, x15 => (record_Changes.f x14).bind fun bt349 => ((reliquaryref12_Changes.f k x15).bind fun bt353 => (if bt349.2 = bt353.2 then (reliquarylaw12_RecordChanges.j4 k bt349.1 bt353.1 ((bt349.1.length : Int) != (bt353.1.length : Int))) else (reliquarylaw12_RecordChanges.j4 k bt349.1 bt353.1 true)))
def reliquarylaw12_RecordChanges.j4 : Nat → List (List (S25)) → List (List (S37)) → Bool → Option (Bool)
  | 0, _, _, _ => none
  | k + 1, x18, x20, x118 => if x118 = true then (some false) else (reliquarylaw12_RecordChanges.l2 k x18 x20 0)
def reliquarylaw12_RecordChanges.l2 : Nat → List (List (S25)) → List (List (S37)) → Int → Option (Bool)
  | 0, _, _, _ => none
  | k + 1, x18, x20, x22 => if x22 < (x18.length : Int) then (if 0 ≤ x22 then ((reliquarylaw12_modelOf.f k (rd_L12 x18 x22)).bind fun t358 => (if x22 < (x20.length : Int) then ((reliquaryref12_Same.f k t358 (rd_L14 x20 x22)).bind fun t362 => (if t362 = true then (reliquarylaw12_RecordChanges.l2 k x18 x20 (wrap64 (x22 + 1))) else (some false))) else (none))) else (none)) else (some true)
def reliquarylaw12_RecordChanges.l1 : Nat → List Bool → List (S25) → List (S30) → List (S39) → Int → Option (Bool)
  | 0, _, _, _, _, _ => none
  | k + 1, x1, x8, x14, x15, x16 => if x16 < (x8.length : Int) then (if x16 < (x1.length : Int) then (if 0 ≤ x16 then (if x14.length < 3518437208883 then ((reliquarylaw12_recordOf.f ((rd_T25 x8 x16).f0) ((rd_T25 x8 x16).f1) (rdOf false x1 x16)).bind fun bt343 => (if x15.length < 4398046511104 then (reliquarylaw12_RecordChanges.l1 k x1 x8 (x14 ++ [(⟨(⟨(rd_T25 x8 x16).f0, (rd_T25 x8 x16).f1⟩ : S25), rdOf false x1 x16⟩ : S30)]) (x15 ++ [(⟨(⟨bt343.1, bt343.2.1⟩ : S37), bt343.2.2⟩ : S39)]) (wrap64 (x16 + 1))) else (none))) else (none)) else (none)) else (reliquarylaw12_RecordChanges.j3 k x14 x15)) else (reliquarylaw12_RecordChanges.j3 k x14 x15)
end
def reliquarylaw12_RecordChanges.f (k : Nat) (l0 : List (S25)) (l1 : List Bool) (a2 : Bool) : Option (Bool) := (reliquarylaw12_awake.f k).bind fun t317 => (if t317 = true then (if (l0.length : Int) > 20 then (some true) else ((reliquarylaw12_images.f k l0 a2).bind fun t318 => ((record_Of.f k t318).bind fun bt321 => ((reliquarylaw12_modelOf.f k t318).bind fun t325 => ((reliquaryref12_Of.f k t325).bind fun bt328 => (if bt321.2 = bt328.2 then (reliquarylaw12_RecordChanges.j0 k l1 t318 bt321.1 bt328.1 ((bt321.1.length : Int) != (bt328.1.length : Int))) else (reliquarylaw12_RecordChanges.j0 k l1 t318 bt321.1 bt328.1 true))))))) else (some false))
theorem reliquarylaw12_RecordChanges.mono_l : ∀ k, (∀ y0 y1 y2 y3 y4, LeO (reliquarylaw12_RecordChanges.j0 k y0 y1 y2 y3 y4) (reliquarylaw12_RecordChanges.j0 (k + 1) y0 y1 y2 y3 y4)) ∧ (∀ y0 y1 y2 y3 y4, LeO (reliquarylaw12_RecordChanges.l0 k y0 y1 y2 y3 y4) (reliquarylaw12_RecordChanges.l0 (k + 1) y0 y1 y2 y3 y4)) ∧ (∀ y0 y1, LeO (reliquarylaw12_RecordChanges.j3 k y0 y1) (reliquarylaw12_RecordChanges.j3 (k + 1) y0 y1)) ∧ (∀ y0 y1 y2, LeO (reliquarylaw12_RecordChanges.j4 k y0 y1 y2) (reliquarylaw12_RecordChanges.j4 (k + 1) y0 y1 y2)) ∧ (∀ y0 y1 y2, LeO (reliquarylaw12_RecordChanges.l2 k y0 y1 y2) (reliquarylaw12_RecordChanges.l2 (k + 1) y0 y1 y2)) ∧ (∀ y0 y1 y2 y3 y4, LeO (reliquarylaw12_RecordChanges.l1 k y0 y1 y2 y3 y4) (reliquarylaw12_RecordChanges.l1 (k + 1) y0 y1 y2 y3 y4))
  | 0 => ⟨fun _ _ _ _ _ r h => by simp [reliquarylaw12_RecordChanges.j0] at h, fun _ _ _ _ _ r h => by simp [reliquarylaw12_RecordChanges.l0] at h, fun _ _ r h => by simp [reliquarylaw12_RecordChanges.j3] at h, fun _ _ _ r h => by simp [reliquarylaw12_RecordChanges.j4] at h, fun _ _ _ r h => by simp [reliquarylaw12_RecordChanges.l2] at h, fun _ _ _ _ _ r h => by simp [reliquarylaw12_RecordChanges.l1] at h⟩
  | k + 1 => by
    obtain ⟨ih0, ih1, ih2, ih3, ih4, ih5⟩ := reliquarylaw12_RecordChanges.mono_l k
    refine ⟨?_, ?_, ?_, ?_, ?_, ?_⟩
    · intro y0 y1 y2 y3 y4
      unfold reliquarylaw12_RecordChanges.j0
      repeat' first
      | (with_reducible exact ih0 _ _ _ _ _)
      | (with_reducible exact ih1 _ _ _ _ _)
      | (with_reducible exact ih2 _ _)
      | (with_reducible exact ih3 _ _ _)
      | (with_reducible exact ih4 _ _ _)
      | (with_reducible exact ih5 _ _ _ _ _)
      | (with_reducible exact record_Of.mono _ _)
      | (with_reducible exact reliquarylaw12_awake.mono _)
      | (with_reducible exact reliquarylaw12_images.mono _ _ _)
      | (with_reducible exact reliquarylaw12_modelOf.mono _ _)
      | (with_reducible exact reliquaryref12_Changes.mono _ _)
      | (with_reducible exact reliquaryref12_Of.mono _ _)
      | (with_reducible exact reliquaryref12_Same.mono _ _ _)
      | (with_reducible exact LeO.refl _)
      | (with_reducible exact LeO.none _)
      | (with_reducible refine LeO.ite ?_ ?_)
      | (with_reducible refine LeO.bind ?_ (fun _ => ?_))
      | exact ih0 _ _ _ _ _
      | exact ih1 _ _ _ _ _
      | exact ih2 _ _
      | exact ih3 _ _ _
      | exact ih4 _ _ _
      | exact ih5 _ _ _ _ _
      | exact record_Of.mono _ _
      | exact reliquarylaw12_awake.mono _
      | exact reliquarylaw12_images.mono _ _ _
      | exact reliquarylaw12_modelOf.mono _ _
      | exact reliquaryref12_Changes.mono _ _
      | exact reliquaryref12_Of.mono _ _
      | exact reliquaryref12_Same.mono _ _ _
      | exact LeO.none _
      | refine LeO.ite ?_ ?_
      | refine LeO.bind ?_ (fun _ => ?_)
    · intro y0 y1 y2 y3 y4
      unfold reliquarylaw12_RecordChanges.l0
      repeat' first
      | (with_reducible exact ih0 _ _ _ _ _)
      | (with_reducible exact ih1 _ _ _ _ _)
      | (with_reducible exact ih2 _ _)
      | (with_reducible exact ih3 _ _ _)
      | (with_reducible exact ih4 _ _ _)
      | (with_reducible exact ih5 _ _ _ _ _)
      | (with_reducible exact record_Of.mono _ _)
      | (with_reducible exact reliquarylaw12_awake.mono _)
      | (with_reducible exact reliquarylaw12_images.mono _ _ _)
      | (with_reducible exact reliquarylaw12_modelOf.mono _ _)
      | (with_reducible exact reliquaryref12_Changes.mono _ _)
      | (with_reducible exact reliquaryref12_Of.mono _ _)
      | (with_reducible exact reliquaryref12_Same.mono _ _ _)
      | (with_reducible exact LeO.refl _)
      | (with_reducible exact LeO.none _)
      | (with_reducible refine LeO.ite ?_ ?_)
      | (with_reducible refine LeO.bind ?_ (fun _ => ?_))
      | exact ih0 _ _ _ _ _
      | exact ih1 _ _ _ _ _
      | exact ih2 _ _
      | exact ih3 _ _ _
      | exact ih4 _ _ _
      | exact ih5 _ _ _ _ _
      | exact record_Of.mono _ _
      | exact reliquarylaw12_awake.mono _
      | exact reliquarylaw12_images.mono _ _ _
      | exact reliquarylaw12_modelOf.mono _ _
      | exact reliquaryref12_Changes.mono _ _
      | exact reliquaryref12_Of.mono _ _
      | exact reliquaryref12_Same.mono _ _ _
      | exact LeO.none _
      | refine LeO.ite ?_ ?_
      | refine LeO.bind ?_ (fun _ => ?_)
    · intro y0 y1
      unfold reliquarylaw12_RecordChanges.j3
      repeat' first
      | (with_reducible exact ih0 _ _ _ _ _)
      | (with_reducible exact ih1 _ _ _ _ _)
      | (with_reducible exact ih2 _ _)
      | (with_reducible exact ih3 _ _ _)
      | (with_reducible exact ih4 _ _ _)
      | (with_reducible exact ih5 _ _ _ _ _)
      | (with_reducible exact record_Of.mono _ _)
      | (with_reducible exact reliquarylaw12_awake.mono _)
      | (with_reducible exact reliquarylaw12_images.mono _ _ _)
      | (with_reducible exact reliquarylaw12_modelOf.mono _ _)
      | (with_reducible exact reliquaryref12_Changes.mono _ _)
      | (with_reducible exact reliquaryref12_Of.mono _ _)
      | (with_reducible exact reliquaryref12_Same.mono _ _ _)
      | (with_reducible exact LeO.refl _)
      | (with_reducible exact LeO.none _)
      | (with_reducible refine LeO.ite ?_ ?_)
      | (with_reducible refine LeO.bind ?_ (fun _ => ?_))
      | exact ih0 _ _ _ _ _
      | exact ih1 _ _ _ _ _
      | exact ih2 _ _
      | exact ih3 _ _ _
      | exact ih4 _ _ _
      | exact ih5 _ _ _ _ _
      | exact record_Of.mono _ _
      | exact reliquarylaw12_awake.mono _
      | exact reliquarylaw12_images.mono _ _ _
      | exact reliquarylaw12_modelOf.mono _ _
      | exact reliquaryref12_Changes.mono _ _
      | exact reliquaryref12_Of.mono _ _
      | exact reliquaryref12_Same.mono _ _ _
      | exact LeO.none _
      | refine LeO.ite ?_ ?_
      | refine LeO.bind ?_ (fun _ => ?_)
    · intro y0 y1 y2
      unfold reliquarylaw12_RecordChanges.j4
      repeat' first
      | (with_reducible exact ih0 _ _ _ _ _)
      | (with_reducible exact ih1 _ _ _ _ _)
      | (with_reducible exact ih2 _ _)
      | (with_reducible exact ih3 _ _ _)
      | (with_reducible exact ih4 _ _ _)
      | (with_reducible exact ih5 _ _ _ _ _)
      | (with_reducible exact record_Of.mono _ _)
      | (with_reducible exact reliquarylaw12_awake.mono _)
      | (with_reducible exact reliquarylaw12_images.mono _ _ _)
      | (with_reducible exact reliquarylaw12_modelOf.mono _ _)
      | (with_reducible exact reliquaryref12_Changes.mono _ _)
      | (with_reducible exact reliquaryref12_Of.mono _ _)
      | (with_reducible exact reliquaryref12_Same.mono _ _ _)
      | (with_reducible exact LeO.refl _)
      | (with_reducible exact LeO.none _)
      | (with_reducible refine LeO.ite ?_ ?_)
      | (with_reducible refine LeO.bind ?_ (fun _ => ?_))
      | exact ih0 _ _ _ _ _
      | exact ih1 _ _ _ _ _
      | exact ih2 _ _
      | exact ih3 _ _ _
      | exact ih4 _ _ _
      | exact ih5 _ _ _ _ _
      | exact record_Of.mono _ _
      | exact reliquarylaw12_awake.mono _
      | exact reliquarylaw12_images.mono _ _ _
      | exact reliquarylaw12_modelOf.mono _ _
      | exact reliquaryref12_Changes.mono _ _
      | exact reliquaryref12_Of.mono _ _
      | exact reliquaryref12_Same.mono _ _ _
      | exact LeO.none _
      | refine LeO.ite ?_ ?_
      | refine LeO.bind ?_ (fun _ => ?_)
    · intro y0 y1 y2
      unfold reliquarylaw12_RecordChanges.l2
      repeat' first
      | (with_reducible exact ih0 _ _ _ _ _)
      | (with_reducible exact ih1 _ _ _ _ _)
      | (with_reducible exact ih2 _ _)
      | (with_reducible exact ih3 _ _ _)
      | (with_reducible exact ih4 _ _ _)
      | (with_reducible exact ih5 _ _ _ _ _)
      | (with_reducible exact record_Of.mono _ _)
      | (with_reducible exact reliquarylaw12_awake.mono _)
      | (with_reducible exact reliquarylaw12_images.mono _ _ _)
      | (with_reducible exact reliquarylaw12_modelOf.mono _ _)
      | (with_reducible exact reliquaryref12_Changes.mono _ _)
      | (with_reducible exact reliquaryref12_Of.mono _ _)
      | (with_reducible exact reliquaryref12_Same.mono _ _ _)
      | (with_reducible exact LeO.refl _)
      | (with_reducible exact LeO.none _)
      | (with_reducible refine LeO.ite ?_ ?_)
      | (with_reducible refine LeO.bind ?_ (fun _ => ?_))
      | exact ih0 _ _ _ _ _
      | exact ih1 _ _ _ _ _
      | exact ih2 _ _
      | exact ih3 _ _ _
      | exact ih4 _ _ _
      | exact ih5 _ _ _ _ _
      | exact record_Of.mono _ _
      | exact reliquarylaw12_awake.mono _
      | exact reliquarylaw12_images.mono _ _ _
      | exact reliquarylaw12_modelOf.mono _ _
      | exact reliquaryref12_Changes.mono _ _
      | exact reliquaryref12_Of.mono _ _
      | exact reliquaryref12_Same.mono _ _ _
      | exact LeO.none _
      | refine LeO.ite ?_ ?_
      | refine LeO.bind ?_ (fun _ => ?_)
    · intro y0 y1 y2 y3 y4
      unfold reliquarylaw12_RecordChanges.l1
      repeat' first
      | (with_reducible exact ih0 _ _ _ _ _)
      | (with_reducible exact ih1 _ _ _ _ _)
      | (with_reducible exact ih2 _ _)
      | (with_reducible exact ih3 _ _ _)
      | (with_reducible exact ih4 _ _ _)
      | (with_reducible exact ih5 _ _ _ _ _)
      | (with_reducible exact record_Of.mono _ _)
      | (with_reducible exact reliquarylaw12_awake.mono _)
      | (with_reducible exact reliquarylaw12_images.mono _ _ _)
      | (with_reducible exact reliquarylaw12_modelOf.mono _ _)
      | (with_reducible exact reliquaryref12_Changes.mono _ _)
      | (with_reducible exact reliquaryref12_Of.mono _ _)
      | (with_reducible exact reliquaryref12_Same.mono _ _ _)
      | (with_reducible exact LeO.refl _)
      | (with_reducible exact LeO.none _)
      | (with_reducible refine LeO.ite ?_ ?_)
      | (with_reducible refine LeO.bind ?_ (fun _ => ?_))
      | exact ih0 _ _ _ _ _
      | exact ih1 _ _ _ _ _
      | exact ih2 _ _
      | exact ih3 _ _ _
      | exact ih4 _ _ _
      | exact ih5 _ _ _ _ _
      | exact record_Of.mono _ _
      | exact reliquarylaw12_awake.mono _
      | exact reliquarylaw12_images.mono _ _ _
      | exact reliquarylaw12_modelOf.mono _ _
      | exact reliquaryref12_Changes.mono _ _
      | exact reliquaryref12_Of.mono _ _
      | exact reliquaryref12_Same.mono _ _ _
      | exact LeO.none _
      | refine LeO.ite ?_ ?_
      | refine LeO.bind ?_ (fun _ => ?_)
theorem reliquarylaw12_RecordChanges.mono : ∀ a0 a1 a2 k, LeO (reliquarylaw12_RecordChanges.f k a0 a1 a2) (reliquarylaw12_RecordChanges.f (k + 1) a0 a1 a2) := by
  intro a0 a1 a2 k
  obtain ⟨ih0, ih1, ih2, ih3, ih4, ih5⟩ := reliquarylaw12_RecordChanges.mono_l k
  unfold reliquarylaw12_RecordChanges.f
  repeat' first
      | (with_reducible exact ih0 _ _ _ _ _)
      | (with_reducible exact ih1 _ _ _ _ _)
      | (with_reducible exact ih2 _ _)
      | (with_reducible exact ih3 _ _ _)
      | (with_reducible exact ih4 _ _ _)
      | (with_reducible exact ih5 _ _ _ _ _)
      | (with_reducible exact record_Of.mono _ _)
      | (with_reducible exact reliquarylaw12_awake.mono _)
      | (with_reducible exact reliquarylaw12_images.mono _ _ _)
      | (with_reducible exact reliquarylaw12_modelOf.mono _ _)
      | (with_reducible exact reliquaryref12_Changes.mono _ _)
      | (with_reducible exact reliquaryref12_Of.mono _ _)
      | (with_reducible exact reliquaryref12_Same.mono _ _ _)
      | (with_reducible exact LeO.refl _)
      | (with_reducible exact LeO.none _)
      | (with_reducible refine LeO.ite ?_ ?_)
      | (with_reducible refine LeO.bind ?_ (fun _ => ?_))
      | exact ih0 _ _ _ _ _
      | exact ih1 _ _ _ _ _
      | exact ih2 _ _
      | exact ih3 _ _ _
      | exact ih4 _ _ _
      | exact ih5 _ _ _ _ _
      | exact record_Of.mono _ _
      | exact reliquarylaw12_awake.mono _
      | exact reliquarylaw12_images.mono _ _ _
      | exact reliquarylaw12_modelOf.mono _ _
      | exact reliquaryref12_Changes.mono _ _
      | exact reliquaryref12_Of.mono _ _
      | exact reliquaryref12_Same.mono _ _ _
      | exact LeO.none _
      | refine LeO.ite ?_ ?_
      | refine LeO.bind ?_ (fun _ => ?_)
def reliquarylaw12_RecordChanges.T14 : Bool × List (List Nat × List Nat) := (true, [([], []), ([], []), ([0, 1], [0, 1]), ([2], [2]), ([3], [3]), ([], []), ([], []), ([5, 6], [5, 6]), ([7], [7]), ([4, 8], [4, 8])])
def reliquarylaw12_RecordChanges.B14 : List Nat := [0, 0, 3, 7, 15, 0, 0, 96, 224, 511]
theorem reliquarylaw12_RecordChanges.tab14 : rtab .any (opsOf Try.f5 14) = reliquarylaw12_RecordChanges.T14 := by kernel_rfl
theorem reliquarylaw12_RecordChanges.bits14 : waitsOk reliquarylaw12_RecordChanges.T14.2 reliquarylaw12_RecordChanges.B14 = true := by kernel_rfl
def reliquarylaw12_RecordChanges.T21 : Bool × List (List Nat × List Nat) := (true, [([], []), ([], []), ([0, 1], [0, 1]), ([2], [2]), ([], []), ([], []), ([4, 5], [4, 5]), ([6], [6]), ([3, 7], [3, 7]), ([], []), ([9, 8, 0, 1, 2, 3, 4, 5, 6, 7, 8, 9], [8, 9])])
def reliquarylaw12_RecordChanges.B21 : List Nat := [0, 0, 3, 7, 0, 0, 48, 112, 255, 0, 1023]
theorem reliquarylaw12_RecordChanges.tab21 : rtab .any (opsOf Try.f5 21) = reliquarylaw12_RecordChanges.T21 := by kernel_rfl
theorem reliquarylaw12_RecordChanges.bits21 : waitsOk reliquarylaw12_RecordChanges.T21.2 reliquarylaw12_RecordChanges.B21 = true := by kernel_rfl
def reliquarylaw12_RecordChanges.T31 : Bool × List (List Nat × List Nat) := (true, [([], []), ([], []), ([0, 1], [0, 1]), ([2], [2]), ([3], [3]), ([], []), ([], []), ([5, 6], [5, 6]), ([7], [7]), ([4, 8, 4], [4, 8]), ([9], [9])])
def reliquarylaw12_RecordChanges.B31 : List Nat := [0, 0, 3, 7, 15, 0, 0, 96, 224, 511, 1023]
theorem reliquarylaw12_RecordChanges.tab31 : rtab .any (opsOf Try.f5 31) = reliquarylaw12_RecordChanges.T31 := by kernel_rfl
theorem reliquarylaw12_RecordChanges.bits31 : waitsOk reliquarylaw12_RecordChanges.T31.2 reliquarylaw12_RecordChanges.B31 = true := by kernel_rfl
set_option maxHeartbeats 8000000 in
set_option maxRecDepth 100000 in
theorem reliquarylaw12_RecordChanges.calls (k : Nat) (A0 : Option Addr) (c0 : Nat) (l0 : List (S25)) (A1 : Option Addr) (c1 : Nat) (l1 : List Bool) (a2 : Bool) (r : Bool) (w : World) (hr0 : Kd.C k25 w A0 l0.length l0) (hc0 : l0.length ≤ c0) (hr1 : Kd.C Kd.bool w A1 l1.length l1) (hc1 : l1.length ≤ c1) (h : reliquarylaw12_RecordChanges.f k l0 l1 a2 = some r) :
    Calls Try.prog 5 #[.slice A0 l0.length c0, .slice A1 l1.length c1, .bool a2] w fun e w' => e = .returned (.bool r) ∧ Below w.heap.size w w' := by
  have hu30 := Try.underlying30
  have hu39 := Try.underlying39
  have hu25 := Try.underlying25
  have HR0 := Aside0.mk hr0
  have HC0 := Aside0.mk hc0
  clear hr0 hc0
  have HR1 := Aside0.mk hr1
  have HC1 := Aside0.mk hc1
  clear hr1 hc1
  have HB := Aside0.mk (Below.refl w.heap.size w)
  have H : ((reliquarylaw12_awake.f k).bind fun t317 => (if t317 = true then (if (l0.length : Int) > 20 then (some true) else ((reliquarylaw12_images.f k l0 a2).bind fun t318 => ((record_Of.f k t318).bind fun bt321 => ((reliquarylaw12_modelOf.f k t318).bind fun t325 => ((reliquaryref12_Of.f k t325).bind fun bt328 => (if bt321.2 = bt328.2 then (reliquarylaw12_RecordChanges.j0 k l1 t318 bt321.1 bt328.1 ((bt321.1.length : Int) != (bt328.1.length : Int))) else (reliquarylaw12_RecordChanges.j0 k l1 t318 bt321.1 bt328.1 true))))))) else (some false))) = some r := h
  clear h
  replace H := Option.bind_eq_some_iff.mp H
  obtain ⟨t317, A40, H⟩ := H
  replace H : (if t317 = true then (if (l0.length : Int) > 20 then (some true) else ((reliquarylaw12_images.f k l0 a2).bind fun t318 => ((record_Of.f k t318).bind fun bt321 => ((reliquarylaw12_modelOf.f k t318).bind fun t325 => ((reliquaryref12_Of.f k t325).bind fun bt328 => (if bt321.2 = bt328.2 then (reliquarylaw12_RecordChanges.j0 k l1 t318 bt321.1 bt328.1 ((bt321.1.length : Int) != (bt328.1.length : Int))) else (reliquarylaw12_RecordChanges.j0 k l1 t318 bt321.1 bt328.1 true))))))) else (some false)) = some r := H
  have A4 := Aside0.mk A40
  clear A40
  by_cases c5 : t317 = true
  · subst c5
    have H1 : (if (l0.length : Int) > 20 then (some true) else ((reliquarylaw12_images.f k l0 a2).bind fun t318 => ((record_Of.f k t318).bind fun bt321 => ((reliquarylaw12_modelOf.f k t318).bind fun t325 => ((reliquaryref12_Of.f k t325).bind fun bt328 => (if bt321.2 = bt328.2 then (reliquarylaw12_RecordChanges.j0 k l1 t318 bt321.1 bt328.1 ((bt321.1.length : Int) != (bt328.1.length : Int))) else (reliquarylaw12_RecordChanges.j0 k l1 t318 bt321.1 bt328.1 true))))))) = some r := by rw [if_pos rfl] at H; exact H
    clear H
    have H := H1
    clear H1
    by_cases c6 : (l0.length : Int) > 20
    · rw [if_pos c6] at H
      have c6b0 : decide (20 < (l0.length : Int)) = true := decide_eq_true c6
      have c6b1 : decide (20 < l0.length) = true := decide_eq_true (by omega)
      clear c6
      obtain rfl := Option.some.inj H
      go_enter Try.func5, Try.ntmps5
      go_wp2_with (first | ((with_reducible refine gate_callee (f := 8) rfl ?_); refine goesL_ (some 23) rfl rfl Try.func8 (by kernel_rfl) rfl #[] rfl (by (try simp only [List.map_toArray, List.map_cons, List.map_nil]); first | done | rfl | (simp only [List.length_drop, List.length_take]; rfl)) ?_; (with_reducible refine (reliquarylaw12_awake.calls k  true _ A4.out).mono ?_); rintro e w7 ⟨rfl, hb⟩; refine ⟨_, rfl, ?_⟩; have n0_ := Aside0.mk (below_step (by repeat (first | (with_reducible first | exact HB.out | apply below_alloc | apply pw_below_drewN | apply below_drew1) | exact HB.out)) hb); clear HB; have HB := n0_; clear n0_; (try clear hb); (try clear hb2); (try clear hk); (try clear hi)))
      go_ret
      exact ⟨by first | rfl | (simp [errW_none, errW_some] <;> rfl) | (simp [*, errW_none, errW_some] <;> rfl), by repeat (first | (with_reducible first | exact HB.out | apply below_alloc | apply pw_below_drewN | apply below_drew1) | exact HB.out)⟩
    · rw [if_neg c6] at H
      have c6b0 : decide (20 < (l0.length : Int)) = false := decide_eq_false c6
      have c6b1 : decide (20 < l0.length) = false := decide_eq_false (by omega)
      clear c6
      replace H := Option.bind_eq_some_iff.mp H
      obtain ⟨t318, A80, H⟩ := H
      replace H : ((record_Of.f k t318).bind fun bt321 => ((reliquarylaw12_modelOf.f k t318).bind fun t325 => ((reliquaryref12_Of.f k t325).bind fun bt328 => (if bt321.2 = bt328.2 then (reliquarylaw12_RecordChanges.j0 k l1 t318 bt321.1 bt328.1 ((bt321.1.length : Int) != (bt328.1.length : Int))) else (reliquarylaw12_RecordChanges.j0 k l1 t318 bt321.1 bt328.1 true))))) = some r := H
      have A8 := Aside0.mk A80
      clear A80
      replace H := Option.bind_eq_some_iff.mp H
      obtain ⟨⟨t321, t322⟩, A90, H⟩ := H
      replace H : ((reliquarylaw12_modelOf.f k t318).bind fun t325 => ((reliquaryref12_Of.f k t325).bind fun bt328 => (if t322 = bt328.2 then (reliquarylaw12_RecordChanges.j0 k l1 t318 t321 bt328.1 ((t321.length : Int) != (bt328.1.length : Int))) else (reliquarylaw12_RecordChanges.j0 k l1 t318 t321 bt328.1 true)))) = some r := H
      have A9 := Aside0.mk A90
      clear A90
      replace H := Option.bind_eq_some_iff.mp H
      obtain ⟨t325, A100, H⟩ := H
      replace H : ((reliquaryref12_Of.f k t325).bind fun bt328 => (if t322 = bt328.2 then (reliquarylaw12_RecordChanges.j0 k l1 t318 t321 bt328.1 ((t321.length : Int) != (bt328.1.length : Int))) else (reliquarylaw12_RecordChanges.j0 k l1 t318 t321 bt328.1 true))) = some r := H
      have A10 := Aside0.mk A100
      clear A100
      replace H := Option.bind_eq_some_iff.mp H
      obtain ⟨⟨t328, t329⟩, A110, H⟩ := H
      replace H : (if t322 = t329 then (reliquarylaw12_RecordChanges.j0 k l1 t318 t321 t328 ((t321.length : Int) != (t328.length : Int))) else (reliquarylaw12_RecordChanges.j0 k l1 t318 t321 t328 true)) = some r := H
      have A11 := Aside0.mk A110
      clear A110
      have HC12 := Aside0.mk H
      clear H
      go_enter Try.func5, Try.ntmps5
      go_upto_region 9 with (first | ((with_reducible refine gate_callee (f := 8) rfl ?_); refine goesL_ (some 23) rfl rfl Try.func8 (by kernel_rfl) rfl #[] rfl (by (try simp only [List.map_toArray, List.map_cons, List.map_nil]); first | done | rfl | (simp only [List.length_drop, List.length_take]; rfl)) ?_; (with_reducible refine (reliquarylaw12_awake.calls k  true _ A4.out).mono ?_); rintro e w13 ⟨rfl, hb⟩; refine ⟨_, rfl, ?_⟩; have n0_ := Aside0.mk (below_step (by repeat (first | (with_reducible first | exact HB.out | apply below_alloc | apply pw_below_drewN | apply below_drew1) | exact HB.out)) hb); clear HB; have HB := n0_; clear n0_; (try clear hb); (try clear hb2); (try clear hk); (try clear hi)) | ((with_reducible refine gate_callee (f := 9) rfl ?_); refine goesL_ (some 31) rfl rfl Try.func9 (by kernel_rfl) rfl #[.slice A0 l0.length c0, .bool a2] rfl (by (try simp only [List.map_toArray, List.map_cons, List.map_nil]); first | done | rfl | (simp only [List.length_drop, List.length_take]; rfl)) ?_; (with_reducible refine (reliquarylaw12_images.calls k _ _ l0 a2 t318 _ ?side1 ?side2 A8.out).mono ?_); (case side1 => repeat (first | exact (Kd.C_below HR0.out HB.out) | (with_reducible refine Kd.C_alloc ?_ _) | (with_reducible refine Kd.C_drewN ?_ _) | (with_reducible refine Kd.C_drew ?_))); (case side2 => exact HC0.out); rintro e w14 ⟨v319, rfl, ho0, hb⟩; refine ⟨_, rfl, ?_⟩; have n0_ := Aside0.mk (Kd.N_lower (Kd.N_mono (ok' := fun k_ => True) (Kd.S_N (Kd.S_bound ho0)) (fun k_ hk_ => trivial)) (below_size (by repeat (first | (with_reducible first | exact HB.out | apply below_alloc | apply pw_below_drewN | apply below_drew1) | exact HB.out)))); have n1_ := Aside0.mk (below_step (by repeat (first | (with_reducible first | exact HB.out | apply below_alloc | apply pw_below_drewN | apply below_drew1) | exact HB.out)) hb); clear HB; have HO320 := n0_; have HB := n1_; clear n0_ n1_; (try clear hb); (try clear hb2); (try clear hk); (try clear hi); (try clear ho0); obtain ⟨Ao15, co15, eo15⟩ := Kd.N_slice HO320.out; subst eo15) | ((with_reducible refine gate_callee (f := 15) rfl ?_); refine goesL_ (some 34) rfl rfl Try.func15 (by kernel_rfl) rfl #[.slice Ao15 t318.length co15] rfl (by (try simp only [List.map_toArray, List.map_cons, List.map_nil]); first | done | rfl | (simp only [List.length_drop, List.length_take]; rfl)) ?_; (with_reducible refine (record_Of.calls k _ _ t318 t321 t322 _ ?side1 ?side2 A9.out).mono ?_); (case side1 => repeat (first | exact (Kd.N_reads' HO320.out).2.2 | (with_reducible refine Kd.C_alloc ?_ _) | (with_reducible refine Kd.C_drewN ?_ _) | (with_reducible refine Kd.C_drew ?_))); (case side2 => exact (Kd.N_reads' HO320.out).2.1); rintro e w16 ⟨v323, rfl, ho0, hb⟩; refine ⟨_, rfl, ?_⟩; have n0_ := Aside0.mk (Kd.N_elder' (by (with_reducible repeat (first | apply Kd.N_alloc | apply Kd.N_drewN | apply Kd.N_drew)); exact HO320.out) (by first | exact Kd.N_base ho0 | exact Kd.N_base (Kd.S_N ho0) | exact Kd.N_base (Kd.R_N ho0)) hb); have n1_ := Aside0.mk (Kd.N_lower (Kd.N_mono (ok' := fun k_ => some k_ ≠ (.slice Ao15 t318.length co15 : Value).ownBlock) (Kd.S_N (Kd.S_bound ho0)) (fun k_ hk_ => (Kd.fresh' (Kd.N_lt (by (with_reducible repeat (first | apply Kd.N_alloc | apply Kd.N_drewN | apply Kd.N_drew)); exact HO320.out)) k_ hk_.2.1))) (below_size (by repeat (first | (with_reducible first | exact HB.out | apply below_alloc | apply pw_below_drewN | apply below_drew1) | exact HB.out)))); have n2_ := Aside0.mk (below_step (by repeat (first | (with_reducible first | exact HB.out | apply below_alloc | apply pw_below_drewN | apply below_drew1) | exact HB.out)) hb); clear HO320; clear HB; have HO320 := n0_; have HO324 := n1_; have HB := n2_; clear n0_ n1_ n2_; (try clear hb); (try clear hb2); (try clear hk); (try clear hi); (try clear ho0)) | ((with_reducible refine gate_callee (f := 17) rfl ?_); refine goesL_ (some 39) rfl rfl Try.func17 (by kernel_rfl) rfl #[.slice Ao15 t318.length co15] rfl (by (try simp only [List.map_toArray, List.map_cons, List.map_nil]); first | done | rfl | (simp only [List.length_drop, List.length_take]; rfl)) ?_; (with_reducible refine (reliquarylaw12_modelOf.calls k _ _ t318 t325 _ ?side1 ?side2 A10.out).mono ?_); (case side1 => repeat (first | exact (Kd.N_reads' HO320.out).2.2 | (with_reducible refine Kd.C_alloc ?_ _) | (with_reducible refine Kd.C_drewN ?_ _) | (with_reducible refine Kd.C_drew ?_))); (case side2 => exact (Kd.N_reads' HO320.out).2.1); rintro e w17 ⟨v326, rfl, ho0, hb⟩; refine ⟨_, rfl, ?_⟩; have n0_ := Aside0.mk (Kd.N_elder' (by (with_reducible repeat (first | apply Kd.N_alloc | apply Kd.N_drewN | apply Kd.N_drew)); exact HO320.out) (Kd.R_base ho0) hb); have n1_ := Aside0.mk (Kd.N_elder' (by (with_reducible repeat (first | apply Kd.N_alloc | apply Kd.N_drewN | apply Kd.N_drew)); exact HO324.out) (Kd.R_base ho0) hb); have n2_ := Aside0.mk (Kd.R_lower ho0 (below_size (by repeat (first | (with_reducible first | exact HB.out | apply below_alloc | apply pw_below_drewN | apply below_drew1) | exact HB.out)))); have n3_ := Aside0.mk (below_step (by repeat (first | (with_reducible first | exact HB.out | apply below_alloc | apply pw_below_drewN | apply below_drew1) | exact HB.out)) hb); clear HO320; clear HO324; clear HB; have HO320 := n0_; have HO324 := n1_; have HO327 := n2_; have HB := n3_; clear n0_ n1_ n2_ n3_; (try clear hb); (try clear hb2); (try clear hk); (try clear hi); (try clear ho0); obtain ⟨Ao18, co18, eo18⟩ := Kd.R_slice HO327.out; subst eo18) | ((with_reducible refine gate_callee (f := 16) rfl ?_); refine goesL_ (some 40) rfl rfl Try.func16 (by kernel_rfl) rfl #[.slice Ao18 t325.length co18] rfl (by (try simp only [List.map_toArray, List.map_cons, List.map_nil]); first | done | rfl | (simp only [List.length_drop, List.length_take]; rfl)) ?_; (with_reducible refine (reliquaryref12_Of.calls k _ _ t325 t328 t329 _ ?side1 ?side2 A11.out).mono ?_); (case side1 => repeat (first | exact (Kd.R_reads' HO327.out).2.2 | (with_reducible refine Kd.C_alloc ?_ _) | (with_reducible refine Kd.C_drewN ?_ _) | (with_reducible refine Kd.C_drew ?_))); (case side2 => exact (Kd.R_reads' HO327.out).2.1); rintro e w19 ⟨v330, rfl, ho0, hb⟩; refine ⟨_, rfl, ?_⟩; have n0_ := Aside0.mk (Kd.N_elder' (by (with_reducible repeat (first | apply Kd.N_alloc | apply Kd.N_drewN | apply Kd.N_drew)); exact HO320.out) (Kd.R_base ho0) hb); have n1_ := Aside0.mk (Kd.N_elder' (by (with_reducible repeat (first | apply Kd.N_alloc | apply Kd.N_drewN | apply Kd.N_drew)); exact HO324.out) (Kd.R_base ho0) hb); have n2_ := Aside0.mk (Kd.R_below (by (with_reducible repeat (first | apply Kd.R_alloc | apply Kd.R_drewN | apply Kd.R_drew)); exact HO327.out) hb); have n3_ := Aside0.mk (Kd.R_lower ho0 (below_size (by repeat (first | (with_reducible first | exact HB.out | apply below_alloc | apply pw_below_drewN | apply below_drew1) | exact HB.out)))); have n4_ := Aside0.mk (below_step (by repeat (first | (with_reducible first | exact HB.out | apply below_alloc | apply pw_below_drewN | apply below_drew1) | exact HB.out)) hb); clear HO320; clear HO324; clear HO327; clear HB; have HO320 := n0_; have HO324 := n1_; have HO327 := n2_; have HO331 := n3_; have HB := n4_; clear n0_ n1_ n2_ n3_ n4_; (try clear hb); (try clear hb2); (try clear hk); (try clear hi); (try clear ho0)))
      (try simp only [Act.put, List.setIfInBounds_toArray, List.set_cons_zero, List.set_cons_succ])
      go_cut [52] (fun v52 wc => ∃ (kq : Nat) (x52_11 : Bool), v52 = .bool x52_11 ∧ Aside0 (reliquarylaw12_RecordChanges.j0 kq l1 t318 t321 t328 x52_11 = some r) ∧ Aside0 (kq ≤ k) ∧ Aside0 (Kd.N k25 25 wc w.heap.size (fun k_ => some k_ ≠ (v323 : Value).ownBlock ∧ some k_ ≠ (v330 : Value).ownBlock) (.slice Ao15 t318.length co15) t318) ∧ Aside0 (Kd.N k30 30 wc w.heap.size (fun k_ => some k_ ≠ ((.slice Ao15 t318.length co15) : Value).ownBlock ∧ some k_ ≠ (v330 : Value).ownBlock) v323 t321) ∧ Aside0 (Kd.R k39 39 wc w.heap.size (fun _ => True) v330 t328) ∧ Aside0 (Below w.heap.size w wc))
      case first =>
        have H := HC12.out
        clear HC12
        by_cases c20 : t322 = t329
        · rw [if_pos c20] at H
          have c20b0 : (t322 == t329) = true := beq_iff_eq.mpr c20
          have c20b1 : (t322 != t329) = false := bne_eq_false_iff_eq.mpr c20
          clear c20
          (first | rw [c20b0] | (simp only [i64_w, i32_w]; rw [c20b0]) | skip)
          have H' := Aside0.mk H
          clear H
          obtain ⟨Ao21, co21, eo21⟩ := Kd.N_slice HO324.out
          subst eo21
          obtain ⟨Ao22, co22, eo22⟩ := Kd.R_slice HO331.out
          subst eo22
          go_wp2
          go_meet
          case rel => exact ⟨_, (((t321.length : Int) != (t328.length : Int))), (by first | rfl | (simp; done) | (simp [*]; done)), H', ⟨by first | omega | exact Nat.le_refl _⟩, ⟨by (with_reducible repeat (first | apply Kd.N_alloc | apply Kd.N_drewN | apply Kd.N_drew)); exact Kd.N_mono HO320.out (fun _ hk => ⟨hk.1.1.2, hk.2⟩)⟩, ⟨by (with_reducible repeat (first | apply Kd.N_alloc | apply Kd.N_drewN | apply Kd.N_drew)); exact Kd.N_mono HO324.out (fun _ hk => ⟨hk.1.1, hk.2⟩)⟩, ⟨by (with_reducible repeat (first | apply Kd.R_alloc | apply Kd.R_drewN | apply Kd.R_drew)); exact HO331.out⟩, ⟨by repeat (first | (with_reducible first | exact HB.out | apply below_alloc | apply pw_below_drewN | apply below_drew1) | exact HB.out)⟩⟩
        · rw [if_neg c20] at H
          have c20b0 : (t322 == t329) = false := beq_eq_false_iff_ne.mpr c20
          have c20b1 : (t322 != t329) = true := bne_iff_ne.mpr c20
          (first | rw [c20b0] | (simp only [i64_w, i32_w]; rw [c20b0]) | skip)
          have H' := Aside0.mk H
          clear H
          go_wp2
          go_meet
          case rel => exact ⟨_, (true), (by first | rfl | (simp; done) | (simp [*]; done)), H', ⟨by first | omega | exact Nat.le_refl _⟩, ⟨by (with_reducible repeat (first | apply Kd.N_alloc | apply Kd.N_drewN | apply Kd.N_drew)); exact Kd.N_mono HO320.out (fun _ hk => ⟨hk.1.1.2, hk.2⟩)⟩, ⟨by (with_reducible repeat (first | apply Kd.N_alloc | apply Kd.N_drewN | apply Kd.N_drew)); exact Kd.N_mono HO324.out (fun _ hk => ⟨hk.1.1, hk.2⟩)⟩, ⟨by (with_reducible repeat (first | apply Kd.R_alloc | apply Kd.R_drewN | apply Kd.R_drew)); exact HO331.out⟩, ⟨by repeat (first | (with_reducible first | exact HB.out | apply below_alloc | apply pw_below_drewN | apply below_drew1) | exact HB.out)⟩⟩
      case rest =>
        clear HC12
        try clear c1
        try clear c2
        try clear p2
        try clear c5
        try clear c6
        try clear c6b0
        try clear c6b1
        try clear c8
        try clear c9
        try clear c15
        try clear c16
        try clear c17
        try clear c20
        try clear c20b0
        try clear c20b1
        obtain ⟨kq, x52_11, rfl, HA, HJ11, HO_8, HO_9, HO_11, HB⟩ := hcut
        cases kq with
        | zero => exact absurd HA.out (by simp [reliquarylaw12_RecordChanges.j0])
        | succ kj11 =>
          have H := HA.out
          clear HA
          simp only [reliquarylaw12_RecordChanges.j0] at H
          by_cases c23 : x52_11 = true
          · subst c23
            have H1 : (some false) = some r := by rw [if_pos rfl] at H; exact H
            clear H
            have H := H1
            clear H1
            obtain rfl := Option.some.inj H
            go_wp2
            go_ret
            exact ⟨by first | rfl | (simp [errW_none, errW_some] <;> rfl) | (simp [*, errW_none, errW_some] <;> rfl), by repeat (first | (with_reducible first | exact HB.out | apply below_alloc | apply pw_below_drewN | apply below_drew1) | exact HB.out)⟩
          · replace c23 := Bool.eq_false_iff.mpr c23
            subst c23
            have H1 : (reliquarylaw12_RecordChanges.l0 kj11 l1 t318 t321 t328 0) = some r := by rw [if_neg (show ¬ (false = true) by decide)] at H; exact H
            clear H
            have H := H1
            clear H1
            have H' := Aside0.mk H
            clear H
            go_wp2
            go_loopg [13] kj11 (fun kq v13 w' => ∃ (x13_2 : Int), v13 = .int .i64 x13_2 ∧ Aside0 (reliquarylaw12_RecordChanges.l0 kq l1 t318 t321 t328 x13_2 = some r) ∧ Aside0 (kq ≤ kj11) ∧ Aside0 (Kd.N k25 25 w' w.heap.size (fun k_ => some k_ ≠ (v323 : Value).ownBlock ∧ some k_ ≠ (v330 : Value).ownBlock) (.slice Ao15 t318.length co15) t318) ∧ Aside0 (Kd.N k30 30 w' w.heap.size (fun k_ => some k_ ≠ ((.slice Ao15 t318.length co15) : Value).ownBlock ∧ some k_ ≠ (v330 : Value).ownBlock) v323 t321) ∧ Aside0 (Kd.R k39 39 w' w.heap.size (fun _ => True) v330 t328) ∧ Aside0 (Below w.heap.size w w'))
            case atStart => exact ⟨(0), (by first | rfl | (simp; done) | (simp [*]; done)), H', ⟨Nat.le_refl _⟩, ⟨by (with_reducible repeat (first | apply Kd.N_alloc | apply Kd.N_drewN | apply Kd.N_drew)); exact HO_8.out⟩, ⟨by (with_reducible repeat (first | apply Kd.N_alloc | apply Kd.N_drewN | apply Kd.N_drew)); exact HO_9.out⟩, ⟨by (with_reducible repeat (first | apply Kd.R_alloc | apply Kd.R_drewN | apply Kd.R_drew)); exact HO_11.out⟩, ⟨by repeat (first | (with_reducible first | exact HB.out | apply below_alloc | apply pw_below_drewN | apply below_drew1) | exact HB.out)⟩⟩
            case round =>
              clear H'
              try clear c1
              try clear c2
              try clear p2
              try clear c5
              try clear c6
              try clear c6b0
              try clear c6b1
              try clear c8
              try clear c9
              try clear c15
              try clear c16
              try clear c17
              try clear c20
              try clear c20b0
              try clear c20b1
              try clear c23
              try clear p2
              obtain ⟨x13_2, rfl, HA, HK2, HO_8, HO_9, HO_11, HB⟩ := hrel
              cases gk with
              | zero => exact absurd HA.out (by simp [reliquarylaw12_RecordChanges.l0])
              | succ k2 =>
                have H := HA.out
                clear HA
                simp only [reliquarylaw12_RecordChanges.l0] at H
                by_cases c24 : x13_2 < (t321.length : Int)
                · rw [if_pos c24] at H
                  have c24b0 : decide (x13_2 < (t321.length : Int)) = true := decide_eq_true c24
                  clear c24
                  by_cases c25 : 0 ≤ x13_2
                  · rw [if_pos c25] at H
                    have c25b0 : decide (0 ≤ x13_2) = true := decide_eq_true c25
                    clear c25
                    replace H := Option.bind_eq_some_iff.mp H
                    obtain ⟨⟨t333, t334, t335⟩, A260, H⟩ := H
                    replace H : (if x13_2 < (t328.length : Int) then (if ((!(t333 == ((rd_T39 t328 x13_2).f0.f0)) || (!(t334.toList == (((rd_T39 t328 x13_2).f0.f1).toList)))) || (!(t335 == ((rd_T39 t328 x13_2).f1)))) = true then (some false) else (reliquarylaw12_RecordChanges.l0 k2 l1 t318 t321 t328 (wrap64 (x13_2 + 1)))) else (none)) = some r := H
                    have A26 := Aside0.mk A260
                    clear A260
                    by_cases c27 : x13_2 < (t328.length : Int)
                    · rw [if_pos c27] at H
                      have c27b0 : decide (x13_2 < (t328.length : Int)) = true := decide_eq_true c27
                      clear c27
                      by_cases c28 : ((!(t333 == ((rd_T39 t328 x13_2).f0.f0)) || (!(t334.toList == (((rd_T39 t328 x13_2).f0.f1).toList)))) || (!(t335 == ((rd_T39 t328 x13_2).f1)))) = true
                      · rw [if_pos c28] at H
                        have c28b0 : ((!(t333 == ((rd_T39 t328 x13_2).f0.f0)) || (!(t334.toList == (((rd_T39 t328 x13_2).f0.f1).toList)))) || (!(t335 == ((rd_T39 t328 x13_2).f1)))) = true := c28
                        clear c28
                        obtain rfl := Option.some.inj H
                        obtain ⟨Ao29, co29, eo29⟩ := Kd.N_slice HO_9.out
                        subst eo29
                        try go_wp2
                        have n0_ := Aside0.mk (Kd.N_drew HO_8.out)
                        have n1_ := Aside0.mk (Kd.N_drew HO_9.out)
                        have n2_ := Aside0.mk (Kd.R_drew HO_11.out)
                        have n3_ := Aside0.mk (below_drew1 HB.out)
                        clear HO_8
                        clear HO_9
                        clear HO_11
                        clear HB
                        have HO_8 := n0_
                        have HO_9 := n1_
                        have HO_11 := n2_
                        have HB := n3_
                        clear n0_ n1_ n2_ n3_
                        have p332 : 0 ≤ (x13_2 : Int) := of_decide_eq_true (by first | (with_reducible assumption) | assumption)
                        have q332 : x13_2 < (t321.length : Int) := of_decide_eq_true (by first | (with_reducible assumption) | assumption)
                        obtain ⟨ad332, A332_1, c332_1, e332, hx332_0, hx332_1, hx332_2, hl332_1, hi332_1⟩ := at_T30 (Kd.N_reads' HO_9.out).2.2 x13_2 p332 q332
                        cases e332
                        obtain ⟨ce332, hce332, hMe332, hcc332⟩ := Kd.N_get HO_9.out z30 x13_2 p332 (by first | exact q332 | exact of_decide_eq_true (by first | (with_reducible assumption) | assumption) | (have e_ := (Kd.N_reads' HO_9.out).1; omega))
                        obtain ⟨ua332_1, uc332_1, rfl, ul332_1, ge332_1⟩ := k30_openF hMe332
                        have hv332_1 := hcc332 1 _ rfl
                        rw [add_field _ _ 1 (by omega)] at hv332_1
                        replace hv332_1 := Option.some.inj (hv332_1.symm.trans hx332_1)
                        injection hv332_1 with hva_ hvn_ hvc_
                        rw [hva_] at ge332_1
                        rw [hvc_] at ul332_1
                        have HL332_1 := Aside0.mk (show Kd.V (Kd.int .u8) 5 _ w.heap.size _ _ ((rd_T30 t321 x13_2).f0.f1) from Kd.V_mk ul332_1 ge332_1)
                        clear hva_ hvn_ hvc_ ge332_1 ul332_1
                        clear hcc332 hce332
                        have HR332_1 := Aside0.mk hi332_1
                        have HC332_1 := Aside0.mk hl332_1
                        clear hi332_1 hl332_1
                        replace p332 := eq_true p332
                        replace q332 := eq_true q332
                        obtain ⟨Ao31, co31, eo31⟩ := Kd.R_slice HO_11.out
                        (first | subst eo31 | (injection eo31 with f1_ f2_ f3_; have f4_ := f1_.symm; have f5_ := f3_.symm; clear f1_ f2_ f3_; subst f4_; subst f5_))
                        have p336 : 0 ≤ (x13_2 : Int) := of_decide_eq_true (by first | (with_reducible assumption) | assumption)
                        have q336 : x13_2 < (t328.length : Int) := of_decide_eq_true (by first | (with_reducible assumption) | assumption)
                        obtain ⟨ad336, e336, hx336_0, hx336_1, hx336_2⟩ := at_T39 (Kd.R_reads' HO_11.out).2.2 x13_2 p336 q336
                        cases e336
                        replace p336 := eq_true p336
                        replace q336 := eq_true q336
                        refine start_ (n := 10) (S := fun w' => w'.cell? (ad332.add ((x13_2).toNat * 3)) = some (.int .u64 ((rd_T30 t321 x13_2).f0.f0)) ∧ w'.cell? ⟨(ad332.add ((x13_2).toNat * 3)).block, (ad332.add ((x13_2).toNat * 3)).off + 1, none⟩ = some (.slice A332_1 ((rd_T30 t321 x13_2).f0.f1).length c332_1) ∧ w'.cell? ⟨(ad332.add ((x13_2).toNat * 3)).block, (ad332.add ((x13_2).toNat * 3)).off + 2, none⟩ = some (.bool ((rd_T30 t321 x13_2).f1)) ∧ w'.cell? (ad336.add ((x13_2).toNat * 3)) = some (.int .u64 ((rd_T39 t328 x13_2).f0.f0)) ∧ w'.cell? ⟨(ad336.add ((x13_2).toNat * 3)).block, (ad336.add ((x13_2).toNat * 3)).off + 1, none⟩ = some (.string ((rd_T39 t328 x13_2).f0.f1)) ∧ w'.cell? ⟨(ad336.add ((x13_2).toNat * 3)).block, (ad336.add ((x13_2).toNat * 3)).off + 2, none⟩ = some (.bool ((rd_T39 t328 x13_2).f1))) (ds := []) #[false, false, false, false, false, false, false, false, false, false] (by kernel_rfl) rfl rfl ⟨hx332_0, hx332_1, hx332_2, hx336_0, hx336_1, hx336_2⟩ (fun hHeld => ?_); refine with_tabW reliquarylaw12_RecordChanges.tab14 reliquarylaw12_RecordChanges.bits14 (fun HT_ HW_ => ?_)
                        generalize wr.drew = w30 at HO_8 HO_9 HO_11 HB HL332_1 HR332_1 hx332_0 hx332_1 hx332_2 hx336_0 hx336_1 hx336_2 hHeld ⊢
                        refine pure_ (i := 0) (N := some 59) (v := ?_) (a' := ?_) #[true, false, false, false, false, false, false, false, false, false] rfl rfl (any_of HT_.out (by kernel_rfl)) (fun _ _ _ h => h) (Or.inl ⟨by rfl, ?_⟩) ?_ ?_
                        rotate_left
                        · intro w'
                          go_simp
                          with_reducible rfl
                        rotate_left
                        · simp only [Act.put, List.setIfInBounds_toArray, List.set_cons_zero, List.set_cons_succ, i64_w, i32_w]
                          rfl
                        refine pure_ (i := 1) (N := some 60) (v := ?_) (a' := ?_) #[true, true, false, false, false, false, false, false, false, false] rfl rfl (any_of HT_.out (by kernel_rfl)) (fun _ _ _ h => h) (Or.inl ⟨by rfl, ?_⟩) ?_ ?_
                        rotate_left
                        · intro w'
                          go_simp
                          with_reducible rfl
                        rotate_left
                        · simp only [Act.put, List.setIfInBounds_toArray, List.set_cons_zero, List.set_cons_succ, i64_w, i32_w]
                          rfl
                        refine pure_ (i := 2) (N := some 61) (v := ?_) (a' := ?_) #[true, true, true, false, false, false, false, false, false, false] rfl rfl (any_of HT_.out (by kernel_rfl)) (fun _ _ _ h => h) (Or.inl ⟨by rfl, ?_⟩) ?_ ?_
                        rotate_left
                        · intro w'
                          go_simp
                          with_reducible rfl
                        rotate_left
                        · simp only [Act.put, List.setIfInBounds_toArray, List.set_cons_zero, List.set_cons_succ, i64_w, i32_w]
                          rfl
                        refine pure_ (i := 5) (N := some 64) (v := ?_) (a' := ?_) #[true, true, true, false, false, true, false, false, false, false] rfl rfl (any_of HT_.out (by kernel_rfl)) (fun _ _ _ h => h) (Or.inl ⟨by rfl, ?_⟩) ?_ ?_
                        rotate_left
                        · intro w'
                          go_simp
                          with_reducible rfl
                        rotate_left
                        · simp only [Act.put, List.setIfInBounds_toArray, List.set_cons_zero, List.set_cons_succ, i64_w, i32_w]
                          rfl
                        refine pure_ (i := 6) (N := some 65) (v := ?_) (a' := ?_) #[true, true, true, false, false, true, true, false, false, false] rfl rfl (any_of HT_.out (by kernel_rfl)) (fun _ _ _ h => h) (Or.inl ⟨by rfl, ?_⟩) ?_ ?_
                        rotate_left
                        · intro w'
                          go_simp
                          with_reducible rfl
                        rotate_left
                        · simp only [Act.put, List.setIfInBounds_toArray, List.set_cons_zero, List.set_cons_succ, i64_w, i32_w]
                          rfl
                        refine pure_ (i := 7) (N := some 66) (v := ?_) (a' := ?_) #[true, true, true, false, false, true, true, true, false, false] rfl rfl (any_of HT_.out (by kernel_rfl)) (fun _ _ _ h => h) (Or.inl ⟨by rfl, ?_⟩) ?_ ?_
                        rotate_left
                        · intro w'
                          go_simp
                          with_reducible rfl
                        rotate_left
                        · simp only [Act.put, List.setIfInBounds_toArray, List.set_cons_zero, List.set_cons_succ, i64_w, i32_w]
                          rfl
                        refine take_ (i := 3) (N := some 62) (v := ?_) (a' := ?_) #[true, true, true, true, false, true, true, true, false, false] rfl rfl (take_ofW HT_.out HW_.out (by kernel_rfl)) (fun _ _ _ h => h) (Or.inl ⟨by rfl, ?_⟩) hHeld ?_ ?_
                        rotate_left
                        · rintro w' ⟨s0, s1, s2, s3, s4, s5⟩
                          go_simp
                          with_reducible rfl
                        rotate_left
                        · simp only [Act.put, List.setIfInBounds_toArray, List.set_cons_zero, List.set_cons_succ, i64_w, i32_w]
                          rfl
                        refine take_ (i := 8) (N := some 67) (v := ?_) (a' := ?_) #[true, true, true, true, false, true, true, true, true, false] rfl rfl (take_ofW HT_.out HW_.out (by kernel_rfl)) (fun _ _ _ h => h) (Or.inl ⟨by rfl, ?_⟩) hHeld ?_ ?_
                        rotate_left
                        · rintro w' ⟨s0, s1, s2, s3, s4, s5⟩
                          go_simp
                          with_reducible rfl
                        rotate_left
                        · simp only [Act.put, List.setIfInBounds_toArray, List.set_cons_zero, List.set_cons_succ, i64_w, i32_w]
                          rfl
                        refine one_ (i := 4) (N := some 63) #[true, true, true, true, true, true, true, true, true, false] rfl rfl (one_of HT_.out (by kernel_rfl)) (by decide) (fun K hK => ?_)
                        refine goes_ Try.func12 (by kernel_rfl) rfl #[.agg #[.int .u64 ((rd_T30 t321 x13_2).f0.f0), .slice A332_1 ((rd_T30 t321 x13_2).f0.f1).length c332_1, .bool ((rd_T30 t321 x13_2).f1)]] (by rfl) rfl rfl (by (try simp only [List.map_toArray, List.map_cons, List.map_nil]); first | done | rfl | (simp only [List.length_drop, List.length_take]; rfl)) ?_
                        with_reducible refine (reliquarylaw12_recordOf.calls ((rd_T30 t321 x13_2).f0.f0) _ _ ((rd_T30 t321 x13_2).f0.f1) ((rd_T30 t321 x13_2).f1) t333 t334 t335 _ ?side1 ?side2 A26.out).mono ?_
                        (case side1 => repeat (first | exact (by repeat (first | (with_reducible exact HR332_1.out) | (with_reducible refine Kd.C_alloc ?_ _) | (with_reducible refine Kd.C_drewN ?_ _) | (with_reducible refine Kd.C_drew ?_) | exact HR332_1.out)) | (with_reducible refine Kd.C_alloc ?_ _) | (with_reducible refine Kd.C_drewN ?_ _) | (with_reducible refine Kd.C_drew ?_)))
                        (case side2 => exact HC332_1.out)
                        rintro e w32 ⟨rfl, hb⟩
                        have HS0_ := (hb.cell (World.block_lt_of_cell? _ _ (hHeld.1))).trans (hHeld.1)
                        have HS1_ := (hb.cell (World.block_lt_of_cell? _ _ (hHeld.2.1))).trans (hHeld.2.1)
                        have HS2_ := (hb.cell (World.block_lt_of_cell? _ _ (hHeld.2.2.1))).trans (hHeld.2.2.1)
                        have HS3_ := (hb.cell (World.block_lt_of_cell? _ _ (hHeld.2.2.2.1))).trans (hHeld.2.2.2.1)
                        have HS4_ := (hb.cell (World.block_lt_of_cell? _ _ (hHeld.2.2.2.2.1))).trans (hHeld.2.2.2.2.1)
                        have HS5_ := (hb.cell (World.block_lt_of_cell? _ _ (hHeld.2.2.2.2.2))).trans (hHeld.2.2.2.2.2)
                        refine ⟨_, rfl, ?_⟩
                        have n0_ := Aside0.mk (Kd.N_below (by (with_reducible repeat (first | apply Kd.N_alloc | apply Kd.N_drewN | apply Kd.N_drew)); exact HO_8.out) hb)
                        have n1_ := Aside0.mk (Kd.N_below (by (with_reducible repeat (first | apply Kd.N_alloc | apply Kd.N_drewN | apply Kd.N_drew)); exact HO_9.out) hb)
                        have n2_ := Aside0.mk (Kd.R_below (by (with_reducible repeat (first | apply Kd.R_alloc | apply Kd.R_drewN | apply Kd.R_drew)); exact HO_11.out) hb)
                        have n3_ := Aside0.mk (Kd.V_below (by (with_reducible repeat (first | apply Kd.V_alloc | apply Kd.V_drewN | apply Kd.V_drew)); exact HL332_1.out) hb)
                        have n4_ := Aside0.mk (Kd.C_below (by repeat (first | (with_reducible exact HR332_1.out) | (with_reducible refine Kd.C_alloc ?_ _) | (with_reducible refine Kd.C_drewN ?_ _) | (with_reducible refine Kd.C_drew ?_) | exact HR332_1.out)) hb)
                        have n5_ := Aside0.mk (below_step (by repeat (first | (with_reducible first | exact HB.out | apply below_alloc | apply pw_below_drewN | apply below_drew1) | exact HB.out)) hb)
                        clear HO_8
                        clear HO_9
                        clear HO_11
                        clear HL332_1
                        clear HR332_1
                        clear HB
                        have HO_8 := n0_
                        have HO_9 := n1_
                        have HO_11 := n2_
                        have HL332_1 := n3_
                        have HR332_1 := n4_
                        have HB := n5_
                        clear n0_ n1_ n2_ n3_ n4_ n5_
                        (try clear hb)
                        (try clear hb2)
                        (try clear hk)
                        (try clear hi)
                        refine hK.out _ _ ⟨HS0_, HS1_, HS2_, HS3_, HS4_, HS5_⟩ (fun hHeld => ?_)
                        clear hK K
                        refine norm_ (a' := ?_) ?_ ?_
                        rotate_left
                        · show Act.put _ (some 63) _ = _
                          simp only [Act.put, List.setIfInBounds_toArray, List.set_cons_zero, List.set_cons_succ, i64_w, i32_w]
                          rfl
                        refine pure_ (i := 9) (N := some 68) (v := ?_) (a' := ?_) #[true, true, true, true, true, true, true, true, true, true] rfl rfl (any_of HT_.out (by kernel_rfl)) (fun _ _ _ h => h) (Or.inl ⟨by rfl, ?_⟩) ?_ ?_
                        rotate_left
                        · intro w'
                          go_simp
                          with_reducible rfl
                        rotate_left
                        · simp only [Act.put, List.setIfInBounds_toArray, List.set_cons_zero, List.set_cons_succ, i64_w, i32_w]
                          rfl
                        refine done_ (done_of HT_.out (by kernel_rfl)) ?_
                        try go_wp2
                        go_ret
                        exact ⟨by first | rfl | (simp [errW_none, errW_some] <;> rfl) | (simp [*, errW_none, errW_some] <;> rfl), by repeat (first | (with_reducible first | exact HB.out | apply below_alloc | apply pw_below_drewN | apply below_drew1) | exact HB.out)⟩
                      · rw [if_neg c28] at H
                        have c28b0 : ((!(t333 == ((rd_T39 t328 x13_2).f0.f0)) || (!(t334.toList == (((rd_T39 t328 x13_2).f0.f1).toList)))) || (!(t335 == ((rd_T39 t328 x13_2).f1)))) = false := by simpa using c28
                        clear c28
                        have H' := Aside0.mk H
                        clear H
                        obtain ⟨Ao33, co33, eo33⟩ := Kd.N_slice HO_9.out
                        subst eo33
                        try go_wp2
                        have n0_ := Aside0.mk (Kd.N_drew HO_8.out)
                        have n1_ := Aside0.mk (Kd.N_drew HO_9.out)
                        have n2_ := Aside0.mk (Kd.R_drew HO_11.out)
                        have n3_ := Aside0.mk (below_drew1 HB.out)
                        clear HO_8
                        clear HO_9
                        clear HO_11
                        clear HB
                        have HO_8 := n0_
                        have HO_9 := n1_
                        have HO_11 := n2_
                        have HB := n3_
                        clear n0_ n1_ n2_ n3_
                        have p332 : 0 ≤ (x13_2 : Int) := of_decide_eq_true (by first | (with_reducible assumption) | assumption)
                        have q332 : x13_2 < (t321.length : Int) := of_decide_eq_true (by first | (with_reducible assumption) | assumption)
                        obtain ⟨ad332, A332_1, c332_1, e332, hx332_0, hx332_1, hx332_2, hl332_1, hi332_1⟩ := at_T30 (Kd.N_reads' HO_9.out).2.2 x13_2 p332 q332
                        cases e332
                        obtain ⟨ce332, hce332, hMe332, hcc332⟩ := Kd.N_get HO_9.out z30 x13_2 p332 (by first | exact q332 | exact of_decide_eq_true (by first | (with_reducible assumption) | assumption) | (have e_ := (Kd.N_reads' HO_9.out).1; omega))
                        obtain ⟨ua332_1, uc332_1, rfl, ul332_1, ge332_1⟩ := k30_openF hMe332
                        have hv332_1 := hcc332 1 _ rfl
                        rw [add_field _ _ 1 (by omega)] at hv332_1
                        replace hv332_1 := Option.some.inj (hv332_1.symm.trans hx332_1)
                        injection hv332_1 with hva_ hvn_ hvc_
                        rw [hva_] at ge332_1
                        rw [hvc_] at ul332_1
                        have HL332_1 := Aside0.mk (show Kd.V (Kd.int .u8) 5 _ w.heap.size _ _ ((rd_T30 t321 x13_2).f0.f1) from Kd.V_mk ul332_1 ge332_1)
                        clear hva_ hvn_ hvc_ ge332_1 ul332_1
                        clear hcc332 hce332
                        have HR332_1 := Aside0.mk hi332_1
                        have HC332_1 := Aside0.mk hl332_1
                        clear hi332_1 hl332_1
                        replace p332 := eq_true p332
                        replace q332 := eq_true q332
                        obtain ⟨Ao35, co35, eo35⟩ := Kd.R_slice HO_11.out
                        (first | subst eo35 | (injection eo35 with f1_ f2_ f3_; have f4_ := f1_.symm; have f5_ := f3_.symm; clear f1_ f2_ f3_; subst f4_; subst f5_))
                        have p336 : 0 ≤ (x13_2 : Int) := of_decide_eq_true (by first | (with_reducible assumption) | assumption)
                        have q336 : x13_2 < (t328.length : Int) := of_decide_eq_true (by first | (with_reducible assumption) | assumption)
                        obtain ⟨ad336, e336, hx336_0, hx336_1, hx336_2⟩ := at_T39 (Kd.R_reads' HO_11.out).2.2 x13_2 p336 q336
                        cases e336
                        replace p336 := eq_true p336
                        replace q336 := eq_true q336
                        refine start_ (n := 10) (S := fun w' => w'.cell? (ad332.add ((x13_2).toNat * 3)) = some (.int .u64 ((rd_T30 t321 x13_2).f0.f0)) ∧ w'.cell? ⟨(ad332.add ((x13_2).toNat * 3)).block, (ad332.add ((x13_2).toNat * 3)).off + 1, none⟩ = some (.slice A332_1 ((rd_T30 t321 x13_2).f0.f1).length c332_1) ∧ w'.cell? ⟨(ad332.add ((x13_2).toNat * 3)).block, (ad332.add ((x13_2).toNat * 3)).off + 2, none⟩ = some (.bool ((rd_T30 t321 x13_2).f1)) ∧ w'.cell? (ad336.add ((x13_2).toNat * 3)) = some (.int .u64 ((rd_T39 t328 x13_2).f0.f0)) ∧ w'.cell? ⟨(ad336.add ((x13_2).toNat * 3)).block, (ad336.add ((x13_2).toNat * 3)).off + 1, none⟩ = some (.string ((rd_T39 t328 x13_2).f0.f1)) ∧ w'.cell? ⟨(ad336.add ((x13_2).toNat * 3)).block, (ad336.add ((x13_2).toNat * 3)).off + 2, none⟩ = some (.bool ((rd_T39 t328 x13_2).f1))) (ds := []) #[false, false, false, false, false, false, false, false, false, false] (by kernel_rfl) rfl rfl ⟨hx332_0, hx332_1, hx332_2, hx336_0, hx336_1, hx336_2⟩ (fun hHeld => ?_); refine with_tabW reliquarylaw12_RecordChanges.tab14 reliquarylaw12_RecordChanges.bits14 (fun HT_ HW_ => ?_)
                        generalize wr.drew = w34 at HO_8 HO_9 HO_11 HB HL332_1 HR332_1 hx332_0 hx332_1 hx332_2 hx336_0 hx336_1 hx336_2 hHeld ⊢
                        refine pure_ (i := 0) (N := some 59) (v := ?_) (a' := ?_) #[true, false, false, false, false, false, false, false, false, false] rfl rfl (any_of HT_.out (by kernel_rfl)) (fun _ _ _ h => h) (Or.inl ⟨by rfl, ?_⟩) ?_ ?_
                        rotate_left
                        · intro w'
                          go_simp
                          with_reducible rfl
                        rotate_left
                        · simp only [Act.put, List.setIfInBounds_toArray, List.set_cons_zero, List.set_cons_succ, i64_w, i32_w]
                          rfl
                        refine pure_ (i := 1) (N := some 60) (v := ?_) (a' := ?_) #[true, true, false, false, false, false, false, false, false, false] rfl rfl (any_of HT_.out (by kernel_rfl)) (fun _ _ _ h => h) (Or.inl ⟨by rfl, ?_⟩) ?_ ?_
                        rotate_left
                        · intro w'
                          go_simp
                          with_reducible rfl
                        rotate_left
                        · simp only [Act.put, List.setIfInBounds_toArray, List.set_cons_zero, List.set_cons_succ, i64_w, i32_w]
                          rfl
                        refine pure_ (i := 2) (N := some 61) (v := ?_) (a' := ?_) #[true, true, true, false, false, false, false, false, false, false] rfl rfl (any_of HT_.out (by kernel_rfl)) (fun _ _ _ h => h) (Or.inl ⟨by rfl, ?_⟩) ?_ ?_
                        rotate_left
                        · intro w'
                          go_simp
                          with_reducible rfl
                        rotate_left
                        · simp only [Act.put, List.setIfInBounds_toArray, List.set_cons_zero, List.set_cons_succ, i64_w, i32_w]
                          rfl
                        refine pure_ (i := 5) (N := some 64) (v := ?_) (a' := ?_) #[true, true, true, false, false, true, false, false, false, false] rfl rfl (any_of HT_.out (by kernel_rfl)) (fun _ _ _ h => h) (Or.inl ⟨by rfl, ?_⟩) ?_ ?_
                        rotate_left
                        · intro w'
                          go_simp
                          with_reducible rfl
                        rotate_left
                        · simp only [Act.put, List.setIfInBounds_toArray, List.set_cons_zero, List.set_cons_succ, i64_w, i32_w]
                          rfl
                        refine pure_ (i := 6) (N := some 65) (v := ?_) (a' := ?_) #[true, true, true, false, false, true, true, false, false, false] rfl rfl (any_of HT_.out (by kernel_rfl)) (fun _ _ _ h => h) (Or.inl ⟨by rfl, ?_⟩) ?_ ?_
                        rotate_left
                        · intro w'
                          go_simp
                          with_reducible rfl
                        rotate_left
                        · simp only [Act.put, List.setIfInBounds_toArray, List.set_cons_zero, List.set_cons_succ, i64_w, i32_w]
                          rfl
                        refine pure_ (i := 7) (N := some 66) (v := ?_) (a' := ?_) #[true, true, true, false, false, true, true, true, false, false] rfl rfl (any_of HT_.out (by kernel_rfl)) (fun _ _ _ h => h) (Or.inl ⟨by rfl, ?_⟩) ?_ ?_
                        rotate_left
                        · intro w'
                          go_simp
                          with_reducible rfl
                        rotate_left
                        · simp only [Act.put, List.setIfInBounds_toArray, List.set_cons_zero, List.set_cons_succ, i64_w, i32_w]
                          rfl
                        refine take_ (i := 3) (N := some 62) (v := ?_) (a' := ?_) #[true, true, true, true, false, true, true, true, false, false] rfl rfl (take_ofW HT_.out HW_.out (by kernel_rfl)) (fun _ _ _ h => h) (Or.inl ⟨by rfl, ?_⟩) hHeld ?_ ?_
                        rotate_left
                        · rintro w' ⟨s0, s1, s2, s3, s4, s5⟩
                          go_simp
                          with_reducible rfl
                        rotate_left
                        · simp only [Act.put, List.setIfInBounds_toArray, List.set_cons_zero, List.set_cons_succ, i64_w, i32_w]
                          rfl
                        refine take_ (i := 8) (N := some 67) (v := ?_) (a' := ?_) #[true, true, true, true, false, true, true, true, true, false] rfl rfl (take_ofW HT_.out HW_.out (by kernel_rfl)) (fun _ _ _ h => h) (Or.inl ⟨by rfl, ?_⟩) hHeld ?_ ?_
                        rotate_left
                        · rintro w' ⟨s0, s1, s2, s3, s4, s5⟩
                          go_simp
                          with_reducible rfl
                        rotate_left
                        · simp only [Act.put, List.setIfInBounds_toArray, List.set_cons_zero, List.set_cons_succ, i64_w, i32_w]
                          rfl
                        refine one_ (i := 4) (N := some 63) #[true, true, true, true, true, true, true, true, true, false] rfl rfl (one_of HT_.out (by kernel_rfl)) (by decide) (fun K hK => ?_)
                        refine goes_ Try.func12 (by kernel_rfl) rfl #[.agg #[.int .u64 ((rd_T30 t321 x13_2).f0.f0), .slice A332_1 ((rd_T30 t321 x13_2).f0.f1).length c332_1, .bool ((rd_T30 t321 x13_2).f1)]] (by rfl) rfl rfl (by (try simp only [List.map_toArray, List.map_cons, List.map_nil]); first | done | rfl | (simp only [List.length_drop, List.length_take]; rfl)) ?_
                        with_reducible refine (reliquarylaw12_recordOf.calls ((rd_T30 t321 x13_2).f0.f0) _ _ ((rd_T30 t321 x13_2).f0.f1) ((rd_T30 t321 x13_2).f1) t333 t334 t335 _ ?side1 ?side2 A26.out).mono ?_
                        (case side1 => repeat (first | exact (by repeat (first | (with_reducible exact HR332_1.out) | (with_reducible refine Kd.C_alloc ?_ _) | (with_reducible refine Kd.C_drewN ?_ _) | (with_reducible refine Kd.C_drew ?_) | exact HR332_1.out)) | (with_reducible refine Kd.C_alloc ?_ _) | (with_reducible refine Kd.C_drewN ?_ _) | (with_reducible refine Kd.C_drew ?_)))
                        (case side2 => exact HC332_1.out)
                        rintro e w36 ⟨rfl, hb⟩
                        have HS0_ := (hb.cell (World.block_lt_of_cell? _ _ (hHeld.1))).trans (hHeld.1)
                        have HS1_ := (hb.cell (World.block_lt_of_cell? _ _ (hHeld.2.1))).trans (hHeld.2.1)
                        have HS2_ := (hb.cell (World.block_lt_of_cell? _ _ (hHeld.2.2.1))).trans (hHeld.2.2.1)
                        have HS3_ := (hb.cell (World.block_lt_of_cell? _ _ (hHeld.2.2.2.1))).trans (hHeld.2.2.2.1)
                        have HS4_ := (hb.cell (World.block_lt_of_cell? _ _ (hHeld.2.2.2.2.1))).trans (hHeld.2.2.2.2.1)
                        have HS5_ := (hb.cell (World.block_lt_of_cell? _ _ (hHeld.2.2.2.2.2))).trans (hHeld.2.2.2.2.2)
                        refine ⟨_, rfl, ?_⟩
                        have n0_ := Aside0.mk (Kd.N_below (by (with_reducible repeat (first | apply Kd.N_alloc | apply Kd.N_drewN | apply Kd.N_drew)); exact HO_8.out) hb)
                        have n1_ := Aside0.mk (Kd.N_below (by (with_reducible repeat (first | apply Kd.N_alloc | apply Kd.N_drewN | apply Kd.N_drew)); exact HO_9.out) hb)
                        have n2_ := Aside0.mk (Kd.R_below (by (with_reducible repeat (first | apply Kd.R_alloc | apply Kd.R_drewN | apply Kd.R_drew)); exact HO_11.out) hb)
                        have n3_ := Aside0.mk (Kd.V_below (by (with_reducible repeat (first | apply Kd.V_alloc | apply Kd.V_drewN | apply Kd.V_drew)); exact HL332_1.out) hb)
                        have n4_ := Aside0.mk (Kd.C_below (by repeat (first | (with_reducible exact HR332_1.out) | (with_reducible refine Kd.C_alloc ?_ _) | (with_reducible refine Kd.C_drewN ?_ _) | (with_reducible refine Kd.C_drew ?_) | exact HR332_1.out)) hb)
                        have n5_ := Aside0.mk (below_step (by repeat (first | (with_reducible first | exact HB.out | apply below_alloc | apply pw_below_drewN | apply below_drew1) | exact HB.out)) hb)
                        clear HO_8
                        clear HO_9
                        clear HO_11
                        clear HL332_1
                        clear HR332_1
                        clear HB
                        have HO_8 := n0_
                        have HO_9 := n1_
                        have HO_11 := n2_
                        have HL332_1 := n3_
                        have HR332_1 := n4_
                        have HB := n5_
                        clear n0_ n1_ n2_ n3_ n4_ n5_
                        (try clear hb)
                        (try clear hb2)
                        (try clear hk)
                        (try clear hi)
                        refine hK.out _ _ ⟨HS0_, HS1_, HS2_, HS3_, HS4_, HS5_⟩ (fun hHeld => ?_)
                        clear hK K
                        refine norm_ (a' := ?_) ?_ ?_
                        rotate_left
                        · show Act.put _ (some 63) _ = _
                          simp only [Act.put, List.setIfInBounds_toArray, List.set_cons_zero, List.set_cons_succ, i64_w, i32_w]
                          rfl
                        refine pure_ (i := 9) (N := some 68) (v := ?_) (a' := ?_) #[true, true, true, true, true, true, true, true, true, true] rfl rfl (any_of HT_.out (by kernel_rfl)) (fun _ _ _ h => h) (Or.inl ⟨by rfl, ?_⟩) ?_ ?_
                        rotate_left
                        · intro w'
                          go_simp
                          with_reducible rfl
                        rotate_left
                        · simp only [Act.put, List.setIfInBounds_toArray, List.set_cons_zero, List.set_cons_succ, i64_w, i32_w]
                          rfl
                        refine done_ (done_of HT_.out (by kernel_rfl)) ?_
                        try go_wp2
                        go_roundg k2
                        case measure => have := HJ11.out; have := HK2.out; omega
                        case rel => exact ⟨(wrap64 (x13_2 + 1)), (by first | rfl | (simp; done) | (simp [*]; done)), H', ⟨by have := HJ11.out; have := HK2.out; omega⟩, ⟨by (with_reducible repeat (first | apply Kd.N_alloc | apply Kd.N_drewN | apply Kd.N_drew)); exact HO_8.out⟩, ⟨by (with_reducible repeat (first | apply Kd.N_alloc | apply Kd.N_drewN | apply Kd.N_drew)); exact HO_9.out⟩, ⟨by (with_reducible repeat (first | apply Kd.R_alloc | apply Kd.R_drewN | apply Kd.R_drew)); exact HO_11.out⟩, ⟨by repeat (first | (with_reducible first | exact HB.out | apply below_alloc | apply pw_below_drewN | apply below_drew1) | exact HB.out)⟩⟩
                    · rw [if_neg c27] at H
                      exact absurd H (by simp)
                  · rw [if_neg c25] at H
                    exact absurd H (by simp)
                · rw [if_neg c24] at H
                  have c24b0 : decide (x13_2 < (t321.length : Int)) = false := decide_eq_false c24
                  clear c24
                  have HC37 := Aside0.mk H
                  clear H
                  obtain ⟨Ao38, co38, eo38⟩ := Kd.N_slice HO_9.out
                  subst eo38
                  go_upto_block 2 with (fail)
                  go_cut [14, 15] (fun v14 v15 wc => ∃ (kq : Nat) (x14_36 : List (S30)) (x15_36 : List (S39)), Aside0 (reliquarylaw12_RecordChanges.j3 kq x14_36 x15_36 = some r) ∧ Aside0 (kq ≤ k2) ∧ Aside0 (Kd.N k30 30 wc w.heap.size (fun k_ => some k_ ≠ (v15 : Value).ownBlock) v14 x14_36) ∧ Aside0 (Kd.R k39 39 wc w.heap.size (fun _ => True) v15 x15_36) ∧ Aside0 (Below w.heap.size w wc))
                  case first =>
                    have H := HC37.out
                    clear HC37
                    have H' := Aside0.mk H
                    clear H
                    go_wp2
                    go_loopg [14, 15, 16] k2 (fun kq v14 v15 v16 w' => ∃ (x14_3 : List (S30)) (x15_3 : List (S39)) (x16_3 : Int), v16 = .int .i64 x16_3 ∧ Aside0 (reliquarylaw12_RecordChanges.l1 kq l1 t318 x14_3 x15_3 x16_3 = some r) ∧ Aside0 (kq ≤ k2) ∧ Aside0 (Kd.N k25 25 w' w.heap.size (fun k_ => some k_ ≠ (v14 : Value).ownBlock ∧ some k_ ≠ (v15 : Value).ownBlock) (.slice Ao15 t318.length co15) t318) ∧ Aside0 (Kd.N k30 30 w' w.heap.size (fun k_ => some k_ ≠ ((.slice Ao15 t318.length co15) : Value).ownBlock ∧ some k_ ≠ (v15 : Value).ownBlock) v14 x14_3) ∧ Aside0 (Kd.R k39 39 w' w.heap.size (fun _ => True) v15 x15_3) ∧ Aside0 (Below w.heap.size w w'))
                    case atStart => exact ⟨(([] : List (S30))), (([] : List (S39))), (0), (by first | rfl | (simp; done) | (simp [*]; done)), H', ⟨Nat.le_refl _⟩, ⟨by (with_reducible repeat (first | apply Kd.N_alloc | apply Kd.N_drewN | apply Kd.N_drew)); exact Kd.N_mono HO_8.out (fun _ hk => ⟨(by simp [Value.ownBlock]), (by simp [Value.ownBlock])⟩)⟩, ⟨by first | exact Kd.S_nil _ _ _ _ _ | exact Kd.N_nil _ _ _ _ _ | exact Kd.V_nil _ _ _ _ _ | exact Kd.Q_nil _ _ _ _ _ | exact Kd.R_nil _ _ _ _ _⟩, ⟨by first | exact Kd.R_nil _ _ _ _ _ | exact Kd.N_nil _ _ _ _ _ | exact Kd.V_nil _ _ _ _ _ | exact Kd.Q_nil _ _ _ _ _ | exact Kd.S_nil _ _ _ _ _⟩, ⟨by repeat (first | (with_reducible first | exact HB.out | apply below_alloc | apply pw_below_drewN | apply below_drew1) | exact HB.out)⟩⟩
                    case round =>
                      clear H'
                      try clear c1
                      try clear c2
                      try clear p2
                      try clear c3
                      try clear p3
                      try clear q3
                      try clear hx3
                      try clear c5
                      try clear c6
                      try clear c6b0
                      try clear c6b1
                      try clear p6
                      try clear c8
                      try clear c9
                      try clear c12
                      try clear c15
                      try clear c16
                      try clear c17
                      try clear c20
                      try clear c20b0
                      try clear c20b1
                      try clear c23
                      try clear c24
                      try clear c24b0
                      try clear c25
                      try clear c25b0
                      try clear c27
                      try clear c27b0
                      try clear c28
                      try clear c28b0
                      try clear c33
                      try clear p33
                      try clear q33
                      try clear hx33
                      try clear hx332_0
                      try clear hx332_1
                      try clear hx332_2
                      try clear hx336_0
                      try clear hx336_1
                      try clear hx336_2
                      try clear p2
                      try clear p332
                      try clear p336
                      try clear q332
                      try clear q336
                      obtain ⟨x14_3, x15_3, x16_3, rfl, HA, HK3, HO_8, HO_14, HO_15, HB⟩ := hrel
                      cases gk with
                      | zero => exact absurd HA.out (by simp [reliquarylaw12_RecordChanges.l1])
                      | succ k3 =>
                        have H := HA.out
                        clear HA
                        simp only [reliquarylaw12_RecordChanges.l1] at H
                        by_cases c39 : x16_3 < (t318.length : Int)
                        · rw [if_pos c39] at H
                          have c39b0 : decide (x16_3 < (t318.length : Int)) = true := decide_eq_true c39
                          clear c39
                          (first | rw [c39b0] | (simp only [i64_w, i32_w]; rw [c39b0]) | skip)
                          by_cases c40 : x16_3 < (l1.length : Int)
                          · rw [if_pos c40] at H
                            have c40b0 : decide (x16_3 < (l1.length : Int)) = true := decide_eq_true c40
                            clear c40
                            by_cases c41 : 0 ≤ x16_3
                            · rw [if_pos c41] at H
                              have c41b0 : decide (0 ≤ x16_3) = true := decide_eq_true c41
                              clear c41
                              by_cases c42 : x14_3.length < 3518437208883
                              · rw [if_pos c42] at H
                                have LMc42 := Aside0.mk c42
                                clear c42
                                obtain ⟨y340, hy340⟩ : ∃ y_ : List (S30), y_ = (x14_3 ++ [(⟨(⟨(rd_T25 t318 x16_3).f0, (rd_T25 t318 x16_3).f1⟩ : S25), rdOf false l1 x16_3⟩ : S30)]) := ⟨_, rfl⟩
                                replace H : ((reliquarylaw12_recordOf.f ((rd_T25 t318 x16_3).f0) ((rd_T25 t318 x16_3).f1) (rdOf false l1 x16_3)).bind fun bt343 => (if x15_3.length < 4398046511104 then (reliquarylaw12_RecordChanges.l1 k3 l1 t318 y340 (x15_3 ++ [(⟨(⟨bt343.1, bt343.2.1⟩ : S37), bt343.2.2⟩ : S39)]) (wrap64 (x16_3 + 1))) else (none))) = some r := by first | (rw [hy340]; with_reducible exact H) | (have H2_ := (Option.bind_some _ _).symm.trans H; rw [hy340]; with_reducible exact H2_) | (have H2_ := (Option.bind_some _ _).symm.trans H; with_reducible exact H2_) | with_reducible exact H | (rw [hy340]; exact H) | exact H
                                have Ny340 := Aside0.mk hy340
                                clear hy340
                                replace H := Option.bind_eq_some_iff.mp H
                                obtain ⟨⟨t343, t344, t345⟩, A430, H⟩ := H
                                replace H : (if x15_3.length < 4398046511104 then (reliquarylaw12_RecordChanges.l1 k3 l1 t318 y340 (x15_3 ++ [(⟨(⟨t343, t344⟩ : S37), t345⟩ : S39)]) (wrap64 (x16_3 + 1))) else (none)) = some r := H
                                have A43 := Aside0.mk A430
                                clear A430
                                by_cases c44 : x15_3.length < 4398046511104
                                · rw [if_pos c44] at H
                                  have LMc44 := Aside0.mk c44
                                  clear c44
                                  obtain ⟨y346, hy346⟩ : ∃ y_ : List (S39), y_ = (x15_3 ++ [(⟨(⟨t343, t344⟩ : S37), t345⟩ : S39)]) := ⟨_, rfl⟩
                                  replace H : (reliquarylaw12_RecordChanges.l1 k3 l1 t318 y340 y346 (wrap64 (x16_3 + 1))) = some r := by first | (rw [hy346]; with_reducible exact H) | (have H2_ := (Option.bind_some _ _).symm.trans H; rw [hy346]; with_reducible exact H2_) | (have H2_ := (Option.bind_some _ _).symm.trans H; with_reducible exact H2_) | with_reducible exact H | (rw [hy346]; exact H) | exact H
                                  have Ny346 := Aside0.mk hy346
                                  clear hy346
                                  have H' := Aside0.mk H
                                  clear H
                                  try go_wp2
                                  have n0_ := Aside0.mk (Kd.N_drew HO_8.out)
                                  have n1_ := Aside0.mk (Kd.N_drew HO_14.out)
                                  have n2_ := Aside0.mk (Kd.R_drew HO_15.out)
                                  have n3_ := Aside0.mk (below_drew1 HB.out)
                                  clear HO_8
                                  clear HO_14
                                  clear HO_15
                                  clear HB
                                  have HO_8 := n0_
                                  have HO_14 := n1_
                                  have HO_15 := n2_
                                  have HB := n3_
                                  clear n0_ n1_ n2_ n3_
                                  have p337 : 0 ≤ (x16_3 : Int) := of_decide_eq_true (by first | (with_reducible assumption) | assumption)
                                  have q337 : x16_3 < (t318.length : Int) := of_decide_eq_true (by first | (with_reducible assumption) | assumption)
                                  obtain ⟨ad337, A337_1, c337_1, e337, hx337_0, hx337_1, hl337_1, hi337_1⟩ := at_T25 (Kd.N_reads' HO_8.out).2.2 x16_3 p337 q337
                                  cases e337
                                  obtain ⟨ce337, hce337, hMe337, hcc337⟩ := Kd.N_get HO_8.out z25 x16_3 p337 (by first | exact q337 | exact of_decide_eq_true (by first | (with_reducible assumption) | assumption) | (have e_ := (Kd.N_reads' HO_8.out).1; omega))
                                  obtain ⟨ua337_1, uc337_1, rfl, ul337_1, ge337_1⟩ := k25_openF hMe337
                                  have hv337_1 := hcc337 1 _ rfl
                                  rw [add_field _ _ 1 (by omega)] at hv337_1
                                  replace hv337_1 := Option.some.inj (hv337_1.symm.trans hx337_1)
                                  injection hv337_1 with hva_ hvn_ hvc_
                                  rw [hva_] at ge337_1
                                  rw [hvc_] at ul337_1
                                  have HL337_1 := Aside0.mk (show Kd.V (Kd.int .u8) 5 _ w.heap.size _ _ ((rd_T25 t318 x16_3).f1) from Kd.V_mk ul337_1 ge337_1)
                                  clear hva_ hvn_ hvc_ ge337_1 ul337_1
                                  clear hcc337 hce337
                                  have HR337_1 := Aside0.mk hi337_1
                                  have HC337_1 := Aside0.mk hl337_1
                                  clear hi337_1 hl337_1
                                  replace p337 := eq_true p337
                                  replace q337 := eq_true q337
                                  have p338 : 0 ≤ (x16_3 : Int) := of_decide_eq_true (by first | (with_reducible assumption) | assumption)
                                  have q338 : x16_3 < (l1.length : Int) := of_decide_eq_true (by first | (with_reducible assumption) | assumption)
                                  obtain ⟨ad338, e338, hx338_0⟩ := Kd.at_bool HR1.out x16_3 p338 q338
                                  have hw338_0 := hx338_0
                                  cases e338
                                  replace hx338_0 := (HB.out.cell (World.block_lt_of_cell? w _ hx338_0)).trans hx338_0
                                  replace p338 := eq_true p338
                                  replace q338 := eq_true q338
                                  refine start_ (n := 11) (S := fun w' => w'.cell? (ad337.add ((x16_3).toNat * 2)) = some (.int .u64 ((rd_T25 t318 x16_3).f0)) ∧ w'.cell? ⟨(ad337.add ((x16_3).toNat * 2)).block, (ad337.add ((x16_3).toNat * 2)).off + 1, none⟩ = some (.slice A337_1 ((rd_T25 t318 x16_3).f1).length c337_1) ∧ w'.cell? (ad338.add (x16_3).toNat) = some (.bool (rdOf false l1 x16_3))) (ds := []) #[false, false, false, false, false, false, false, false, false, false, false] (by kernel_rfl) rfl rfl ⟨hx337_0, hx337_1, ((HB.out.cell (World.block_lt_of_cell? w _ hw338_0)).trans hw338_0)⟩ (fun hHeld => ?_); refine with_tabW reliquarylaw12_RecordChanges.tab21 reliquarylaw12_RecordChanges.bits21 (fun HT_ HW_ => ?_)
                                  generalize wr.drew = w45 at HO_8 HO_14 HO_15 HB HL337_1 HR337_1 hx337_0 hx337_1 hx338_0 hHeld ⊢
                                  refine pure_ (i := 0) (N := some 81) (v := ?_) (a' := ?_) #[true, false, false, false, false, false, false, false, false, false, false] rfl rfl (any_of HT_.out (by kernel_rfl)) (fun _ _ _ h => h) (Or.inl ⟨by rfl, ?_⟩) ?_ ?_
                                  rotate_left
                                  · intro w'
                                    go_simp
                                    with_reducible rfl
                                  rotate_left
                                  · simp only [Act.put, List.setIfInBounds_toArray, List.set_cons_zero, List.set_cons_succ, i64_w, i32_w]
                                    rfl
                                  refine pure_ (i := 1) (N := some 82) (v := ?_) (a' := ?_) #[true, true, false, false, false, false, false, false, false, false, false] rfl rfl (any_of HT_.out (by kernel_rfl)) (fun _ _ _ h => h) (Or.inl ⟨by rfl, ?_⟩) ?_ ?_
                                  rotate_left
                                  · intro w'
                                    go_simp
                                    with_reducible rfl
                                  rotate_left
                                  · simp only [Act.put, List.setIfInBounds_toArray, List.set_cons_zero, List.set_cons_succ, i64_w, i32_w]
                                    rfl
                                  refine pure_ (i := 2) (N := some 83) (v := ?_) (a' := ?_) #[true, true, true, false, false, false, false, false, false, false, false] rfl rfl (any_of HT_.out (by kernel_rfl)) (fun _ _ _ h => h) (Or.inl ⟨by rfl, ?_⟩) ?_ ?_
                                  rotate_left
                                  · intro w'
                                    go_simp
                                    with_reducible rfl
                                  rotate_left
                                  · simp only [Act.put, List.setIfInBounds_toArray, List.set_cons_zero, List.set_cons_succ, i64_w, i32_w]
                                    rfl
                                  refine pure_ (i := 4) (N := some 85) (v := ?_) (a' := ?_) #[true, true, true, false, true, false, false, false, false, false, false] rfl rfl (any_of HT_.out (by kernel_rfl)) (fun _ _ _ h => h) (Or.inl ⟨by rfl, ?_⟩) ?_ ?_
                                  rotate_left
                                  · intro w'
                                    go_simp
                                    with_reducible rfl
                                  rotate_left
                                  · simp only [Act.put, List.setIfInBounds_toArray, List.set_cons_zero, List.set_cons_succ, i64_w, i32_w]
                                    rfl
                                  refine pure_ (i := 5) (N := some 86) (v := ?_) (a' := ?_) #[true, true, true, false, true, true, false, false, false, false, false] rfl rfl (any_of HT_.out (by kernel_rfl)) (fun _ _ _ h => h) (Or.inl ⟨by rfl, ?_⟩) ?_ ?_
                                  rotate_left
                                  · intro w'
                                    go_simp
                                    with_reducible rfl
                                  rotate_left
                                  · simp only [Act.put, List.setIfInBounds_toArray, List.set_cons_zero, List.set_cons_succ, i64_w, i32_w]
                                    rfl
                                  refine pure_ (i := 6) (N := some 87) (v := ?_) (a' := ?_) #[true, true, true, false, true, true, true, false, false, false, false] rfl rfl (any_of HT_.out (by kernel_rfl)) (fun _ _ _ h => h) (Or.inl ⟨by rfl, ?_⟩) ?_ ?_
                                  rotate_left
                                  · intro w'
                                    go_simp
                                    with_reducible rfl
                                  rotate_left
                                  · simp only [Act.put, List.setIfInBounds_toArray, List.set_cons_zero, List.set_cons_succ, i64_w, i32_w]
                                    rfl
                                  refine take_ (i := 3) (N := some 84) (v := ?_) (a' := ?_) #[true, true, true, true, true, true, true, false, false, false, false] rfl rfl (take_ofW HT_.out HW_.out (by kernel_rfl)) (fun _ _ _ h => h) (Or.inl ⟨by rfl, ?_⟩) hHeld ?_ ?_
                                  rotate_left
                                  · rintro w' ⟨s0, s1, s2⟩
                                    go_simp
                                    with_reducible rfl
                                  rotate_left
                                  · simp only [Act.put, List.setIfInBounds_toArray, List.set_cons_zero, List.set_cons_succ, i64_w, i32_w]
                                    rfl
                                  refine take_ (i := 7) (N := some 88) (v := ?_) (a' := ?_) #[true, true, true, true, true, true, true, true, false, false, false] rfl rfl (take_ofW HT_.out HW_.out (by kernel_rfl)) (fun _ _ _ h => h) (Or.inl ⟨by rfl, ?_⟩) hHeld ?_ ?_
                                  rotate_left
                                  · rintro w' ⟨s0, s1, s2⟩
                                    go_simp
                                    with_reducible rfl
                                  rotate_left
                                  · simp only [Act.put, List.setIfInBounds_toArray, List.set_cons_zero, List.set_cons_succ, i64_w, i32_w]
                                    rfl
                                  refine pure_ (i := 8) (N := some 89) (v := ?_) (a' := ?_) #[true, true, true, true, true, true, true, true, true, false, false] rfl rfl (any_of HT_.out (by kernel_rfl)) (fun _ _ _ h => h) (Or.inl ⟨by rfl, ?_⟩) ?_ ?_
                                  rotate_left
                                  · intro w'
                                    go_simp
                                    with_reducible rfl
                                  rotate_left
                                  · simp only [Act.put, List.setIfInBounds_toArray, List.set_cons_zero, List.set_cons_succ, i64_w, i32_w]
                                    rfl
                                  refine one_ (i := 9) (N := some 17) #[true, true, true, true, true, true, true, true, true, true, false] rfl rfl (one_of HT_.out (by kernel_rfl)) (by decide) (fun K hK => ?_)
                                  refine box_step ?hg (N := 17) ?hd (cs := #[.int .u64 0, .slice none 0 0, .bool false]) (t := 30) ?hr ?_; (case hd => rfl); (case hg => rfl); (case hr => first | (go_simp; done) | (go_simp; rfl))
                                  intro gb339 hg w46 hbox hb
                                  have HS0_ := (hb.cell (World.block_lt_of_cell? _ _ (hHeld.1))).trans (hHeld.1)
                                  have HS1_ := (hb.cell (World.block_lt_of_cell? _ _ (hHeld.2.1))).trans (hHeld.2.1)
                                  have n0_ := Aside0.mk (Kd.N_below (Kd.N_elderB (by (with_reducible repeat (first | apply Kd.N_alloc | apply Kd.N_drewN | apply Kd.N_drew)); exact HO_8.out) gb339 (Nat.le_of_eq hg.symm)) hb)
                                  have n1_ := Aside0.mk (Kd.N_below (Kd.N_elderB (by (with_reducible repeat (first | apply Kd.N_alloc | apply Kd.N_drewN | apply Kd.N_drew)); exact HO_14.out) gb339 (Nat.le_of_eq hg.symm)) hb)
                                  have n2_ := Aside0.mk (Kd.R_below (by (with_reducible repeat (first | apply Kd.R_alloc | apply Kd.R_drewN | apply Kd.R_drew)); exact HO_15.out) hb)
                                  have n3_ := Aside0.mk (Kd.V_below (Kd.V_elderB (by (with_reducible repeat (first | apply Kd.V_alloc | apply Kd.V_drewN | apply Kd.V_drew)); exact HL337_1.out) gb339 (Nat.le_of_eq hg.symm)) hb)
                                  have n4_ := Aside0.mk (Kd.C_below (by repeat (first | (with_reducible exact HR337_1.out) | (with_reducible refine Kd.C_alloc ?_ _) | (with_reducible refine Kd.C_drewN ?_ _) | (with_reducible refine Kd.C_drew ?_) | exact HR337_1.out)) hb)
                                  have n5_ := Aside0.mk (below_step (by repeat (first | (with_reducible first | exact HB.out | apply below_alloc | apply pw_below_drewN | apply below_drew1) | exact HB.out)) hb)
                                  have n6_ := Aside0.mk (hbox)
                                  have n7_ := Aside0.mk ((by rw [hg]; exact (below_size (by repeat (first | (with_reducible first | exact HB.out | apply below_alloc | apply pw_below_drewN | apply below_drew1) | exact HB.out))) : w.heap.size ≤ gb339))
                                  have n8_ := Aside0.mk ((by rw [hg]; exact (below_size (by repeat (first | (with_reducible first | exact HB.out | apply below_alloc | apply pw_below_drewN | apply below_drew1) | exact HB.out))) : w.heap.size ≤ gb339))
                                  clear HO_8
                                  clear HO_14
                                  clear HO_15
                                  clear HL337_1
                                  clear HR337_1
                                  clear HB
                                  have HO_8 := n0_
                                  have HO_14 := n1_
                                  have HO_15 := n2_
                                  have HL337_1 := n3_
                                  have HR337_1 := n4_
                                  have HB := n5_
                                  have BK339 := n6_
                                  have GW339 := n7_
                                  have GE339 := n8_
                                  clear n0_ n1_ n2_ n3_ n4_ n5_ n6_ n7_ n8_
                                  clear hb hbox hg
                                  refine hK.out _ _ ⟨HS0_, HS1_, ((HB.out.cell (World.block_lt_of_cell? w _ hw338_0)).trans hw338_0)⟩ (fun hHeld => ?_)
                                  clear hK K
                                  refine norm_ (a' := ?_) ?_ ?_
                                  rotate_left
                                  · show Act.put _ (some 17) _ = _
                                    simp only [Act.put, List.setIfInBounds_toArray, List.set_cons_zero, List.set_cons_succ, i64_w, i32_w]
                                    rfl
                                  refine one_ (i := 10) (N := none) #[true, true, true, true, true, true, true, true, true, true, true] rfl rfl (one_of HT_.out (by kernel_rfl)) (by decide) (fun K hK => ?_)
                                  have hs47 : w46.cell? ⟨gb339, 0, none⟩ = some (.int .u64 0) := (blk_cell BK339.out 0).trans rfl
                                  have hfs47 := blk_frozen BK339.out 0
                                  have hs48 : w46.cell? ⟨gb339, 1, none⟩ = some (.slice none 0 0) := (blk_cell BK339.out 1).trans rfl
                                  have hfs48 := blk_frozen BK339.out 1
                                  have hs49 : w46.cell? ⟨gb339, 2, none⟩ = some (.bool false) := (blk_cell BK339.out 2).trans rfl
                                  have hfs49 := blk_frozen BK339.out 2
                                  refine skip_ (w1 := ?_) (by rfl) rfl ?_ ?_
                                  rotate_left
                                  · go_simp
                                    rfl
                                  refine hK.out _ _ ⟨((cell_far (p := ⟨gb339, _, none⟩) (by first | exact Kd.own_blk (Kd.N_away HO_8.out (fun _ hk => hk.2)) | (rw [add_block]; exact Kd.own_blk (Kd.N_away HO_8.out (fun _ hk => hk.2))) | (show (Addr.add _ _).block ≠ _; rw [add_block]; exact Kd.own_blk (Kd.N_away HO_8.out (fun _ hk => hk.2))) | (dsimp only; exact Kd.own_blk (Kd.N_away HO_8.out (fun _ hk => hk.2)))) _).trans (((cell_far (p := ⟨gb339, _, none⟩) (by first | exact Kd.own_blk (Kd.N_away HO_8.out (fun _ hk => hk.2)) | (rw [add_block]; exact Kd.own_blk (Kd.N_away HO_8.out (fun _ hk => hk.2))) | (show (Addr.add _ _).block ≠ _; rw [add_block]; exact Kd.own_blk (Kd.N_away HO_8.out (fun _ hk => hk.2))) | (dsimp only; exact Kd.own_blk (Kd.N_away HO_8.out (fun _ hk => hk.2)))) _).trans (((cell_far (p := ⟨gb339, _, none⟩) (by first | exact Kd.own_blk (Kd.N_away HO_8.out (fun _ hk => hk.2)) | (rw [add_block]; exact Kd.own_blk (Kd.N_away HO_8.out (fun _ hk => hk.2))) | (show (Addr.add _ _).block ≠ _; rw [add_block]; exact Kd.own_blk (Kd.N_away HO_8.out (fun _ hk => hk.2))) | (dsimp only; exact Kd.own_blk (Kd.N_away HO_8.out (fun _ hk => hk.2)))) _).trans (hHeld.1)))))), ((cell_far (p := ⟨gb339, _, none⟩) (by first | exact Kd.own_blk (Kd.N_away HO_8.out (fun _ hk => hk.2)) | (rw [add_block]; exact Kd.own_blk (Kd.N_away HO_8.out (fun _ hk => hk.2))) | (show (Addr.add _ _).block ≠ _; rw [add_block]; exact Kd.own_blk (Kd.N_away HO_8.out (fun _ hk => hk.2))) | (dsimp only; exact Kd.own_blk (Kd.N_away HO_8.out (fun _ hk => hk.2)))) _).trans (((cell_far (p := ⟨gb339, _, none⟩) (by first | exact Kd.own_blk (Kd.N_away HO_8.out (fun _ hk => hk.2)) | (rw [add_block]; exact Kd.own_blk (Kd.N_away HO_8.out (fun _ hk => hk.2))) | (show (Addr.add _ _).block ≠ _; rw [add_block]; exact Kd.own_blk (Kd.N_away HO_8.out (fun _ hk => hk.2))) | (dsimp only; exact Kd.own_blk (Kd.N_away HO_8.out (fun _ hk => hk.2)))) _).trans (((cell_far (p := ⟨gb339, _, none⟩) (by first | exact Kd.own_blk (Kd.N_away HO_8.out (fun _ hk => hk.2)) | (rw [add_block]; exact Kd.own_blk (Kd.N_away HO_8.out (fun _ hk => hk.2))) | (show (Addr.add _ _).block ≠ _; rw [add_block]; exact Kd.own_blk (Kd.N_away HO_8.out (fun _ hk => hk.2))) | (dsimp only; exact Kd.own_blk (Kd.N_away HO_8.out (fun _ hk => hk.2)))) _).trans (hHeld.2.1)))))), ((cell_far (p := ⟨gb339, _, none⟩) (by first | exact Nat.ne_of_lt (Nat.lt_of_lt_of_le (by have := World.block_lt_of_cell? _ _ hw338_0; first | rwa [add_block] at this | exact this) GW339.out) | (rw [add_block]; exact Nat.ne_of_lt (Nat.lt_of_lt_of_le (by have := World.block_lt_of_cell? _ _ hw338_0; first | rwa [add_block] at this | exact this) GW339.out)) | (show (Addr.add _ _).block ≠ _; rw [add_block]; exact Nat.ne_of_lt (Nat.lt_of_lt_of_le (by have := World.block_lt_of_cell? _ _ hw338_0; first | rwa [add_block] at this | exact this) GW339.out)) | (dsimp only; exact Nat.ne_of_lt (Nat.lt_of_lt_of_le (by have := World.block_lt_of_cell? _ _ hw338_0; first | rwa [add_block] at this | exact this) GW339.out))) _).trans (((cell_far (p := ⟨gb339, _, none⟩) (by first | exact Nat.ne_of_lt (Nat.lt_of_lt_of_le (by have := World.block_lt_of_cell? _ _ hw338_0; first | rwa [add_block] at this | exact this) GW339.out) | (rw [add_block]; exact Nat.ne_of_lt (Nat.lt_of_lt_of_le (by have := World.block_lt_of_cell? _ _ hw338_0; first | rwa [add_block] at this | exact this) GW339.out)) | (show (Addr.add _ _).block ≠ _; rw [add_block]; exact Nat.ne_of_lt (Nat.lt_of_lt_of_le (by have := World.block_lt_of_cell? _ _ hw338_0; first | rwa [add_block] at this | exact this) GW339.out)) | (dsimp only; exact Nat.ne_of_lt (Nat.lt_of_lt_of_le (by have := World.block_lt_of_cell? _ _ hw338_0; first | rwa [add_block] at this | exact this) GW339.out))) _).trans (((cell_far (p := ⟨gb339, _, none⟩) (by first | exact Nat.ne_of_lt (Nat.lt_of_lt_of_le (by have := World.block_lt_of_cell? _ _ hw338_0; first | rwa [add_block] at this | exact this) GW339.out) | (rw [add_block]; exact Nat.ne_of_lt (Nat.lt_of_lt_of_le (by have := World.block_lt_of_cell? _ _ hw338_0; first | rwa [add_block] at this | exact this) GW339.out)) | (show (Addr.add _ _).block ≠ _; rw [add_block]; exact Nat.ne_of_lt (Nat.lt_of_lt_of_le (by have := World.block_lt_of_cell? _ _ hw338_0; first | rwa [add_block] at this | exact this) GW339.out)) | (dsimp only; exact Nat.ne_of_lt (Nat.lt_of_lt_of_le (by have := World.block_lt_of_cell? _ _ hw338_0; first | rwa [add_block] at this | exact this) GW339.out))) _).trans (hHeld.2.2))))))⟩ (fun hHeld => ?_)
                                  clear hK K
                                  refine done_ (done_of HT_.out (by kernel_rfl)) ?_
                                  have n0_ : Aside0 (Kd.N k25 25 (((w46.setCell ⟨gb339, 0, none⟩ (.int .u64 ((rd_T25 t318 x16_3).f0))).setCell ⟨gb339, 1, none⟩ (.slice A337_1 ((rd_T25 t318 x16_3).f1).length c337_1)).setCell ⟨gb339, 2, none⟩ (.bool (rdOf false l1 x16_3))) w.heap.size (fun k_ => some k_ ≠ (u14 : Value).ownBlock ∧ some k_ ≠ (u15 : Value).ownBlock ∧ k_ ≠ gb339) (.slice (some ad337) t318.length co15) t318) := ⟨by (with_reducible repeat (first | apply Kd.N_alloc | apply Kd.N_drewN | apply Kd.N_drew)); exact Kd.N_mono (Kd.N_far (p := ⟨gb339, 2, none⟩) (Kd.N_far (p := ⟨gb339, 1, none⟩) (Kd.N_far (p := ⟨gb339, 0, none⟩) (Kd.N_mono HO_8.out (fun k_ hk => (⟨hk, hk.2⟩ : _ ∧ k_ ≠ gb339))) (fun _ hk => hk.2) (.int .u64 ((rd_T25 t318 x16_3).f0))) (fun _ hk => hk.2) (.slice A337_1 ((rd_T25 t318 x16_3).f1).length c337_1)) (fun _ hk => hk.2) (.bool (rdOf false l1 x16_3))) (fun _ hk => ⟨hk.1.1.1, ⟨hk.1.1.2, hk.1.2⟩⟩)⟩
                                  have n1_ : Aside0 (Kd.N k30 30 (((w46.setCell ⟨gb339, 0, none⟩ (.int .u64 ((rd_T25 t318 x16_3).f0))).setCell ⟨gb339, 1, none⟩ (.slice A337_1 ((rd_T25 t318 x16_3).f1).length c337_1)).setCell ⟨gb339, 2, none⟩ (.bool (rdOf false l1 x16_3))) w.heap.size (fun k_ => some k_ ≠ (.slice (some ad337) t318.length co15 : Value).ownBlock ∧ some k_ ≠ (u15 : Value).ownBlock ∧ k_ ≠ gb339) u14 x14_3) := ⟨by (with_reducible repeat (first | apply Kd.N_alloc | apply Kd.N_drewN | apply Kd.N_drew)); exact Kd.N_mono (Kd.N_far (p := ⟨gb339, 2, none⟩) (Kd.N_far (p := ⟨gb339, 1, none⟩) (Kd.N_far (p := ⟨gb339, 0, none⟩) (Kd.N_mono HO_14.out (fun k_ hk => (⟨hk, hk.2⟩ : _ ∧ k_ ≠ gb339))) (fun _ hk => hk.2) (.int .u64 ((rd_T25 t318 x16_3).f0))) (fun _ hk => hk.2) (.slice A337_1 ((rd_T25 t318 x16_3).f1).length c337_1)) (fun _ hk => hk.2) (.bool (rdOf false l1 x16_3))) (fun _ hk => ⟨hk.1.1.1, ⟨hk.1.1.2, hk.1.2⟩⟩)⟩
                                  have n2_ : Aside0 (Kd.R k39 39 (((w46.setCell ⟨gb339, 0, none⟩ (.int .u64 ((rd_T25 t318 x16_3).f0))).setCell ⟨gb339, 1, none⟩ (.slice A337_1 ((rd_T25 t318 x16_3).f1).length c337_1)).setCell ⟨gb339, 2, none⟩ (.bool (rdOf false l1 x16_3))) w.heap.size (fun _ => True) u15 x15_3) := ⟨by (with_reducible repeat (first | apply Kd.R_alloc | apply Kd.R_drewN | apply Kd.R_drew)); exact Kd.R_mono (Kd.R_far (p := ⟨gb339, 2, none⟩) (Kd.R_far (p := ⟨gb339, 1, none⟩) (Kd.R_far (p := ⟨gb339, 0, none⟩) (Kd.R_types HO_15.out BK339.out (by decide)) (fun _ hk => hk.2) (.int .u64 ((rd_T25 t318 x16_3).f0))) (fun _ hk => hk.2) (.slice A337_1 ((rd_T25 t318 x16_3).f1).length c337_1)) (fun _ hk => hk.2) (.bool (rdOf false l1 x16_3))) (fun _ hk => trivial)⟩
                                  have n3_ : Aside0 (Kd.V (Kd.int .u8) 5 (((w46.setCell ⟨gb339, 0, none⟩ (.int .u64 ((rd_T25 t318 x16_3).f0))).setCell ⟨gb339, 1, none⟩ (.slice A337_1 ((rd_T25 t318 x16_3).f1).length c337_1)).setCell ⟨gb339, 2, none⟩ (.bool (rdOf false l1 x16_3))) w.heap.size (fun k_ => some k_ ≠ (.slice (some ad337) t318.length co15 : Value).ownBlock ∧ some k_ ≠ (u14 : Value).ownBlock ∧ some k_ ≠ (u15 : Value).ownBlock ∧ k_ ≠ gb339) (.slice A337_1 ((rd_T25 t318 x16_3).f1).length c337_1) ((rd_T25 t318 x16_3).f1)) := ⟨by (with_reducible repeat (first | apply Kd.V_alloc | apply Kd.V_drewN | apply Kd.V_drew)); exact Kd.V_mono (Kd.V_far (p := ⟨gb339, 2, none⟩) (Kd.V_far (p := ⟨gb339, 1, none⟩) (Kd.V_far (p := ⟨gb339, 0, none⟩) (Kd.V_mono HL337_1.out (fun k_ hk => (⟨hk, hk.2⟩ : _ ∧ k_ ≠ gb339))) (fun _ hk => hk.2) (.int .u64 ((rd_T25 t318 x16_3).f0))) (fun _ hk => hk.2) (.slice A337_1 ((rd_T25 t318 x16_3).f1).length c337_1)) (fun _ hk => hk.2) (.bool (rdOf false l1 x16_3))) (fun _ hk => ⟨hk.1.1.2, ⟨hk.1.1.1.1, ⟨hk.1.1.1.2, hk.1.2⟩⟩⟩)⟩
                                  have n4_ : Aside0 ((((w46.setCell ⟨gb339, 0, none⟩ (.int .u64 ((rd_T25 t318 x16_3).f0))).setCell ⟨gb339, 1, none⟩ (.slice A337_1 ((rd_T25 t318 x16_3).f1).length c337_1)).setCell ⟨gb339, 2, none⟩ (.bool (rdOf false l1 x16_3))).heap[gb339]? = some (.cells #[.int .u64 ((rd_T25 t318 x16_3).f0), .slice A337_1 ((rd_T25 t318 x16_3).f1).length c337_1, .bool (rdOf false l1 x16_3)] 30 (0, 0))) := ⟨by (with_reducible repeat (first | refine blk_drewN ?_ _ | refine blk_drew ?_ | refine blk_alloc ?_ _)); refine blk_put (cs := #[.int .u64 ((rd_T25 t318 x16_3).f0), .slice A337_1 ((rd_T25 t318 x16_3).f1).length c337_1, .bool false]) ?_ 2 _ rfl; (with_reducible repeat (first | refine blk_drewN ?_ _ | refine blk_drew ?_ | refine blk_alloc ?_ _)); refine blk_put (cs := #[.int .u64 ((rd_T25 t318 x16_3).f0), .slice none 0 0, .bool false]) ?_ 1 _ rfl; (with_reducible repeat (first | refine blk_drewN ?_ _ | refine blk_drew ?_ | refine blk_alloc ?_ _)); refine blk_put (cs := #[.int .u64 0, .slice none 0 0, .bool false]) ?_ 0 _ rfl; (with_reducible repeat (first | refine blk_drewN ?_ _ | refine blk_drew ?_ | refine blk_alloc ?_ _)); exact BK339.out⟩
                                  have n5_ : Aside0 (Below w.heap.size w (((w46.setCell ⟨gb339, 0, none⟩ (.int .u64 ((rd_T25 t318 x16_3).f0))).setCell ⟨gb339, 1, none⟩ (.slice A337_1 ((rd_T25 t318 x16_3).f1).length c337_1)).setCell ⟨gb339, 2, none⟩ (.bool (rdOf false l1 x16_3)))) := ⟨by repeat (first | (with_reducible first | exact HB.out | apply below_alloc | apply pw_below_drewN | apply below_drew1 | refine below_set ?_ GE339.out) | exact HB.out)⟩
                                  (try clear HO_8)
                                  (try clear HO_14)
                                  (try clear HO_15)
                                  (try clear HL337_1)
                                  (try clear BK339)
                                  (try clear HB)
                                  generalize (((w46.setCell ⟨gb339, 0, none⟩ (.int .u64 ((rd_T25 t318 x16_3).f0))).setCell ⟨gb339, 1, none⟩ (.slice A337_1 ((rd_T25 t318 x16_3).f1).length c337_1)).setCell ⟨gb339, 2, none⟩ (.bool (rdOf false l1 x16_3))) = w50 at n0_ n1_ n2_ n3_ n4_ n5_ ⊢
                                  have HO_8 := n0_
                                  have HO_14 := n1_
                                  have HO_15 := n2_
                                  have HL337_1 := n3_
                                  have BK339 := n4_
                                  have HB := n5_
                                  clear n0_ n1_ n2_ n3_ n4_ n5_
                                  have hcz51_0 : w50.cell? ⟨gb339, 0, none⟩ = some (.int .u64 ((rd_T25 t318 x16_3).f0)) := (blk_cell BK339.out 0).trans rfl
                                  have hcz51_1 : w50.cell? ⟨gb339, 1, none⟩ = some (.slice A337_1 ((rd_T25 t318 x16_3).f1).length c337_1) := (blk_cell BK339.out 1).trans rfl
                                  have hcz51_2 : w50.cell? ⟨gb339, 2, none⟩ = some (.bool (rdOf false l1 x16_3)) := (blk_cell BK339.out 2).trans rfl
                                  have hfz51_0 := blk_frozen BK339.out 0
                                  have hfz51_1 := blk_frozen BK339.out 1
                                  have hfz51_2 := blk_frozen BK339.out 2
                                  try go_wp2_with (first | ((with_reducible refine gate_builtin (b := .append) (xs := #[.tmp 90, .tmp 92]) rfl ?_); (try (refine gate_guard (by rfl) ?_; dsimp only)); at_builtin; refine Kd.N_append k30 (w0 := w) w.heap.size rfl (.tmp 90) (.tmp 92) 48 30 (.agg #[(.int .u64 0), (.slice none 0 0), (.bool false)]) 40 rfl Try.underlying48 info30 rfl (by decide) (by omega) u14 x14_3 (⟨(⟨(rd_T25 t318 x16_3).f0, (rd_T25 t318 x16_3).f1⟩ : S25), rdOf false l1 x16_3⟩ : S30) [.int .u64 ((rd_T25 t318 x16_3).f0), .slice A337_1 ((rd_T25 t318 x16_3).f1).length c337_1, .bool (rdOf false l1 x16_3)] (fun k_ => some k_ ≠ (.slice (some ad337) t318.length co15 : Value).ownBlock ∧ some k_ ≠ (u15 : Value).ownBlock ∧ k_ ≠ gb339) (fun k_ => ((fun k_ => some k_ ≠ (.slice (some ad337) t318.length co15 : Value).ownBlock ∧ some k_ ≠ (u15 : Value).ownBlock ∧ k_ ≠ gb339)) k_ ∧ some k_ ≠ (u14 : Value).ownBlock) rfl rfl ?aP (fun _ hk => hk) ?aF ?aO ?aB ?aS ?aL ?_; (case aP => exact (k30_mkF _ _ (⟨(⟨(rd_T25 t318 x16_3).f0, (rd_T25 t318 x16_3).f1⟩ : S25), rdOf false l1 x16_3⟩ : S30) (Kd.V_reads' (Kd.V_mono (ok' := (fun k_ => ((fun k_ => some k_ ≠ (.slice (some ad337) t318.length co15 : Value).ownBlock ∧ some k_ ≠ (u15 : Value).ownBlock ∧ k_ ≠ gb339)) k_ ∧ some k_ ≠ (u14 : Value).ownBlock)) (HL337_1.out) (fun k_ hk => ⟨⟨hk.1, ⟨hk.2.2.1, hk.2.2.2⟩⟩, hk.2.1⟩))).2.1 (Kd.V_F (Kd.V_mono (ok' := (fun k_ => ((fun k_ => some k_ ≠ (.slice (some ad337) t318.length co15 : Value).ownBlock ∧ some k_ ≠ (u15 : Value).ownBlock ∧ k_ ≠ gb339)) k_ ∧ some k_ ≠ (u14 : Value).ownBlock)) (HL337_1.out) (fun k_ hk => ⟨⟨hk.1, ⟨hk.2.2.1, hk.2.2.2⟩⟩, hk.2.1⟩))))); (case aB => exact (by repeat (first | (with_reducible first | exact HB.out | apply below_alloc | apply pw_below_drewN | apply below_drew1 | refine below_set ?_ GE339.out) | exact HB.out))); (case aF => exact (fun k_ hk => ⟨Kd.fresh' (Kd.N_lt (by (with_reducible repeat (first | apply Kd.N_alloc | apply Kd.N_drewN | apply Kd.N_drew)); exact HO_8.out)) k_ hk, Kd.fresh' (Kd.R_lt (by (with_reducible repeat (first | apply Kd.R_alloc | apply Kd.R_drewN | apply Kd.R_drew)); exact HO_15.out)) k_ hk, Kd.freshB (g := gb339) (o := .cells #[.int .u64 ((rd_T25 t318 x16_3).f0), .slice A337_1 ((rd_T25 t318 x16_3).f1).length c337_1, .bool (rdOf false l1 x16_3)] 30 (0, 0)) (by (with_reducible repeat (first | refine blk_drewN ?_ _ | refine blk_drew ?_ | refine blk_alloc ?_ _)); exact BK339.out) k_ hk⟩)); (case aO => exact (by (with_reducible repeat (first | apply Kd.N_alloc | apply Kd.N_drewN | apply Kd.N_drew)); exact HO_14.out)); (case aS => exact (below_size (by repeat (first | (with_reducible first | exact HB.out | apply below_alloc | apply pw_below_drewN | apply below_drew1 | refine below_set ?_ GE339.out) | exact HB.out)))); (case aL => have := LMc42.out; omega); intro v341 w52 ho hb hg hat; rw [← Ny340.out] at ho; have n0_ := Aside0.mk (Kd.N_afterv (ok := (fun k_ => some k_ ≠ (u15 : Value).ownBlock ∧ k_ ≠ gb339)) (by (with_reducible repeat (first | apply Kd.N_alloc | apply Kd.N_drewN | apply Kd.N_drew)); exact Kd.N_mono HO_8.out (fun _ hk => ⟨⟨hk.2.1, hk.2.2⟩, hk.1⟩)) hg hat); have n1_ := Aside0.mk (Kd.R_over' (by (with_reducible repeat (first | apply Kd.R_alloc | apply Kd.R_drewN | apply Kd.R_drew)); exact HO_15.out) (Kd.N_typed (by (with_reducible repeat (first | apply Kd.N_alloc | apply Kd.N_drewN | apply Kd.N_drew)); exact HO_14.out)) (by decide) hg); have n2_ := Aside0.mk (Kd.V_afterv (ok := (fun k_ => some k_ ≠ (.slice (some ad337) t318.length co15 : Value).ownBlock ∧ some k_ ≠ (u15 : Value).ownBlock ∧ k_ ≠ gb339)) (by (with_reducible repeat (first | apply Kd.V_alloc | apply Kd.V_drewN | apply Kd.V_drew)); exact Kd.V_mono HL337_1.out (fun _ hk => ⟨⟨hk.1, ⟨hk.2.2.1, hk.2.2.2⟩⟩, hk.2.1⟩)) hg hat); have n3_ := Aside0.mk (blk_grown (g := gb339) (o := .cells #[.int .u64 ((rd_T25 t318 x16_3).f0), .slice A337_1 ((rd_T25 t318 x16_3).f1).length c337_1, .bool (rdOf false l1 x16_3)] 30 (0, 0)) (by (with_reducible repeat (first | refine blk_drewN ?_ _ | refine blk_drew ?_ | refine blk_alloc ?_ _)); exact BK339.out) hg (Kd.N_away HO_14.out (fun _ hk => hk.2.2))); have n4_ := Aside0.mk (hb); have n5_ := Aside0.mk (ho); clear HO_8; clear HO_15; clear HL337_1; clear BK339; clear HB; clear HO_14; have HO_8 := n0_; have HO_15 := n1_; have HL337_1 := n2_; have BK339 := n3_; have HB := n4_; have HO342 := n5_; clear n0_ n1_ n2_ n3_ n4_ n5_; clear ho hb hg hat; have hcz53_0 : w52.cell? ⟨gb339, 0, none⟩ = some (.int .u64 ((rd_T25 t318 x16_3).f0)) := (blk_cell BK339.out 0).trans rfl; have hcz53_1 : w52.cell? ⟨gb339, 1, none⟩ = some (.slice A337_1 ((rd_T25 t318 x16_3).f1).length c337_1) := (blk_cell BK339.out 1).trans rfl; have hcz53_2 : w52.cell? ⟨gb339, 2, none⟩ = some (.bool (rdOf false l1 x16_3)) := (blk_cell BK339.out 2).trans rfl; have hfz53_0 := blk_frozen BK339.out 0; have hfz53_1 := blk_frozen BK339.out 1; have hfz53_2 := blk_frozen BK339.out 2) | ((with_reducible refine gate_callee (f := 12) rfl ?_); refine goesL_ (some 96) rfl rfl Try.func12 (by kernel_rfl) rfl #[.agg #[.int .u64 ((rd_T25 t318 x16_3).f0), .slice A337_1 ((rd_T25 t318 x16_3).f1).length c337_1, .bool (rdOf false l1 x16_3)]] rfl (by (try simp only [List.map_toArray, List.map_cons, List.map_nil]); first | done | rfl | (simp only [List.length_drop, List.length_take]; rfl)) ?_; (with_reducible refine (reliquarylaw12_recordOf.calls ((rd_T25 t318 x16_3).f0) _ _ ((rd_T25 t318 x16_3).f1) (rdOf false l1 x16_3) t343 t344 t345 _ ?side1 ?side2 A43.out).mono ?_); (case side1 => repeat (first | exact ((Kd.V_reads' (by (with_reducible repeat (first | apply Kd.V_alloc | apply Kd.V_drewN | apply Kd.V_drew)); exact HL337_1.out)).2.2) | (with_reducible refine Kd.C_alloc ?_ _) | (with_reducible refine Kd.C_drewN ?_ _) | (with_reducible refine Kd.C_drew ?_))); (case side2 => exact HC337_1.out); rintro e w54 ⟨rfl, hb⟩; refine ⟨_, rfl, ?_⟩; have n0_ := Aside0.mk (Kd.N_below (by (with_reducible repeat (first | apply Kd.N_alloc | apply Kd.N_drewN | apply Kd.N_drew)); exact HO_8.out) hb); have n1_ := Aside0.mk (Kd.R_below (by (with_reducible repeat (first | apply Kd.R_alloc | apply Kd.R_drewN | apply Kd.R_drew)); exact HO_15.out) hb); have n2_ := Aside0.mk (Kd.V_below (by (with_reducible repeat (first | apply Kd.V_alloc | apply Kd.V_drewN | apply Kd.V_drew)); exact HL337_1.out) hb); have n3_ := Aside0.mk (Kd.N_below (by (with_reducible repeat (first | apply Kd.N_alloc | apply Kd.N_drewN | apply Kd.N_drew)); exact HO342.out) hb); have n4_ := Aside0.mk (blk_below (g := gb339) (o := .cells #[.int .u64 ((rd_T25 t318 x16_3).f0), .slice A337_1 ((rd_T25 t318 x16_3).f1).length c337_1, .bool (rdOf false l1 x16_3)] 30 (0, 0)) (by (with_reducible repeat (first | refine blk_drewN ?_ _ | refine blk_drew ?_ | refine blk_alloc ?_ _)); exact BK339.out) hb); have n5_ := Aside0.mk (below_step (by repeat (first | (with_reducible first | exact HB.out | apply below_alloc | apply pw_below_drewN | apply below_drew1 | refine below_set ?_ GE339.out) | exact HB.out)) hb); clear HO_8; clear HO_15; clear HL337_1; clear HO342; clear BK339; clear HB; have HO_8 := n0_; have HO_15 := n1_; have HL337_1 := n2_; have HO342 := n3_; have BK339 := n4_; have HB := n5_; clear n0_ n1_ n2_ n3_ n4_ n5_; (try clear hb); (try clear hb2); (try clear hk); (try clear hi)) | ((with_reducible refine gate_builtin (b := .append) (xs := #[.tmp 94, .tmp 97]) rfl ?_); (try (refine gate_guard (by rfl) ?_; dsimp only)); at_builtin; refine Kd.R_append k39 (w0 := w) w.heap.size rfl (.tmp 94) (.tmp 97) 51 39 (.agg #[(.int .u64 0), (.string ⟨#[]⟩), (.bool false)]) 32 rfl Try.underlying51 info39 rfl (by decide) (by omega) u15 x15_3 (⟨(⟨t343, t344⟩ : S37), t345⟩ : S39) [.int .u64 t343, .string t344, .bool t345] (fun _ => True) (fun _ => False) rfl rfl ?aP (fun _ hk => hk.elim) ?aF ?aO ?aB ?aS ?aL ?_; (case aP => exact k39_mkM _ _ _ (⟨(⟨t343, t344⟩ : S37), t345⟩ : S39)); (case aB => exact (by repeat (first | (with_reducible first | exact HB.out | apply below_alloc | apply pw_below_drewN | apply below_drew1 | refine below_set ?_ GE339.out) | exact HB.out))); (case aF => exact (fun _ _ => trivial)); (case aO => exact (by (with_reducible repeat (first | apply Kd.R_alloc | apply Kd.R_drewN | apply Kd.R_drew)); exact HO_15.out)); (case aS => exact (below_size (by repeat (first | (with_reducible first | exact HB.out | apply below_alloc | apply pw_below_drewN | apply below_drew1 | refine below_set ?_ GE339.out) | exact HB.out)))); (case aL => have := LMc44.out; omega); intro v347 w55 ho hb hg hat; rw [← Ny346.out] at ho; have n0_ := Aside0.mk (Kd.N_afterv (ok := (fun k_ => some k_ ≠ (v341 : Value).ownBlock ∧ k_ ≠ gb339)) (by (with_reducible repeat (first | apply Kd.N_alloc | apply Kd.N_drewN | apply Kd.N_drew)); exact Kd.N_mono HO_8.out (fun _ hk => ⟨⟨hk.2, hk.1.2⟩, hk.1.1⟩)) hg hat); have n1_ := Aside0.mk (Kd.V_afterv (ok := (fun k_ => some k_ ≠ (.slice (some ad337) t318.length co15 : Value).ownBlock ∧ some k_ ≠ (v341 : Value).ownBlock ∧ k_ ≠ gb339)) (by (with_reducible repeat (first | apply Kd.V_alloc | apply Kd.V_drewN | apply Kd.V_drew)); exact Kd.V_mono HL337_1.out (fun _ hk => ⟨⟨hk.1.1, ⟨hk.2, hk.1.2.2⟩⟩, hk.1.2.1⟩)) hg hat); have n2_ := Aside0.mk (blk_grown (g := gb339) (o := .cells #[.int .u64 ((rd_T25 t318 x16_3).f0), .slice A337_1 ((rd_T25 t318 x16_3).f1).length c337_1, .bool (rdOf false l1 x16_3)] 30 (0, 0)) (by (with_reducible repeat (first | refine blk_drewN ?_ _ | refine blk_drew ?_ | refine blk_alloc ?_ _)); exact BK339.out) hg (Kd.R_ne HO_15.out BK339.out (by decide))); have n3_ := Aside0.mk (Kd.N_afterv (ok := (fun k_ => some k_ ≠ (.slice (some ad337) t318.length co15 : Value).ownBlock ∧ k_ ≠ gb339)) (by (with_reducible repeat (first | apply Kd.N_alloc | apply Kd.N_drewN | apply Kd.N_drew)); exact Kd.N_mono HO342.out (fun _ hk => ⟨⟨hk.1, hk.2.2⟩, hk.2.1⟩)) hg hat); have n4_ := Aside0.mk (hb); have n5_ := Aside0.mk (ho); clear HO_8; clear HL337_1; clear BK339; clear HO342; clear HB; clear HO_15; have HO_8 := n0_; have HL337_1 := n1_; have BK339 := n2_; have HO342 := n3_; have HB := n4_; have HO348 := n5_; clear n0_ n1_ n2_ n3_ n4_ n5_; clear ho hb hg hat))
                                  go_roundg k3
                                  case measure => have := HJ11.out; have := HK2.out; have := HK3.out; omega
                                  case rel => exact ⟨(y340), (y346), (wrap64 (x16_3 + 1)), (by first | rfl | (simp; done) | (simp [*]; done)), H', ⟨by have := HJ11.out; have := HK2.out; have := HK3.out; omega⟩, ⟨by (with_reducible repeat (first | apply Kd.N_alloc | apply Kd.N_drewN | apply Kd.N_drew)); exact Kd.N_mono HO_8.out (fun _ hk => ⟨hk.1.1, hk.2⟩)⟩, ⟨by (with_reducible repeat (first | apply Kd.N_alloc | apply Kd.N_drewN | apply Kd.N_drew)); exact Kd.N_mono HO342.out (fun _ hk => ⟨hk.1.1, hk.2⟩)⟩, ⟨by (with_reducible repeat (first | apply Kd.R_alloc | apply Kd.R_drewN | apply Kd.R_drew)); exact HO348.out⟩, ⟨by repeat (first | (with_reducible first | exact HB.out | apply below_alloc | apply pw_below_drewN | apply below_drew1 | refine below_set ?_ GE339.out) | exact HB.out)⟩⟩
                                · rw [if_neg c44] at H
                                  exact absurd H (by simp)
                              · rw [if_neg c42] at H
                                exact absurd H (by simp)
                            · rw [if_neg c41] at H
                              exact absurd H (by simp)
                          · rw [if_neg c40] at H
                            have c40b0 : decide (x16_3 < (l1.length : Int)) = false := decide_eq_false c40
                            clear c40
                            have H' := Aside0.mk H
                            clear H
                            go_wp2
                            go_meet
                            case rel => exact ⟨_, (x14_3), (x15_3), H', ⟨by have := HJ11.out; have := HK2.out; have := HK3.out; first | omega | exact Nat.le_refl _⟩, ⟨by (with_reducible repeat (first | apply Kd.N_alloc | apply Kd.N_drewN | apply Kd.N_drew)); exact Kd.N_mono HO_14.out (fun _ hk => hk.2)⟩, ⟨by (with_reducible repeat (first | apply Kd.R_alloc | apply Kd.R_drewN | apply Kd.R_drew)); exact HO_15.out⟩, ⟨by repeat (first | (with_reducible first | exact HB.out | apply below_alloc | apply pw_below_drewN | apply below_drew1) | exact HB.out)⟩⟩
                        · rw [if_neg c39] at H
                          have c39b0 : decide (x16_3 < (t318.length : Int)) = false := decide_eq_false c39
                          clear c39
                          (first | rw [c39b0] | (simp only [i64_w, i32_w]; rw [c39b0]) | skip)
                          have H' := Aside0.mk H
                          clear H
                          go_wp2
                          go_meet
                          case rel => exact ⟨_, (x14_3), (x15_3), H', ⟨by have := HJ11.out; have := HK2.out; have := HK3.out; first | omega | exact Nat.le_refl _⟩, ⟨by (with_reducible repeat (first | apply Kd.N_alloc | apply Kd.N_drewN | apply Kd.N_drew)); exact Kd.N_mono HO_14.out (fun _ hk => hk.2)⟩, ⟨by (with_reducible repeat (first | apply Kd.R_alloc | apply Kd.R_drewN | apply Kd.R_drew)); exact HO_15.out⟩, ⟨by repeat (first | (with_reducible first | exact HB.out | apply below_alloc | apply pw_below_drewN | apply below_drew1) | exact HB.out)⟩⟩
                  case rest =>
                    clear HC37
                    try clear c1
                    try clear c2
                    try clear p2
                    try clear c3
                    try clear p3
                    try clear q3
                    try clear hx3
                    try clear c4
                    try clear c5
                    try clear c6
                    try clear c6b0
                    try clear c6b1
                    try clear p6
                    try clear c8
                    try clear c9
                    try clear c12
                    try clear c15
                    try clear c16
                    try clear c17
                    try clear c20
                    try clear c20b0
                    try clear c20b1
                    try clear c23
                    try clear c24
                    try clear c24b0
                    try clear c25
                    try clear c25b0
                    try clear c27
                    try clear c27b0
                    try clear c28
                    try clear c28b0
                    try clear c33
                    try clear p33
                    try clear q33
                    try clear hx33
                    try clear c39
                    try clear c39b0
                    try clear c40
                    try clear c40b0
                    try clear c41
                    try clear c41b0
                    try clear c42
                    try clear c44
                    try clear hcz51_0
                    try clear hcz51_1
                    try clear hcz51_2
                    try clear hcz53_0
                    try clear hcz53_1
                    try clear hcz53_2
                    try clear hfz51_0
                    try clear hfz51_1
                    try clear hfz51_2
                    try clear hfz53_0
                    try clear hfz53_1
                    try clear hfz53_2
                    try clear hx332_0
                    try clear hx332_1
                    try clear hx332_2
                    try clear hx336_0
                    try clear hx336_1
                    try clear hx336_2
                    try clear hx337_0
                    try clear hx337_1
                    try clear hx338_0
                    try clear p2
                    try clear p3
                    try clear p33
                    try clear p332
                    try clear p336
                    try clear p337
                    try clear p338
                    try clear p6
                    try clear q3
                    try clear q33
                    try clear q332
                    try clear q336
                    try clear q337
                    try clear q338
                    obtain ⟨kq, x14_36, x15_36, HA, HJ36, HO_14, HO_15, HB⟩ := hcut
                    cases kq with
                    | zero => exact absurd HA.out (by simp [reliquarylaw12_RecordChanges.j3])
                    | succ kj36 =>
                      have H := HA.out
                      clear HA
                      simp only [reliquarylaw12_RecordChanges.j3] at H
                      replace H := Option.bind_eq_some_iff.mp H
                      obtain ⟨⟨t349, t350⟩, A560, H⟩ := H
                      replace H : ((reliquaryref12_Changes.f kj36 x15_36).bind fun bt353 => (if t350 = bt353.2 then (reliquarylaw12_RecordChanges.j4 kj36 t349 bt353.1 ((t349.length : Int) != (bt353.1.length : Int))) else (reliquarylaw12_RecordChanges.j4 kj36 t349 bt353.1 true))) = some r := H
                      have A56 := Aside0.mk A560
                      clear A560
                      replace H := Option.bind_eq_some_iff.mp H
                      obtain ⟨⟨t353, t354⟩, A570, H⟩ := H
                      replace H : (if t350 = t354 then (reliquarylaw12_RecordChanges.j4 kj36 t349 t353 ((t349.length : Int) != (t353.length : Int))) else (reliquarylaw12_RecordChanges.j4 kj36 t349 t353 true)) = some r := H
                      have A57 := Aside0.mk A570
                      clear A570
                      have HC58 := Aside0.mk H
                      clear H
                      obtain ⟨Ao59, co59, eo59⟩ := Kd.N_slice HO_14.out
                      subst eo59
                      go_upto_region 26 with (first | ((with_reducible refine gate_callee (f := 18) rfl ?_); refine goesL_ (some 101) rfl rfl Try.func18 (by kernel_rfl) rfl #[.slice Ao59 x14_36.length co59] rfl (by (try simp only [List.map_toArray, List.map_cons, List.map_nil]); first | done | rfl | (simp only [List.length_drop, List.length_take]; rfl)) ?_; (with_reducible refine (record_Changes.calls _ _ x14_36 t349 t350 _ ?side1 ?side2 A56.out).mono ?_); (case side1 => repeat (first | exact (Kd.N_reads' HO_14.out).2.2 | (with_reducible refine Kd.C_alloc ?_ _) | (with_reducible refine Kd.C_drewN ?_ _) | (with_reducible refine Kd.C_drew ?_))); (case side2 => exact (Kd.N_reads' HO_14.out).2.1); rintro e w60 ⟨v351, rfl, ho0, hb⟩; refine ⟨_, rfl, ?_⟩; have n0_ := Aside0.mk (Kd.N_elder' (by (with_reducible repeat (first | apply Kd.N_alloc | apply Kd.N_drewN | apply Kd.N_drew)); exact HO_14.out) (by first | exact Kd.N_base ho0 | exact Kd.N_base (Kd.S_N ho0) | exact Kd.N_base (Kd.R_N ho0)) hb); have n1_ := Aside0.mk (Kd.R_below (by (with_reducible repeat (first | apply Kd.R_alloc | apply Kd.R_drewN | apply Kd.R_drew)); exact HO_15.out) hb); have n2_ := Aside0.mk (Kd.N_lower (Kd.N_mono (ok' := fun k_ => some k_ ≠ (.slice Ao59 x14_36.length co59 : Value).ownBlock ∧ some k_ ≠ (u15 : Value).ownBlock) ho0 (fun k_ hk_ => ⟨(Kd.fresh' (Kd.N_lt (by (with_reducible repeat (first | apply Kd.N_alloc | apply Kd.N_drewN | apply Kd.N_drew)); exact HO_14.out)) k_ hk_.2.1), (Kd.fresh' (Kd.R_lt (by (with_reducible repeat (first | apply Kd.R_alloc | apply Kd.R_drewN | apply Kd.R_drew)); exact HO_15.out)) k_ hk_.2.1)⟩)) (below_size (by repeat (first | (with_reducible first | exact HB.out | apply below_alloc | apply pw_below_drewN | apply below_drew1) | exact HB.out)))); have n3_ := Aside0.mk (below_step (by repeat (first | (with_reducible first | exact HB.out | apply below_alloc | apply pw_below_drewN | apply below_drew1) | exact HB.out)) hb); clear HO_14; clear HO_15; clear HB; have HO_14 := n0_; have HO_15 := n1_; have HO352 := n2_; have HB := n3_; clear n0_ n1_ n2_ n3_; (try clear hb); (try clear hb2); (try clear hk); (try clear hi); (try clear ho0); obtain ⟨Ao61, co61, eo61⟩ := Kd.R_slice HO_15.out; subst eo61) | ((with_reducible refine gate_callee (f := 19) rfl ?_); refine goesL_ (some 106) rfl rfl Try.func19 (by kernel_rfl) rfl #[.slice Ao61 x15_36.length co61] rfl (by (try simp only [List.map_toArray, List.map_cons, List.map_nil]); first | done | rfl | (simp only [List.length_drop, List.length_take]; rfl)) ?_; (with_reducible refine (reliquaryref12_Changes.calls kj36 _ _ x15_36 t353 t354 _ ?side1 ?side2 A57.out).mono ?_); (case side1 => repeat (first | exact (Kd.R_reads' HO_15.out).2.2 | (with_reducible refine Kd.C_alloc ?_ _) | (with_reducible refine Kd.C_drewN ?_ _) | (with_reducible refine Kd.C_drew ?_))); (case side2 => exact (Kd.R_reads' HO_15.out).2.1); rintro e w62 ⟨v355, rfl, ho0, hb⟩; refine ⟨_, rfl, ?_⟩; have n0_ := Aside0.mk (Kd.N_elder' (by (with_reducible repeat (first | apply Kd.N_alloc | apply Kd.N_drewN | apply Kd.N_drew)); exact HO_14.out) (by first | exact Kd.N_base ho0 | exact Kd.N_base (Kd.S_N ho0) | exact Kd.N_base (Kd.R_N ho0)) hb); have n1_ := Aside0.mk (Kd.R_below (by (with_reducible repeat (first | apply Kd.R_alloc | apply Kd.R_drewN | apply Kd.R_drew)); exact HO_15.out) hb); have n2_ := Aside0.mk (Kd.N_elder' (by (with_reducible repeat (first | apply Kd.N_alloc | apply Kd.N_drewN | apply Kd.N_drew)); exact HO352.out) (by first | exact Kd.N_base ho0 | exact Kd.N_base (Kd.S_N ho0) | exact Kd.N_base (Kd.R_N ho0)) hb); have n3_ := Aside0.mk (Kd.N_lower (Kd.N_mono (ok' := fun k_ => some k_ ≠ (.slice Ao59 x14_36.length co59 : Value).ownBlock ∧ some k_ ≠ (.slice Ao61 x15_36.length co61 : Value).ownBlock ∧ some k_ ≠ (v351 : Value).ownBlock) (Kd.S_N (Kd.S_bound ho0)) (fun k_ hk_ => ⟨(Kd.fresh' (Kd.N_lt (by (with_reducible repeat (first | apply Kd.N_alloc | apply Kd.N_drewN | apply Kd.N_drew)); exact HO_14.out)) k_ hk_.2.1), (Kd.fresh' (Kd.R_lt (by (with_reducible repeat (first | apply Kd.R_alloc | apply Kd.R_drewN | apply Kd.R_drew)); exact HO_15.out)) k_ hk_.2.1), (Kd.fresh' (Kd.N_lt (by (with_reducible repeat (first | apply Kd.N_alloc | apply Kd.N_drewN | apply Kd.N_drew)); exact HO352.out)) k_ hk_.2.1)⟩)) (below_size (by repeat (first | (with_reducible first | exact HB.out | apply below_alloc | apply pw_below_drewN | apply below_drew1) | exact HB.out)))); have n4_ := Aside0.mk (below_step (by repeat (first | (with_reducible first | exact HB.out | apply below_alloc | apply pw_below_drewN | apply below_drew1) | exact HB.out)) hb); clear HO_14; clear HO_15; clear HO352; clear HB; have HO_14 := n0_; have HO_15 := n1_; have HO352 := n2_; have HO356 := n3_; have HB := n4_; clear n0_ n1_ n2_ n3_ n4_; (try clear hb); (try clear hb2); (try clear hk); (try clear hi); (try clear ho0)))
                      (try simp only [Act.put, List.setIfInBounds_toArray, List.set_cons_zero, List.set_cons_succ])
                      go_cut [118] (fun v118 wc => ∃ (kq : Nat) (x118_57 : Bool), v118 = .bool x118_57 ∧ Aside0 (reliquarylaw12_RecordChanges.j4 kq t349 t353 x118_57 = some r) ∧ Aside0 (kq ≤ kj36) ∧ Aside0 (Kd.N (Kd.slice 25 k25) 27 wc w.heap.size (fun k_ => some k_ ≠ (v355 : Value).ownBlock) v351 t349) ∧ Aside0 (Kd.N (Kd.slice 37 k37) 54 wc w.heap.size (fun k_ => some k_ ≠ (v351 : Value).ownBlock) v355 t353) ∧ Aside0 (Below w.heap.size w wc))
                      case first =>
                        have H := HC58.out
                        clear HC58
                        by_cases c63 : t350 = t354
                        · rw [if_pos c63] at H
                          have c63b0 : (t350 == t354) = true := beq_iff_eq.mpr c63
                          have c63b1 : (t350 != t354) = false := bne_eq_false_iff_eq.mpr c63
                          clear c63
                          (first | rw [c63b0] | (simp only [i64_w, i32_w]; rw [c63b0]) | skip)
                          have H' := Aside0.mk H
                          clear H
                          obtain ⟨Ao64, co64, eo64⟩ := Kd.N_slice HO352.out
                          subst eo64
                          obtain ⟨Ao65, co65, eo65⟩ := Kd.N_slice HO356.out
                          subst eo65
                          go_wp2
                          go_meet
                          case rel => exact ⟨_, (((t349.length : Int) != (t353.length : Int))), (by first | rfl | (simp; done) | (simp [*]; done)), H', ⟨by have := HJ11.out; have := HK2.out; have := HJ36.out; first | omega | exact Nat.le_refl _⟩, ⟨by (with_reducible repeat (first | apply Kd.N_alloc | apply Kd.N_drewN | apply Kd.N_drew)); exact Kd.N_mono HO352.out (fun _ hk => hk.2)⟩, ⟨by (with_reducible repeat (first | apply Kd.N_alloc | apply Kd.N_drewN | apply Kd.N_drew)); exact Kd.N_mono HO356.out (fun _ hk => hk.2.2)⟩, ⟨by repeat (first | (with_reducible first | exact HB.out | apply below_alloc | apply pw_below_drewN | apply below_drew1) | exact HB.out)⟩⟩
                        · rw [if_neg c63] at H
                          have c63b0 : (t350 == t354) = false := beq_eq_false_iff_ne.mpr c63
                          have c63b1 : (t350 != t354) = true := bne_iff_ne.mpr c63
                          (first | rw [c63b0] | (simp only [i64_w, i32_w]; rw [c63b0]) | skip)
                          have H' := Aside0.mk H
                          clear H
                          go_wp2
                          go_meet
                          case rel => exact ⟨_, (true), (by first | rfl | (simp; done) | (simp [*]; done)), H', ⟨by have := HJ11.out; have := HK2.out; have := HJ36.out; first | omega | exact Nat.le_refl _⟩, ⟨by (with_reducible repeat (first | apply Kd.N_alloc | apply Kd.N_drewN | apply Kd.N_drew)); exact Kd.N_mono HO352.out (fun _ hk => hk.2)⟩, ⟨by (with_reducible repeat (first | apply Kd.N_alloc | apply Kd.N_drewN | apply Kd.N_drew)); exact Kd.N_mono HO356.out (fun _ hk => hk.2.2)⟩, ⟨by repeat (first | (with_reducible first | exact HB.out | apply below_alloc | apply pw_below_drewN | apply below_drew1) | exact HB.out)⟩⟩
                      case rest =>
                        clear HC58
                        try clear c1
                        try clear c2
                        try clear p2
                        try clear c3
                        try clear p3
                        try clear q3
                        try clear hx3
                        try clear c4
                        try clear c5
                        try clear c6
                        try clear c6b0
                        try clear c6b1
                        try clear p6
                        try clear c8
                        try clear c9
                        try clear c12
                        try clear c15
                        try clear c16
                        try clear c17
                        try clear c18
                        try clear c19
                        try clear c20
                        try clear c20b0
                        try clear c20b1
                        try clear c23
                        try clear c24
                        try clear c24b0
                        try clear c25
                        try clear c25b0
                        try clear c27
                        try clear c27b0
                        try clear c28
                        try clear c28b0
                        try clear c33
                        try clear p33
                        try clear q33
                        try clear hx33
                        try clear c39
                        try clear c39b0
                        try clear c40
                        try clear c40b0
                        try clear c41
                        try clear c41b0
                        try clear c42
                        try clear c44
                        try clear c63
                        try clear c63b0
                        try clear c63b1
                        try clear p64
                        try clear hcz51_0
                        try clear hcz51_1
                        try clear hcz51_2
                        try clear hcz53_0
                        try clear hcz53_1
                        try clear hcz53_2
                        try clear hfz51_0
                        try clear hfz51_1
                        try clear hfz51_2
                        try clear hfz53_0
                        try clear hfz53_1
                        try clear hfz53_2
                        try clear hx332_0
                        try clear hx332_1
                        try clear hx332_2
                        try clear hx336_0
                        try clear hx336_1
                        try clear hx336_2
                        try clear hx337_0
                        try clear hx337_1
                        try clear hx338_0
                        try clear p2
                        try clear p3
                        try clear p33
                        try clear p332
                        try clear p336
                        try clear p337
                        try clear p338
                        try clear p6
                        try clear q3
                        try clear q33
                        try clear q332
                        try clear q336
                        try clear q337
                        try clear q338
                        obtain ⟨kq, x118_57, rfl, HA, HJ57, HO_18, HO_20, HB⟩ := hcut
                        cases kq with
                        | zero => exact absurd HA.out (by simp [reliquarylaw12_RecordChanges.j4])
                        | succ kj57 =>
                          have H := HA.out
                          clear HA
                          simp only [reliquarylaw12_RecordChanges.j4] at H
                          by_cases c66 : x118_57 = true
                          · subst c66
                            have H1 : (some false) = some r := by rw [if_pos rfl] at H; exact H
                            clear H
                            have H := H1
                            clear H1
                            obtain rfl := Option.some.inj H
                            go_wp2
                            go_ret
                            exact ⟨by first | rfl | (simp [errW_none, errW_some] <;> rfl) | (simp [*, errW_none, errW_some] <;> rfl), by repeat (first | (with_reducible first | exact HB.out | apply below_alloc | apply pw_below_drewN | apply below_drew1) | exact HB.out)⟩
                          · replace c66 := Bool.eq_false_iff.mpr c66
                            subst c66
                            have H1 : (reliquarylaw12_RecordChanges.l2 kj57 t349 t353 0) = some r := by rw [if_neg (show ¬ (false = true) by decide)] at H; exact H
                            clear H
                            have H := H1
                            clear H1
                            have H' := Aside0.mk H
                            clear H
                            go_wp2
                            go_loopg [22] kj57 (fun kq v22 w' => ∃ (x22_5 : Int), v22 = .int .i64 x22_5 ∧ Aside0 (reliquarylaw12_RecordChanges.l2 kq t349 t353 x22_5 = some r) ∧ Aside0 (kq ≤ kj57) ∧ Aside0 (Kd.N (Kd.slice 25 k25) 27 w' w.heap.size (fun k_ => some k_ ≠ (v355 : Value).ownBlock) v351 t349) ∧ Aside0 (Kd.N (Kd.slice 37 k37) 54 w' w.heap.size (fun k_ => some k_ ≠ (v351 : Value).ownBlock) v355 t353) ∧ Aside0 (Below w.heap.size w w'))
                            case atStart => exact ⟨(0), (by first | rfl | (simp; done) | (simp [*]; done)), H', ⟨Nat.le_refl _⟩, ⟨by (with_reducible repeat (first | apply Kd.N_alloc | apply Kd.N_drewN | apply Kd.N_drew)); exact HO_18.out⟩, ⟨by (with_reducible repeat (first | apply Kd.N_alloc | apply Kd.N_drewN | apply Kd.N_drew)); exact HO_20.out⟩, ⟨by repeat (first | (with_reducible first | exact HB.out | apply below_alloc | apply pw_below_drewN | apply below_drew1) | exact HB.out)⟩⟩
                            case round =>
                              clear H'
                              try clear c1
                              try clear c2
                              try clear p2
                              try clear c3
                              try clear p3
                              try clear q3
                              try clear hx3
                              try clear c4
                              try clear c5
                              try clear c6
                              try clear c6b0
                              try clear c6b1
                              try clear p6
                              try clear c8
                              try clear c9
                              try clear c12
                              try clear c15
                              try clear c16
                              try clear c17
                              try clear c18
                              try clear c19
                              try clear c20
                              try clear c20b0
                              try clear c20b1
                              try clear c23
                              try clear c24
                              try clear c24b0
                              try clear c25
                              try clear c25b0
                              try clear c27
                              try clear c27b0
                              try clear c28
                              try clear c28b0
                              try clear c33
                              try clear p33
                              try clear q33
                              try clear hx33
                              try clear c39
                              try clear c39b0
                              try clear c40
                              try clear c40b0
                              try clear c41
                              try clear c41b0
                              try clear c42
                              try clear c44
                              try clear c63
                              try clear c63b0
                              try clear c63b1
                              try clear p64
                              try clear c66
                              try clear hcz51_0
                              try clear hcz51_1
                              try clear hcz51_2
                              try clear hcz53_0
                              try clear hcz53_1
                              try clear hcz53_2
                              try clear hfz51_0
                              try clear hfz51_1
                              try clear hfz51_2
                              try clear hfz53_0
                              try clear hfz53_1
                              try clear hfz53_2
                              try clear hx332_0
                              try clear hx332_1
                              try clear hx332_2
                              try clear hx336_0
                              try clear hx336_1
                              try clear hx336_2
                              try clear hx337_0
                              try clear hx337_1
                              try clear hx338_0
                              try clear p2
                              try clear p3
                              try clear p33
                              try clear p332
                              try clear p336
                              try clear p337
                              try clear p338
                              try clear p6
                              try clear p64
                              try clear q3
                              try clear q33
                              try clear q332
                              try clear q336
                              try clear q337
                              try clear q338
                              obtain ⟨x22_5, rfl, HA, HK5, HO_18, HO_20, HB⟩ := hrel
                              cases gk with
                              | zero => exact absurd HA.out (by simp [reliquarylaw12_RecordChanges.l2])
                              | succ k5 =>
                                have H := HA.out
                                clear HA
                                simp only [reliquarylaw12_RecordChanges.l2] at H
                                by_cases c67 : x22_5 < (t349.length : Int)
                                · rw [if_pos c67] at H
                                  have c67b0 : decide (x22_5 < (t349.length : Int)) = true := decide_eq_true c67
                                  clear c67
                                  by_cases c68 : 0 ≤ x22_5
                                  · rw [if_pos c68] at H
                                    have c68b0 : decide (0 ≤ x22_5) = true := decide_eq_true c68
                                    clear c68
                                    replace H := Option.bind_eq_some_iff.mp H
                                    obtain ⟨t358, A690, H⟩ := H
                                    replace H : (if x22_5 < (t353.length : Int) then ((reliquaryref12_Same.f k5 t358 (rd_L14 t353 x22_5)).bind fun t362 => (if t362 = true then (reliquarylaw12_RecordChanges.l2 k5 t349 t353 (wrap64 (x22_5 + 1))) else (some false))) else (none)) = some r := H
                                    have A69 := Aside0.mk A690
                                    clear A690
                                    by_cases c70 : x22_5 < (t353.length : Int)
                                    · rw [if_pos c70] at H
                                      have c70b0 : decide (x22_5 < (t353.length : Int)) = true := decide_eq_true c70
                                      clear c70
                                      replace H := Option.bind_eq_some_iff.mp H
                                      obtain ⟨t362, A710, H⟩ := H
                                      replace H : (if t362 = true then (reliquarylaw12_RecordChanges.l2 k5 t349 t353 (wrap64 (x22_5 + 1))) else (some false)) = some r := H
                                      have A71 := Aside0.mk A710
                                      clear A710
                                      by_cases c72 : t362 = true
                                      · subst c72
                                        have H1 : (reliquarylaw12_RecordChanges.l2 k5 t349 t353 (wrap64 (x22_5 + 1))) = some r := by rw [if_pos rfl] at H; exact H
                                        clear H
                                        have H := H1
                                        clear H1
                                        have H' := Aside0.mk H
                                        clear H
                                        obtain ⟨Ao73, co73, eo73⟩ := Kd.N_slice HO_18.out
                                        subst eo73
                                        try go_wp2
                                        have n0_ := Aside0.mk (Kd.N_drew HO_18.out)
                                        have n1_ := Aside0.mk (Kd.N_drew HO_20.out)
                                        have n2_ := Aside0.mk (below_drew1 HB.out)
                                        clear HO_18
                                        clear HO_20
                                        clear HB
                                        have HO_18 := n0_
                                        have HO_20 := n1_
                                        have HB := n2_
                                        clear n0_ n1_ n2_
                                        have p357 : 0 ≤ (x22_5 : Int) := of_decide_eq_true (by first | (with_reducible assumption) | assumption)
                                        have q357 : x22_5 < (t349.length : Int) := of_decide_eq_true (by first | (with_reducible assumption) | assumption)
                                        obtain ⟨ad357, A357_0, c357_0, e357, hx357_0, hl357_0, hi357_0⟩ := at_L12 (Kd.N_reads' HO_18.out).2.2 x22_5 p357 q357
                                        cases e357
                                        obtain ⟨ce357, hce357, hMe357, hcc357⟩ := Kd.N_get HO_18.out [] x22_5 p357 (by first | exact q357 | exact of_decide_eq_true (by first | (with_reducible assumption) | assumption) | (have e_ := (Kd.N_reads' HO_18.out).1; omega))
                                        obtain ⟨ua357_0, uc357_0, rfl, ul357_0, ge357_0⟩ := Kd.FK_slice_open hMe357
                                        have hv357_0 := hcc357 0 _ rfl
                                        rw [Nat.add_zero, show ((Kd.slice 25 k25)).sz = 1 from rfl, Nat.mul_one] at hv357_0
                                        replace hv357_0 := Option.some.inj (hv357_0.symm.trans hx357_0)
                                        injection hv357_0 with hva_ hvn_ hvc_
                                        rw [hva_] at ge357_0
                                        rw [hvc_] at ul357_0
                                        have HL357_0 := Aside0.mk (show Kd.V k25 25 _ w.heap.size _ _ (rd_L12 t349 x22_5) from Kd.V_mk ul357_0 ge357_0)
                                        clear hva_ hvn_ hvc_ ge357_0 ul357_0
                                        clear hcc357 hce357
                                        have HR357_0 := Aside0.mk hi357_0
                                        have HC357_0 := Aside0.mk hl357_0
                                        clear hi357_0 hl357_0
                                        replace p357 := eq_true p357
                                        replace q357 := eq_true q357
                                        obtain ⟨Ao75, co75, eo75⟩ := Kd.N_slice HO_20.out
                                        (first | subst eo75 | (injection eo75 with f1_ f2_ f3_; have f4_ := f1_.symm; have f5_ := f3_.symm; clear f1_ f2_ f3_; subst f4_; subst f5_))
                                        have p361 : 0 ≤ (x22_5 : Int) := of_decide_eq_true (by first | (with_reducible assumption) | assumption)
                                        have q361 : x22_5 < (t353.length : Int) := of_decide_eq_true (by first | (with_reducible assumption) | assumption)
                                        obtain ⟨ad361, A361_0, c361_0, e361, hx361_0, hl361_0, hi361_0⟩ := at_L14 (Kd.N_reads' HO_20.out).2.2 x22_5 p361 q361
                                        cases e361
                                        obtain ⟨ce361, hce361, hMe361, hcc361⟩ := Kd.N_get HO_20.out [] x22_5 p361 (by first | exact q361 | exact of_decide_eq_true (by first | (with_reducible assumption) | assumption) | (have e_ := (Kd.N_reads' HO_20.out).1; omega))
                                        obtain ⟨ua361_0, uc361_0, rfl, ul361_0, ge361_0⟩ := Kd.FK_slice_open hMe361
                                        have hv361_0 := hcc361 0 _ rfl
                                        rw [Nat.add_zero, show ((Kd.slice 37 k37)).sz = 1 from rfl, Nat.mul_one] at hv361_0
                                        replace hv361_0 := Option.some.inj (hv361_0.symm.trans hx361_0)
                                        injection hv361_0 with hva_ hvn_ hvc_
                                        rw [hva_] at ge361_0
                                        rw [hvc_] at ul361_0
                                        have HL361_0 := Aside0.mk (show Kd.V k37 37 _ w.heap.size _ _ (rd_L14 t353 x22_5) from Kd.V_mk ul361_0 ge361_0)
                                        clear hva_ hvn_ hvc_ ge361_0 ul361_0
                                        clear hcc361 hce361
                                        have HR361_0 := Aside0.mk hi361_0
                                        have HC361_0 := Aside0.mk hl361_0
                                        clear hi361_0 hl361_0
                                        replace p361 := eq_true p361
                                        replace q361 := eq_true q361
                                        refine start_ (n := 11) (S := fun w' => w'.cell? (ad357.add (x22_5).toNat) = some (.slice A357_0 (rd_L12 t349 x22_5).length c357_0) ∧ w'.cell? (ad361.add (x22_5).toNat) = some (.slice A361_0 (rd_L14 t353 x22_5).length c361_0)) (ds := []) #[false, false, false, false, false, false, false, false, false, false, false] (by kernel_rfl) rfl rfl ⟨hx357_0, hx361_0⟩ (fun hHeld => ?_); refine with_tabW reliquarylaw12_RecordChanges.tab31 reliquarylaw12_RecordChanges.bits31 (fun HT_ HW_ => ?_)
                                        generalize wr.drew = w74 at HO_18 HO_20 HB HL357_0 HL361_0 HR357_0 HR361_0 hx357_0 hx361_0 hHeld ⊢
                                        refine pure_ (i := 0) (N := some 125) (v := ?_) (a' := ?_) #[true, false, false, false, false, false, false, false, false, false, false] rfl rfl (any_of HT_.out (by kernel_rfl)) (fun _ _ _ h => h) (Or.inl ⟨by rfl, ?_⟩) ?_ ?_
                                        rotate_left
                                        · intro w'
                                          go_simp
                                          with_reducible rfl
                                        rotate_left
                                        · simp only [Act.put, List.setIfInBounds_toArray, List.set_cons_zero, List.set_cons_succ, i64_w, i32_w]
                                          rfl
                                        refine pure_ (i := 1) (N := some 126) (v := ?_) (a' := ?_) #[true, true, false, false, false, false, false, false, false, false, false] rfl rfl (any_of HT_.out (by kernel_rfl)) (fun _ _ _ h => h) (Or.inl ⟨by rfl, ?_⟩) ?_ ?_
                                        rotate_left
                                        · intro w'
                                          go_simp
                                          with_reducible rfl
                                        rotate_left
                                        · simp only [Act.put, List.setIfInBounds_toArray, List.set_cons_zero, List.set_cons_succ, i64_w, i32_w]
                                          rfl
                                        refine pure_ (i := 2) (N := some 127) (v := ?_) (a' := ?_) #[true, true, true, false, false, false, false, false, false, false, false] rfl rfl (any_of HT_.out (by kernel_rfl)) (fun _ _ _ h => h) (Or.inl ⟨by rfl, ?_⟩) ?_ ?_
                                        rotate_left
                                        · intro w'
                                          go_simp
                                          with_reducible rfl
                                        rotate_left
                                        · simp only [Act.put, List.setIfInBounds_toArray, List.set_cons_zero, List.set_cons_succ, i64_w, i32_w]
                                          rfl
                                        refine pure_ (i := 5) (N := some 130) (v := ?_) (a' := ?_) #[true, true, true, false, false, true, false, false, false, false, false] rfl rfl (any_of HT_.out (by kernel_rfl)) (fun _ _ _ h => h) (Or.inl ⟨by rfl, ?_⟩) ?_ ?_
                                        rotate_left
                                        · intro w'
                                          go_simp
                                          with_reducible rfl
                                        rotate_left
                                        · simp only [Act.put, List.setIfInBounds_toArray, List.set_cons_zero, List.set_cons_succ, i64_w, i32_w]
                                          rfl
                                        refine pure_ (i := 6) (N := some 131) (v := ?_) (a' := ?_) #[true, true, true, false, false, true, true, false, false, false, false] rfl rfl (any_of HT_.out (by kernel_rfl)) (fun _ _ _ h => h) (Or.inl ⟨by rfl, ?_⟩) ?_ ?_
                                        rotate_left
                                        · intro w'
                                          go_simp
                                          with_reducible rfl
                                        rotate_left
                                        · simp only [Act.put, List.setIfInBounds_toArray, List.set_cons_zero, List.set_cons_succ, i64_w, i32_w]
                                          rfl
                                        refine pure_ (i := 7) (N := some 132) (v := ?_) (a' := ?_) #[true, true, true, false, false, true, true, true, false, false, false] rfl rfl (any_of HT_.out (by kernel_rfl)) (fun _ _ _ h => h) (Or.inl ⟨by rfl, ?_⟩) ?_ ?_
                                        rotate_left
                                        · intro w'
                                          go_simp
                                          with_reducible rfl
                                        rotate_left
                                        · simp only [Act.put, List.setIfInBounds_toArray, List.set_cons_zero, List.set_cons_succ, i64_w, i32_w]
                                          rfl
                                        refine take_ (i := 3) (N := some 128) (v := ?_) (a' := ?_) #[true, true, true, true, false, true, true, true, false, false, false] rfl rfl (take_ofW HT_.out HW_.out (by kernel_rfl)) (fun _ _ _ h => h) (Or.inl ⟨by rfl, ?_⟩) hHeld ?_ ?_
                                        rotate_left
                                        · rintro w' ⟨s0, s1⟩
                                          go_simp
                                          with_reducible rfl
                                        rotate_left
                                        · simp only [Act.put, List.setIfInBounds_toArray, List.set_cons_zero, List.set_cons_succ, i64_w, i32_w]
                                          rfl
                                        refine take_ (i := 8) (N := some 133) (v := ?_) (a' := ?_) #[true, true, true, true, false, true, true, true, true, false, false] rfl rfl (take_ofW HT_.out HW_.out (by kernel_rfl)) (fun _ _ _ h => h) (Or.inl ⟨by rfl, ?_⟩) hHeld ?_ ?_
                                        rotate_left
                                        · rintro w' ⟨s0, s1⟩
                                          go_simp
                                          with_reducible rfl
                                        rotate_left
                                        · simp only [Act.put, List.setIfInBounds_toArray, List.set_cons_zero, List.set_cons_succ, i64_w, i32_w]
                                          rfl
                                        refine one_ (i := 4) (N := some 129) #[true, true, true, true, true, true, true, true, true, false, false] rfl rfl (one_of HT_.out (by kernel_rfl)) (by decide) (fun K hK => ?_)
                                        refine goes_ Try.func17 (by kernel_rfl) rfl #[.slice A357_0 (rd_L12 t349 x22_5).length c357_0] (by rfl) rfl rfl (by (try simp only [List.map_toArray, List.map_cons, List.map_nil]); first | done | rfl | (simp only [List.length_drop, List.length_take]; rfl)) ?_
                                        with_reducible refine (reliquarylaw12_modelOf.calls k5 _ _ (rd_L12 t349 x22_5) t358 _ ?side1 ?side2 A69.out).mono ?_
                                        (case side1 => repeat (first | exact (by repeat (first | (with_reducible exact HR357_0.out) | (with_reducible refine Kd.C_alloc ?_ _) | (with_reducible refine Kd.C_drewN ?_ _) | (with_reducible refine Kd.C_drew ?_) | exact HR357_0.out)) | (with_reducible refine Kd.C_alloc ?_ _) | (with_reducible refine Kd.C_drewN ?_ _) | (with_reducible refine Kd.C_drew ?_)))
                                        (case side2 => exact HC357_0.out)
                                        rintro e w76 ⟨v359, rfl, ho0, hb⟩
                                        have HS0_ := (hb.cell (World.block_lt_of_cell? _ _ (hHeld.1))).trans (hHeld.1)
                                        have HS1_ := (hb.cell (World.block_lt_of_cell? _ _ (hHeld.2))).trans (hHeld.2)
                                        refine ⟨_, rfl, ?_⟩
                                        have n0_ := Aside0.mk (Kd.N_elder' (by (with_reducible repeat (first | apply Kd.N_alloc | apply Kd.N_drewN | apply Kd.N_drew)); exact HO_18.out) (Kd.R_base ho0) hb)
                                        have n1_ := Aside0.mk (Kd.N_elder' (by (with_reducible repeat (first | apply Kd.N_alloc | apply Kd.N_drewN | apply Kd.N_drew)); exact HO_20.out) (Kd.R_base ho0) hb)
                                        have n2_ := Aside0.mk (Kd.V_elder' (by (with_reducible repeat (first | apply Kd.V_alloc | apply Kd.V_drewN | apply Kd.V_drew)); exact HL357_0.out) (Kd.R_base ho0) hb)
                                        have n3_ := Aside0.mk (Kd.V_elder' (by (with_reducible repeat (first | apply Kd.V_alloc | apply Kd.V_drewN | apply Kd.V_drew)); exact HL361_0.out) (Kd.R_base ho0) hb)
                                        have n4_ := Aside0.mk (Kd.R_lower ho0 (below_size (by repeat (first | (with_reducible first | exact HB.out | apply below_alloc | apply pw_below_drewN | apply below_drew1) | exact HB.out))))
                                        have n5_ := Aside0.mk (Kd.C_below (by repeat (first | (with_reducible exact HR357_0.out) | (with_reducible refine Kd.C_alloc ?_ _) | (with_reducible refine Kd.C_drewN ?_ _) | (with_reducible refine Kd.C_drew ?_) | exact HR357_0.out)) hb)
                                        have n6_ := Aside0.mk (Kd.C_below (by repeat (first | (with_reducible exact HR361_0.out) | (with_reducible refine Kd.C_alloc ?_ _) | (with_reducible refine Kd.C_drewN ?_ _) | (with_reducible refine Kd.C_drew ?_) | exact HR361_0.out)) hb)
                                        have n7_ := Aside0.mk (below_step (by repeat (first | (with_reducible first | exact HB.out | apply below_alloc | apply pw_below_drewN | apply below_drew1) | exact HB.out)) hb)
                                        clear HO_18
                                        clear HO_20
                                        clear HL357_0
                                        clear HL361_0
                                        clear HR357_0
                                        clear HR361_0
                                        clear HB
                                        have HO_18 := n0_
                                        have HO_20 := n1_
                                        have HL357_0 := n2_
                                        have HL361_0 := n3_
                                        have HO360 := n4_
                                        have HR357_0 := n5_
                                        have HR361_0 := n6_
                                        have HB := n7_
                                        clear n0_ n1_ n2_ n3_ n4_ n5_ n6_ n7_
                                        (try clear hb)
                                        (try clear hb2)
                                        (try clear hk)
                                        (try clear hi)
                                        (try clear ho0)
                                        obtain ⟨Ao77, co77, eo77⟩ := Kd.R_slice HO360.out
                                        (first | subst eo77 | (injection eo77 with f1_ f2_ f3_; have f4_ := f1_.symm; have f5_ := f3_.symm; clear f1_ f2_ f3_; subst f4_; subst f5_))
                                        refine hK.out _ _ ⟨HS0_, HS1_⟩ (fun hHeld => ?_)
                                        clear hK K
                                        refine norm_ (a' := ?_) ?_ ?_
                                        rotate_left
                                        · show Act.put _ (some 129) _ = _
                                          simp only [Act.put, List.setIfInBounds_toArray, List.set_cons_zero, List.set_cons_succ, i64_w, i32_w]
                                          rfl
                                        refine one_ (i := 9) (N := some 134) #[true, true, true, true, true, true, true, true, true, true, false] rfl rfl (one_of HT_.out (by kernel_rfl)) (by decide) (fun K hK => ?_)
                                        refine goes_ Try.func20 (by kernel_rfl) rfl #[.slice Ao77 t358.length co77, .slice A361_0 (rd_L14 t353 x22_5).length c361_0] (by rfl) rfl rfl (by (try simp only [List.map_toArray, List.map_cons, List.map_nil]); first | done | rfl | (simp only [List.length_drop, List.length_take]; rfl)) ?_
                                        with_reducible refine (reliquaryref12_Same.calls k5 _ _ t358 _ _ (rd_L14 t353 x22_5) true _ ?side1 ?side2 ?side3 ?side4 A71.out).mono ?_
                                        (case side1 => repeat (first | exact (Kd.R_reads' HO360.out).2.2 | (with_reducible refine Kd.C_alloc ?_ _) | (with_reducible refine Kd.C_drewN ?_ _) | (with_reducible refine Kd.C_drew ?_)))
                                        (case side2 => exact (Kd.R_reads' HO360.out).2.1)
                                        (case side3 => repeat (first | exact (by repeat (first | (with_reducible exact HR361_0.out) | (with_reducible refine Kd.C_alloc ?_ _) | (with_reducible refine Kd.C_drewN ?_ _) | (with_reducible refine Kd.C_drew ?_) | exact HR361_0.out)) | (with_reducible refine Kd.C_alloc ?_ _) | (with_reducible refine Kd.C_drewN ?_ _) | (with_reducible refine Kd.C_drew ?_)))
                                        (case side4 => exact HC361_0.out)
                                        rintro e w' ⟨rfl, ⟨nd, rfl⟩⟩
                                        refine ⟨_, rfl, ?_⟩
                                        refine hK.out _ _ ⟨hHeld.1, hHeld.2⟩ (fun hHeld => ?_)
                                        clear hK K
                                        refine norm_ (a' := ?_) ?_ ?_
                                        rotate_left
                                        · show Act.put _ (some 134) _ = _
                                          simp only [Act.put, List.setIfInBounds_toArray, List.set_cons_zero, List.set_cons_succ, i64_w, i32_w]
                                          rfl
                                        refine pure_ (i := 10) (N := some 135) (v := ?_) (a' := ?_) #[true, true, true, true, true, true, true, true, true, true, true] rfl rfl (any_of HT_.out (by kernel_rfl)) (fun _ _ _ h => h) (Or.inl ⟨by rfl, ?_⟩) ?_ ?_
                                        rotate_left
                                        · intro w'
                                          go_simp
                                          with_reducible rfl
                                        rotate_left
                                        · simp only [Act.put, List.setIfInBounds_toArray, List.set_cons_zero, List.set_cons_succ, i64_w, i32_w]
                                          rfl
                                        refine done_ (done_of HT_.out (by kernel_rfl)) ?_
                                        try go_wp2
                                        go_roundg k5
                                        case measure => have := HJ11.out; have := HK2.out; have := HJ36.out; have := HJ57.out; have := HK5.out; omega
                                        case rel => exact ⟨(wrap64 (x22_5 + 1)), (by first | rfl | (simp; done) | (simp [*]; done)), H', ⟨by have := HJ11.out; have := HK2.out; have := HJ36.out; have := HJ57.out; have := HK5.out; omega⟩, ⟨by (with_reducible repeat (first | apply Kd.N_alloc | apply Kd.N_drewN | apply Kd.N_drew)); exact Kd.N_mono HO_18.out (fun _ hk => hk.1)⟩, ⟨by (with_reducible repeat (first | apply Kd.N_alloc | apply Kd.N_drewN | apply Kd.N_drew)); exact Kd.N_mono HO_20.out (fun _ hk => hk.1)⟩, ⟨by repeat (first | (with_reducible first | exact HB.out | apply below_alloc | apply pw_below_drewN | apply below_drew1) | exact HB.out)⟩⟩
                                      · replace c72 := Bool.eq_false_iff.mpr c72
                                        subst c72
                                        have H1 : (some false) = some r := by rw [if_neg (show ¬ (false = true) by decide)] at H; exact H
                                        clear H
                                        have H := H1
                                        clear H1
                                        obtain rfl := Option.some.inj H
                                        obtain ⟨Ao78, co78, eo78⟩ := Kd.N_slice HO_18.out
                                        subst eo78
                                        try go_wp2
                                        have n0_ := Aside0.mk (Kd.N_drew HO_18.out)
                                        have n1_ := Aside0.mk (Kd.N_drew HO_20.out)
                                        have n2_ := Aside0.mk (below_drew1 HB.out)
                                        clear HO_18
                                        clear HO_20
                                        clear HB
                                        have HO_18 := n0_
                                        have HO_20 := n1_
                                        have HB := n2_
                                        clear n0_ n1_ n2_
                                        have p357 : 0 ≤ (x22_5 : Int) := of_decide_eq_true (by first | (with_reducible assumption) | assumption)
                                        have q357 : x22_5 < (t349.length : Int) := of_decide_eq_true (by first | (with_reducible assumption) | assumption)
                                        obtain ⟨ad357, A357_0, c357_0, e357, hx357_0, hl357_0, hi357_0⟩ := at_L12 (Kd.N_reads' HO_18.out).2.2 x22_5 p357 q357
                                        cases e357
                                        obtain ⟨ce357, hce357, hMe357, hcc357⟩ := Kd.N_get HO_18.out [] x22_5 p357 (by first | exact q357 | exact of_decide_eq_true (by first | (with_reducible assumption) | assumption) | (have e_ := (Kd.N_reads' HO_18.out).1; omega))
                                        obtain ⟨ua357_0, uc357_0, rfl, ul357_0, ge357_0⟩ := Kd.FK_slice_open hMe357
                                        have hv357_0 := hcc357 0 _ rfl
                                        rw [Nat.add_zero, show ((Kd.slice 25 k25)).sz = 1 from rfl, Nat.mul_one] at hv357_0
                                        replace hv357_0 := Option.some.inj (hv357_0.symm.trans hx357_0)
                                        injection hv357_0 with hva_ hvn_ hvc_
                                        rw [hva_] at ge357_0
                                        rw [hvc_] at ul357_0
                                        have HL357_0 := Aside0.mk (show Kd.V k25 25 _ w.heap.size _ _ (rd_L12 t349 x22_5) from Kd.V_mk ul357_0 ge357_0)
                                        clear hva_ hvn_ hvc_ ge357_0 ul357_0
                                        clear hcc357 hce357
                                        have HR357_0 := Aside0.mk hi357_0
                                        have HC357_0 := Aside0.mk hl357_0
                                        clear hi357_0 hl357_0
                                        replace p357 := eq_true p357
                                        replace q357 := eq_true q357
                                        obtain ⟨Ao80, co80, eo80⟩ := Kd.N_slice HO_20.out
                                        (first | subst eo80 | (injection eo80 with f1_ f2_ f3_; have f4_ := f1_.symm; have f5_ := f3_.symm; clear f1_ f2_ f3_; subst f4_; subst f5_))
                                        have p361 : 0 ≤ (x22_5 : Int) := of_decide_eq_true (by first | (with_reducible assumption) | assumption)
                                        have q361 : x22_5 < (t353.length : Int) := of_decide_eq_true (by first | (with_reducible assumption) | assumption)
                                        obtain ⟨ad361, A361_0, c361_0, e361, hx361_0, hl361_0, hi361_0⟩ := at_L14 (Kd.N_reads' HO_20.out).2.2 x22_5 p361 q361
                                        cases e361
                                        obtain ⟨ce361, hce361, hMe361, hcc361⟩ := Kd.N_get HO_20.out [] x22_5 p361 (by first | exact q361 | exact of_decide_eq_true (by first | (with_reducible assumption) | assumption) | (have e_ := (Kd.N_reads' HO_20.out).1; omega))
                                        obtain ⟨ua361_0, uc361_0, rfl, ul361_0, ge361_0⟩ := Kd.FK_slice_open hMe361
                                        have hv361_0 := hcc361 0 _ rfl
                                        rw [Nat.add_zero, show ((Kd.slice 37 k37)).sz = 1 from rfl, Nat.mul_one] at hv361_0
                                        replace hv361_0 := Option.some.inj (hv361_0.symm.trans hx361_0)
                                        injection hv361_0 with hva_ hvn_ hvc_
                                        rw [hva_] at ge361_0
                                        rw [hvc_] at ul361_0
                                        have HL361_0 := Aside0.mk (show Kd.V k37 37 _ w.heap.size _ _ (rd_L14 t353 x22_5) from Kd.V_mk ul361_0 ge361_0)
                                        clear hva_ hvn_ hvc_ ge361_0 ul361_0
                                        clear hcc361 hce361
                                        have HR361_0 := Aside0.mk hi361_0
                                        have HC361_0 := Aside0.mk hl361_0
                                        clear hi361_0 hl361_0
                                        replace p361 := eq_true p361
                                        replace q361 := eq_true q361
                                        refine start_ (n := 11) (S := fun w' => w'.cell? (ad357.add (x22_5).toNat) = some (.slice A357_0 (rd_L12 t349 x22_5).length c357_0) ∧ w'.cell? (ad361.add (x22_5).toNat) = some (.slice A361_0 (rd_L14 t353 x22_5).length c361_0)) (ds := []) #[false, false, false, false, false, false, false, false, false, false, false] (by kernel_rfl) rfl rfl ⟨hx357_0, hx361_0⟩ (fun hHeld => ?_); refine with_tabW reliquarylaw12_RecordChanges.tab31 reliquarylaw12_RecordChanges.bits31 (fun HT_ HW_ => ?_)
                                        generalize wr.drew = w79 at HO_18 HO_20 HB HL357_0 HL361_0 HR357_0 HR361_0 hx357_0 hx361_0 hHeld ⊢
                                        refine pure_ (i := 0) (N := some 125) (v := ?_) (a' := ?_) #[true, false, false, false, false, false, false, false, false, false, false] rfl rfl (any_of HT_.out (by kernel_rfl)) (fun _ _ _ h => h) (Or.inl ⟨by rfl, ?_⟩) ?_ ?_
                                        rotate_left
                                        · intro w'
                                          go_simp
                                          with_reducible rfl
                                        rotate_left
                                        · simp only [Act.put, List.setIfInBounds_toArray, List.set_cons_zero, List.set_cons_succ, i64_w, i32_w]
                                          rfl
                                        refine pure_ (i := 1) (N := some 126) (v := ?_) (a' := ?_) #[true, true, false, false, false, false, false, false, false, false, false] rfl rfl (any_of HT_.out (by kernel_rfl)) (fun _ _ _ h => h) (Or.inl ⟨by rfl, ?_⟩) ?_ ?_
                                        rotate_left
                                        · intro w'
                                          go_simp
                                          with_reducible rfl
                                        rotate_left
                                        · simp only [Act.put, List.setIfInBounds_toArray, List.set_cons_zero, List.set_cons_succ, i64_w, i32_w]
                                          rfl
                                        refine pure_ (i := 2) (N := some 127) (v := ?_) (a' := ?_) #[true, true, true, false, false, false, false, false, false, false, false] rfl rfl (any_of HT_.out (by kernel_rfl)) (fun _ _ _ h => h) (Or.inl ⟨by rfl, ?_⟩) ?_ ?_
                                        rotate_left
                                        · intro w'
                                          go_simp
                                          with_reducible rfl
                                        rotate_left
                                        · simp only [Act.put, List.setIfInBounds_toArray, List.set_cons_zero, List.set_cons_succ, i64_w, i32_w]
                                          rfl
                                        refine pure_ (i := 5) (N := some 130) (v := ?_) (a' := ?_) #[true, true, true, false, false, true, false, false, false, false, false] rfl rfl (any_of HT_.out (by kernel_rfl)) (fun _ _ _ h => h) (Or.inl ⟨by rfl, ?_⟩) ?_ ?_
                                        rotate_left
                                        · intro w'
                                          go_simp
                                          with_reducible rfl
                                        rotate_left
                                        · simp only [Act.put, List.setIfInBounds_toArray, List.set_cons_zero, List.set_cons_succ, i64_w, i32_w]
                                          rfl
                                        refine pure_ (i := 6) (N := some 131) (v := ?_) (a' := ?_) #[true, true, true, false, false, true, true, false, false, false, false] rfl rfl (any_of HT_.out (by kernel_rfl)) (fun _ _ _ h => h) (Or.inl ⟨by rfl, ?_⟩) ?_ ?_
                                        rotate_left
                                        · intro w'
                                          go_simp
                                          with_reducible rfl
                                        rotate_left
                                        · simp only [Act.put, List.setIfInBounds_toArray, List.set_cons_zero, List.set_cons_succ, i64_w, i32_w]
                                          rfl
                                        refine pure_ (i := 7) (N := some 132) (v := ?_) (a' := ?_) #[true, true, true, false, false, true, true, true, false, false, false] rfl rfl (any_of HT_.out (by kernel_rfl)) (fun _ _ _ h => h) (Or.inl ⟨by rfl, ?_⟩) ?_ ?_
                                        rotate_left
                                        · intro w'
                                          go_simp
                                          with_reducible rfl
                                        rotate_left
                                        · simp only [Act.put, List.setIfInBounds_toArray, List.set_cons_zero, List.set_cons_succ, i64_w, i32_w]
                                          rfl
                                        refine take_ (i := 3) (N := some 128) (v := ?_) (a' := ?_) #[true, true, true, true, false, true, true, true, false, false, false] rfl rfl (take_ofW HT_.out HW_.out (by kernel_rfl)) (fun _ _ _ h => h) (Or.inl ⟨by rfl, ?_⟩) hHeld ?_ ?_
                                        rotate_left
                                        · rintro w' ⟨s0, s1⟩
                                          go_simp
                                          with_reducible rfl
                                        rotate_left
                                        · simp only [Act.put, List.setIfInBounds_toArray, List.set_cons_zero, List.set_cons_succ, i64_w, i32_w]
                                          rfl
                                        refine take_ (i := 8) (N := some 133) (v := ?_) (a' := ?_) #[true, true, true, true, false, true, true, true, true, false, false] rfl rfl (take_ofW HT_.out HW_.out (by kernel_rfl)) (fun _ _ _ h => h) (Or.inl ⟨by rfl, ?_⟩) hHeld ?_ ?_
                                        rotate_left
                                        · rintro w' ⟨s0, s1⟩
                                          go_simp
                                          with_reducible rfl
                                        rotate_left
                                        · simp only [Act.put, List.setIfInBounds_toArray, List.set_cons_zero, List.set_cons_succ, i64_w, i32_w]
                                          rfl
                                        refine one_ (i := 4) (N := some 129) #[true, true, true, true, true, true, true, true, true, false, false] rfl rfl (one_of HT_.out (by kernel_rfl)) (by decide) (fun K hK => ?_)
                                        refine goes_ Try.func17 (by kernel_rfl) rfl #[.slice A357_0 (rd_L12 t349 x22_5).length c357_0] (by rfl) rfl rfl (by (try simp only [List.map_toArray, List.map_cons, List.map_nil]); first | done | rfl | (simp only [List.length_drop, List.length_take]; rfl)) ?_
                                        with_reducible refine (reliquarylaw12_modelOf.calls k5 _ _ (rd_L12 t349 x22_5) t358 _ ?side1 ?side2 A69.out).mono ?_
                                        (case side1 => repeat (first | exact (by repeat (first | (with_reducible exact HR357_0.out) | (with_reducible refine Kd.C_alloc ?_ _) | (with_reducible refine Kd.C_drewN ?_ _) | (with_reducible refine Kd.C_drew ?_) | exact HR357_0.out)) | (with_reducible refine Kd.C_alloc ?_ _) | (with_reducible refine Kd.C_drewN ?_ _) | (with_reducible refine Kd.C_drew ?_)))
                                        (case side2 => exact HC357_0.out)
                                        rintro e w81 ⟨v359, rfl, ho0, hb⟩
                                        have HS0_ := (hb.cell (World.block_lt_of_cell? _ _ (hHeld.1))).trans (hHeld.1)
                                        have HS1_ := (hb.cell (World.block_lt_of_cell? _ _ (hHeld.2))).trans (hHeld.2)
                                        refine ⟨_, rfl, ?_⟩
                                        have n0_ := Aside0.mk (Kd.N_elder' (by (with_reducible repeat (first | apply Kd.N_alloc | apply Kd.N_drewN | apply Kd.N_drew)); exact HO_18.out) (Kd.R_base ho0) hb)
                                        have n1_ := Aside0.mk (Kd.N_elder' (by (with_reducible repeat (first | apply Kd.N_alloc | apply Kd.N_drewN | apply Kd.N_drew)); exact HO_20.out) (Kd.R_base ho0) hb)
                                        have n2_ := Aside0.mk (Kd.V_elder' (by (with_reducible repeat (first | apply Kd.V_alloc | apply Kd.V_drewN | apply Kd.V_drew)); exact HL357_0.out) (Kd.R_base ho0) hb)
                                        have n3_ := Aside0.mk (Kd.V_elder' (by (with_reducible repeat (first | apply Kd.V_alloc | apply Kd.V_drewN | apply Kd.V_drew)); exact HL361_0.out) (Kd.R_base ho0) hb)
                                        have n4_ := Aside0.mk (Kd.R_lower ho0 (below_size (by repeat (first | (with_reducible first | exact HB.out | apply below_alloc | apply pw_below_drewN | apply below_drew1) | exact HB.out))))
                                        have n5_ := Aside0.mk (Kd.C_below (by repeat (first | (with_reducible exact HR357_0.out) | (with_reducible refine Kd.C_alloc ?_ _) | (with_reducible refine Kd.C_drewN ?_ _) | (with_reducible refine Kd.C_drew ?_) | exact HR357_0.out)) hb)
                                        have n6_ := Aside0.mk (Kd.C_below (by repeat (first | (with_reducible exact HR361_0.out) | (with_reducible refine Kd.C_alloc ?_ _) | (with_reducible refine Kd.C_drewN ?_ _) | (with_reducible refine Kd.C_drew ?_) | exact HR361_0.out)) hb)
                                        have n7_ := Aside0.mk (below_step (by repeat (first | (with_reducible first | exact HB.out | apply below_alloc | apply pw_below_drewN | apply below_drew1) | exact HB.out)) hb)
                                        clear HO_18
                                        clear HO_20
                                        clear HL357_0
                                        clear HL361_0
                                        clear HR357_0
                                        clear HR361_0
                                        clear HB
                                        have HO_18 := n0_
                                        have HO_20 := n1_
                                        have HL357_0 := n2_
                                        have HL361_0 := n3_
                                        have HO360 := n4_
                                        have HR357_0 := n5_
                                        have HR361_0 := n6_
                                        have HB := n7_
                                        clear n0_ n1_ n2_ n3_ n4_ n5_ n6_ n7_
                                        (try clear hb)
                                        (try clear hb2)
                                        (try clear hk)
                                        (try clear hi)
                                        (try clear ho0)
                                        obtain ⟨Ao82, co82, eo82⟩ := Kd.R_slice HO360.out
                                        (first | subst eo82 | (injection eo82 with f1_ f2_ f3_; have f4_ := f1_.symm; have f5_ := f3_.symm; clear f1_ f2_ f3_; subst f4_; subst f5_))
                                        refine hK.out _ _ ⟨HS0_, HS1_⟩ (fun hHeld => ?_)
                                        clear hK K
                                        refine norm_ (a' := ?_) ?_ ?_
                                        rotate_left
                                        · show Act.put _ (some 129) _ = _
                                          simp only [Act.put, List.setIfInBounds_toArray, List.set_cons_zero, List.set_cons_succ, i64_w, i32_w]
                                          rfl
                                        refine one_ (i := 9) (N := some 134) #[true, true, true, true, true, true, true, true, true, true, false] rfl rfl (one_of HT_.out (by kernel_rfl)) (by decide) (fun K hK => ?_)
                                        refine goes_ Try.func20 (by kernel_rfl) rfl #[.slice Ao82 t358.length co82, .slice A361_0 (rd_L14 t353 x22_5).length c361_0] (by rfl) rfl rfl (by (try simp only [List.map_toArray, List.map_cons, List.map_nil]); first | done | rfl | (simp only [List.length_drop, List.length_take]; rfl)) ?_
                                        with_reducible refine (reliquaryref12_Same.calls k5 _ _ t358 _ _ (rd_L14 t353 x22_5) false _ ?side1 ?side2 ?side3 ?side4 A71.out).mono ?_
                                        (case side1 => repeat (first | exact (Kd.R_reads' HO360.out).2.2 | (with_reducible refine Kd.C_alloc ?_ _) | (with_reducible refine Kd.C_drewN ?_ _) | (with_reducible refine Kd.C_drew ?_)))
                                        (case side2 => exact (Kd.R_reads' HO360.out).2.1)
                                        (case side3 => repeat (first | exact (by repeat (first | (with_reducible exact HR361_0.out) | (with_reducible refine Kd.C_alloc ?_ _) | (with_reducible refine Kd.C_drewN ?_ _) | (with_reducible refine Kd.C_drew ?_) | exact HR361_0.out)) | (with_reducible refine Kd.C_alloc ?_ _) | (with_reducible refine Kd.C_drewN ?_ _) | (with_reducible refine Kd.C_drew ?_)))
                                        (case side4 => exact HC361_0.out)
                                        rintro e w' ⟨rfl, ⟨nd, rfl⟩⟩
                                        refine ⟨_, rfl, ?_⟩
                                        refine hK.out _ _ ⟨hHeld.1, hHeld.2⟩ (fun hHeld => ?_)
                                        clear hK K
                                        refine norm_ (a' := ?_) ?_ ?_
                                        rotate_left
                                        · show Act.put _ (some 134) _ = _
                                          simp only [Act.put, List.setIfInBounds_toArray, List.set_cons_zero, List.set_cons_succ, i64_w, i32_w]
                                          rfl
                                        refine pure_ (i := 10) (N := some 135) (v := ?_) (a' := ?_) #[true, true, true, true, true, true, true, true, true, true, true] rfl rfl (any_of HT_.out (by kernel_rfl)) (fun _ _ _ h => h) (Or.inl ⟨by rfl, ?_⟩) ?_ ?_
                                        rotate_left
                                        · intro w'
                                          go_simp
                                          with_reducible rfl
                                        rotate_left
                                        · simp only [Act.put, List.setIfInBounds_toArray, List.set_cons_zero, List.set_cons_succ, i64_w, i32_w]
                                          rfl
                                        refine done_ (done_of HT_.out (by kernel_rfl)) ?_
                                        try go_wp2
                                        go_ret
                                        exact ⟨by first | rfl | (simp [errW_none, errW_some] <;> rfl) | (simp [*, errW_none, errW_some] <;> rfl), by repeat (first | (with_reducible first | exact HB.out | apply below_alloc | apply pw_below_drewN | apply below_drew1) | exact HB.out)⟩
                                    · rw [if_neg c70] at H
                                      exact absurd H (by simp)
                                  · rw [if_neg c68] at H
                                    exact absurd H (by simp)
                                · rw [if_neg c67] at H
                                  have c67b0 : decide (x22_5 < (t349.length : Int)) = false := decide_eq_false c67
                                  clear c67
                                  obtain rfl := Option.some.inj H
                                  obtain ⟨Ao83, co83, eo83⟩ := Kd.N_slice HO_18.out
                                  subst eo83
                                  go_wp2
                                  go_ret
                                  exact ⟨by first | rfl | (simp [errW_none, errW_some] <;> rfl) | (simp [*, errW_none, errW_some] <;> rfl), by repeat (first | (with_reducible first | exact HB.out | apply below_alloc | apply pw_below_drewN | apply below_drew1) | exact HB.out)⟩
  · replace c5 := Bool.eq_false_iff.mpr c5
    subst c5
    have H1 : (some false) = some r := by rw [if_neg (show ¬ (false = true) by decide)] at H; exact H
    clear H
    have H := H1
    clear H1
    obtain rfl := Option.some.inj H
    go_enter Try.func5, Try.ntmps5
    go_wp2_with (first | ((with_reducible refine gate_callee (f := 8) rfl ?_); refine goesL_ (some 23) rfl rfl Try.func8 (by kernel_rfl) rfl #[] rfl (by (try simp only [List.map_toArray, List.map_cons, List.map_nil]); first | done | rfl | (simp only [List.length_drop, List.length_take]; rfl)) ?_; (with_reducible refine (reliquarylaw12_awake.calls k  false _ A4.out).mono ?_); rintro e w84 ⟨rfl, hb⟩; refine ⟨_, rfl, ?_⟩; have n0_ := Aside0.mk (below_step (by repeat (first | (with_reducible first | exact HB.out | apply below_alloc | apply pw_below_drewN | apply below_drew1) | exact HB.out)) hb); clear HB; have HB := n0_; clear n0_; (try clear hb); (try clear hb2); (try clear hk); (try clear hi)))
    go_ret
    exact ⟨by first | rfl | (simp [errW_none, errW_some] <;> rfl) | (simp [*, errW_none, errW_some] <;> rfl), by repeat (first | (with_reducible first | exact HB.out | apply below_alloc | apply pw_below_drewN | apply below_drew1) | exact HB.out)⟩

end Go.Proofs.Ytjpkjakdhbnehaa.Q
end
section
/- RecordChanges: the law, over what the walk computes. -/
namespace Go.Proofs.Ytjpkjakdhbnehaa.Pure
open Go.RowKit Go.Proofs.Ytjpkjakdhbnehaa.Q Go.Proofs.YtjpkjakdhbnehaaW.PrintWords Go.Proofs.YtjpkjakdhbnehaaW.PrintLast Go.Proofs.YtjpkjakdhbnehaaW.PrintMore
set_option linter.unusedVariables false
set_option linter.unusedSimpArgs false
theorem rc_same (l : List S30) (lasts : List Bool) (x : List S25) (hl : l.length ≤ 100000) (K : Nat) (hnext : ∀ k, K ≤ k → reliquarylaw12_RecordChanges.l1 k lasts x [] [] 0 = some true) (d : Nat) : ∀ (k i : Nat), l.length - i = d → i ≤ l.length → d + 1 + K ≤ k →
    reliquarylaw12_RecordChanges.l0 k lasts x l (l.map m30) i = some true := by
  induction d with
  | zero =>
    intro k i hd hi hk
    obtain ⟨k, rfl⟩ : ∃ m, k = m + 1 := ⟨k - 1, by omega⟩
    simp only [reliquarylaw12_RecordChanges.l0]
    rw [if_neg (by omega)]
    exact hnext k (by omega)
  | succ d ih =>
    intro k i hd hi hk
    obtain ⟨k, rfl⟩ : ∃ m, k = m + 1 := ⟨k - 1, by omega⟩
    have hil : i < l.length := by omega
    have hr : rd_T39 (l.map m30) (i : Int) = m30 l[i] := by rw [rd39 _ i (by rw [List.length_map]; exact hil), List.getElem_map]
    simp only [reliquarylaw12_RecordChanges.l0, reliquarylaw12_recordOf.f, Option.bind_some]
    rw [if_pos (by omega), if_pos (by omega), List.length_map, if_pos (by omega), rd30 l i hil, hr, if_neg (by simp [m30, m25]), wrap64_id (by omega) (by omega)]
    exact ih k (i + 1) (by omega) (by omega) (by omega)
theorem rc_made (lasts : List Bool) (x : List S25) (hx : x.length ≤ 1000) (K : Nat) (R : List S30 → Prop) (hR : ∀ r : List S30, r.length ≤ x.length → (∀ y ∈ r, y.f0 ∈ x) → ∀ k, K ≤ k → reliquarylaw12_RecordChanges.j3 k r (r.map m30) = some true) (d : Nat) : ∀ (k i : Nat) (acc : List S30), x.length - i = d → i ≤ x.length → acc.length = i → (∀ y ∈ acc, y.f0 ∈ x) → d + 1 + K ≤ k →
    reliquarylaw12_RecordChanges.l1 k lasts x acc (acc.map m30) i = some true := by
  induction d with
  | zero =>
    intro k i acc hd hi ha hm hk
    obtain ⟨k, rfl⟩ : ∃ m, k = m + 1 := ⟨k - 1, by omega⟩
    simp only [reliquarylaw12_RecordChanges.l1]
    rw [if_neg (by omega)]
    exact hR acc (by omega) hm k (by omega)
  | succ d ih =>
    intro k i acc hd hi ha hm hk
    obtain ⟨k, rfl⟩ : ∃ m, k = m + 1 := ⟨k - 1, by omega⟩
    have hil : i < x.length := by omega
    simp only [reliquarylaw12_RecordChanges.l1, reliquarylaw12_recordOf.f, Option.bind_some]
    rw [if_pos (by omega)]
    by_cases c : (i : Int) < (lasts.length : Int)
    · rw [if_pos c, if_pos (by omega), if_pos (by omega), if_pos (by rw [List.length_map]; omega), rd25 x i hil, wrap64_id (by omega) (by omega)]
      have := ih k (i + 1) (acc ++ [⟨x[i], rdOf false lasts i⟩]) (by omega) (by omega) (by rw [List.length_append, ha]; rfl) (by
        intro y hy
        rcases List.mem_append.1 hy with hy | hy
        · exact hm y hy
        · rw [List.mem_singleton.1 hy]; exact List.getElem_mem _) (by omega)
      rw [List.map_append, List.map_cons, List.map_nil] at this
      exact this
    · rw [if_neg c]
      exact hR acc (by omega) hm k (by omega)
theorem rc_all (c : List (List S25)) (n : Nat) (hn : n ≤ 1000) (hc : c.length ≤ n) (hm : ∀ y ∈ c, y.length ≤ n) (d : Nat) : ∀ (k i : Nat), c.length - i = d → i ≤ c.length → d + n + 2 ≤ k →
    reliquarylaw12_RecordChanges.l2 k c (c.map (List.map m25)) i = some true := by
  induction d with
  | zero =>
    intro k i hd hi hk
    obtain ⟨k, rfl⟩ : ∃ m, k = m + 1 := ⟨k - 1, by omega⟩
    simp only [reliquarylaw12_RecordChanges.l2]
    rw [if_neg (by omega)]
  | succ d ih =>
    intro k i hd hi hk
    obtain ⟨k, rfl⟩ : ∃ m, k = m + 1 := ⟨k - 1, by omega⟩
    have hil : i < c.length := by omega
    have h1 : rd_L12 c (i : Int) = c[i] := by simp [rd_L12, List.getD_eq_getElem?_getD, List.getElem?_eq_getElem hil]
    have h2 : rd_L14 (c.map (List.map m25)) (i : Int) = c[i].map m25 := by simp [rd_L14, List.getD_eq_getElem?_getD, List.getElem?_eq_getElem hil]
    have h3 := hm c[i] (List.getElem_mem _)
    simp only [reliquarylaw12_RecordChanges.l2]
    rw [if_pos (by omega), if_pos (by omega), h1, modelOf_eq k _ (by omega) (by omega), Option.bind_some, List.length_map, if_pos (by omega), h2, same_eq k _ (by rw [List.length_map]; omega) (by rw [List.length_map]; omega), Option.bind_some, if_pos rfl, wrap64_id (by omega) (by omega)]
    exact ih k (i + 1) (by omega) (by omega) (by omega)
theorem rc_j3 (r : List S30) (hr : r.length ≤ 20) (hb : ∀ y ∈ r, y.f0.f1.length ≤ 100000) (k : Nat) (hk : 100 ≤ k) : reliquarylaw12_RecordChanges.j3 k r (r.map m30) = some true := by
  obtain ⟨k, rfl⟩ : ∃ m, k = m + 1 + 1 := ⟨k - 2, by omega⟩
  have h1 := chgV_length r
  simp only [reliquarylaw12_RecordChanges.j3]
  rw [recChanges_eq r (by omega) hb, Option.bind_some, refChanges_eq (k + 1) r (by omega) (by omega), Option.bind_some, if_pos rfl, List.length_map]
  simp only [reliquarylaw12_RecordChanges.j4]
  rw [if_neg (by simp)]
  exact rc_all _ 20 (by decide) (by omega) (fun y hy => Nat.le_trans (chgV_member r y hy) hr) _ k 0 rfl (Nat.zero_le _) (by omega)
theorem rc_true (l : List S25) (lasts : List Bool) (short : Bool) : ∃ k, reliquarylaw12_RecordChanges.f k l lasts short = some true := by
  refine ⟨4000, ?_⟩
  unfold reliquarylaw12_RecordChanges.f
  rw [awake12_ok 4000 (by decide), Option.bind_some, if_pos rfl]
  by_cases h : (l.length : Int) > 20
  · rw [if_pos h]
  · rw [if_neg h, images_eq 4000 l short (by omega) (by omega), Option.bind_some]
    obtain ⟨x, hx⟩ : ∃ x, imgs short 0 l = x := ⟨_, rfl⟩
    have hxl : x.length = l.length := by rw [← hx]; exact imgs_length short 0 l
    have hxm : ∀ y ∈ x, y.f1.length ≤ 160 := by rw [← hx]; exact imgs_mem short 0 l
    rw [hx, record_Of_eq 4000 x (by omega) (by omega), Option.bind_some, modelOf_eq 4000 x (by omega) (by omega), Option.bind_some, refOf_eq 4000 x (by omega) (by omega), Option.bind_some, if_pos rfl]
    have hol : (ofV x).1.length ≤ x.length := by
      unfold ofV
      split
      · exact Nat.zero_le _
      · rw [recsAt_length]; exact Nat.le_refl _
    simp only [reliquarylaw12_RecordChanges.j0, List.length_map]
    rw [if_neg (by simp)]
    refine rc_same _ lasts x (by omega) 1000 (fun k hk => ?_) _ 3999 0 rfl (Nat.zero_le _) (by omega)
    exact rc_made lasts x (by omega) 100 (fun _ => True) (fun r hr hm k hk => rc_j3 r (by omega) (fun y hy => by have := hxm _ (hm y hy); omega) k hk) _ k 0 [] rfl (Nat.zero_le _) rfl (fun y hy => by cases hy) (by omega)
end Go.Proofs.Ytjpkjakdhbnehaa.Pure
end
section
/- RecordChanges: its walk and its law, joined. -/
namespace Go.Proofs.Ytjpkjakdhbnehaa.Q
open Go.RowKit Go.Proofs.YtjpkjakdhbnehaaW.PrintWords
theorem RecordChanges.walk (w : World) (x : RowIn S25) (hx : RowIn.Ok k25 w x) (y : RowIn Bool) (hy : RowIn.Ok Kd.bool w y) (b : Bool) :
    Calls Try.prog 5 #[.slice x.a x.xs.length x.c, .slice y.a y.xs.length y.c, .bool b] w fun e w' => e = .returned (.bool true) ∧ Below w.heap.size w w' := by
  obtain ⟨k, hk⟩ := Pure.rc_true x.xs y.xs b
  exact reliquarylaw12_RecordChanges.calls k x.a x.c x.xs y.a y.c y.xs b true w hx.1 hx.2 hy.1 hy.2 hk
end Go.Proofs.Ytjpkjakdhbnehaa.Q
end
