/- RecordBack: for every input the statement's function returns true; there is no further condition. Text 4 of 4: this session's texts, laid together by its own program (merge.py). Not trusted: Lean checks them. -/
import Derived.Test.YtjpkjakdhbnehaaMRecordBack0
import Derived.Test.YtjpkjakdhbnehaaMRecordBack2
import Derived.Test.YtjpkjakdhbnehaaMRecordBack1
import Derived.Test.YtjpkjakdhbnehaaRows
import Derived.WalkKit
import Derived.ProofKit
import Derived.OpenShut
import Derived.ShutString
import Derived.ChangeOld
import Derived.Below
import Derived.SizedLaws
import Derived.Test.YtjpkjakdhbnehaaWSized
section
-- Written by this session's own program (ext_print.py) over the kit's print.py, hand proofs among it. Not trusted: Lean checks it.
namespace Go.Proofs.Ytjpkjakdhbnehaa.Q
open Go.RowKit Go.Proofs.YtjpkjakdhbnehaaW.PrintWords Go.Proofs.YtjpkjakdhbnehaaW.PrintLast Go.Proofs.YtjpkjakdhbnehaaW.PrintMore
attribute [local go_sem] max2_int min2_int max_two min_two max_three min_three max_four min_four   -- for this text's walks alone
set_option linter.unusedVariables false
set_option linter.unusedSimpArgs false

/-! ### reliquaryref12_Changes: function 19 -/
def reliquaryref12_Changes.l0 : Nat → List (S39) → List (List (S37)) → List (S37) → Int → Option ((List (List (S37))) × Int)
  | 0, _, _, _, _ => none
  | k + 1, x0, x4, x5, x6 => if x6 < (x0.length : Int) then (if 0 ≤ x6 then (if x5.length < 5864062014805 then ((some (x5 ++ [(⟨(rd_T39 x0 x6).f0.f0, (rd_T39 x0 x6).f0.f1⟩ : S37)] : List (S37))).bind fun y308 => (if (rd_T39 x0 x6).f1 = true then (if x4.length < 5864062014805 then (reliquaryref12_Changes.l0 k x0 (x4 ++ [y308]) ([] : List (S37)) (wrap64 (x6 + 1))) else (none)) else (reliquaryref12_Changes.l0 k x0 x4 y308 (wrap64 (x6 + 1))))) else (none)) else (none)) else (if (x5.length : Int) > 0 then (some (([] : List (List (S37))), 11)) else (some (x4, 0)))
def reliquaryref12_Changes.f (k : Nat) (l0 : List (S39)) : Option ((List (List (S37))) × Int) := reliquaryref12_Changes.l0 k l0 ([] : List (List (S37))) ([] : List (S37)) 0
theorem reliquaryref12_Changes.mono_l : ∀ k, (∀ y0 y1 y2 y3, LeO (reliquaryref12_Changes.l0 k y0 y1 y2 y3) (reliquaryref12_Changes.l0 (k + 1) y0 y1 y2 y3))
  | 0 => fun _ _ _ _ r h => by simp [reliquaryref12_Changes.l0] at h
  | k + 1 => by
    have ih0 := reliquaryref12_Changes.mono_l k
    · intro y0 y1 y2 y3
      unfold reliquaryref12_Changes.l0
      repeat' first
      | (with_reducible exact ih0 _ _ _ _)
      | (with_reducible exact LeO.refl _)
      | (with_reducible exact LeO.none _)
      | (with_reducible refine LeO.ite ?_ ?_)
      | (with_reducible refine LeO.bind ?_ (fun _ => ?_))
      | exact ih0 _ _ _ _
      | exact LeO.none _
      | refine LeO.ite ?_ ?_
      | refine LeO.bind ?_ (fun _ => ?_)
theorem reliquaryref12_Changes.mono : ∀ a0 k, LeO (reliquaryref12_Changes.f k a0) (reliquaryref12_Changes.f (k + 1) a0) := by
  intro a0 k
  have ih0 := reliquaryref12_Changes.mono_l k
  unfold reliquaryref12_Changes.f
  repeat' first
      | (with_reducible exact ih0 _ _ _ _)
      | (with_reducible exact LeO.refl _)
      | (with_reducible exact LeO.none _)
      | (with_reducible refine LeO.ite ?_ ?_)
      | (with_reducible refine LeO.bind ?_ (fun _ => ?_))
      | exact ih0 _ _ _ _
      | exact LeO.none _
      | refine LeO.ite ?_ ?_
      | refine LeO.bind ?_ (fun _ => ?_)
set_option maxHeartbeats 8000000 in
set_option maxRecDepth 100000 in
theorem reliquaryref12_Changes.calls (k : Nat) (A0 : Option Addr) (c0 : Nat) (l0 : List (S39)) (r1 : List (List (S37))) (r2 : Int) (w : World) (hr0 : Kd.C k39 w A0 l0.length l0) (hc0 : l0.length ≤ c0) (h : reliquaryref12_Changes.f k l0 = some (r1, r2)) :
    Calls Try.prog 19 #[.slice A0 l0.length c0] w fun e w' => ∃ v0_ : Value, e = .returned (.tuple #[v0_, .int .i64 r2]) ∧ Kd.S (Kd.slice 37 k37) 54 w' w.heap.size (fun _ => True) v0_ r1 ∧ Below w.heap.size w w' := by
  have hu37 := Try.underlying37
  have HR0 := Aside0.mk hr0
  have HC0 := Aside0.mk hc0
  clear hr0 hc0
  have HB := Aside0.mk (Below.refl w.heap.size w)
  have H : (reliquaryref12_Changes.l0 k l0 ([] : List (List (S37))) ([] : List (S37)) 0) = some (r1, r2) := h
  clear h
  have H' := Aside0.mk H
  clear H
  go_enter Try.func19, Try.ntmps19
  go_wp2
  go_loopg [4, 5, 6] k (fun kq v4 v5 v6 w' => ∃ (x4_1 : List (List (S37))) (x5_1 : List (S37)) (x6_1 : Int), v6 = .int .i64 x6_1 ∧ Aside0 (reliquaryref12_Changes.l0 kq l0 x4_1 x5_1 x6_1 = some (r1, r2)) ∧ Aside0 (kq ≤ k) ∧ Aside0 (Kd.S (Kd.slice 37 k37) 54 w' w.heap.size (fun k_ => some k_ ≠ (v5 : Value).ownBlock) v4 x4_1) ∧ Aside0 (Kd.R k37 37 w' w.heap.size (fun _ => True) v5 x5_1) ∧ Aside0 (Below w.heap.size w w'))
  case atStart => exact ⟨(([] : List (List (S37)))), (([] : List (S37))), (0), (by first | rfl | (simp; done) | (simp [*]; done)), H', ⟨Nat.le_refl _⟩, ⟨by first | exact Kd.S_nil _ _ _ _ _ | exact Kd.N_nil _ _ _ _ _ | exact Kd.V_nil _ _ _ _ _ | exact Kd.Q_nil _ _ _ _ _ | exact Kd.R_nil _ _ _ _ _⟩, ⟨by first | exact Kd.R_nil _ _ _ _ _ | exact Kd.N_nil _ _ _ _ _ | exact Kd.V_nil _ _ _ _ _ | exact Kd.Q_nil _ _ _ _ _ | exact Kd.S_nil _ _ _ _ _⟩, ⟨by repeat (first | (with_reducible first | exact HB.out | apply below_alloc | apply pw_below_drewN | apply below_drew1) | exact HB.out)⟩⟩
  case round =>
    clear H'
    try clear c1
    obtain ⟨x4_1, x5_1, x6_1, rfl, HA, HK1, HO_4, HO_5, HB⟩ := hrel
    cases gk with
    | zero => exact absurd HA.out (by simp [reliquaryref12_Changes.l0])
    | succ k1 =>
      have H := HA.out
      clear HA
      simp only [reliquaryref12_Changes.l0] at H
      by_cases c2 : x6_1 < (l0.length : Int)
      · rw [if_pos c2] at H
        have c2b0 : decide (x6_1 < (l0.length : Int)) = true := decide_eq_true c2
        clear c2
        by_cases c3 : 0 ≤ x6_1
        · rw [if_pos c3] at H
          have c3b0 : decide (0 ≤ x6_1) = true := decide_eq_true c3
          clear c3
          by_cases c4 : x5_1.length < 5864062014805
          · rw [if_pos c4] at H
            have LMc4 := Aside0.mk c4
            clear c4
            obtain ⟨y308, hy308⟩ : ∃ y_ : List (S37), y_ = (x5_1 ++ [(⟨(rd_T39 l0 x6_1).f0.f0, (rd_T39 l0 x6_1).f0.f1⟩ : S37)]) := ⟨_, rfl⟩
            replace H : (if (rd_T39 l0 x6_1).f1 = true then (if x4_1.length < 5864062014805 then (reliquaryref12_Changes.l0 k1 l0 (x4_1 ++ [y308]) ([] : List (S37)) (wrap64 (x6_1 + 1))) else (none)) else (reliquaryref12_Changes.l0 k1 l0 x4_1 y308 (wrap64 (x6_1 + 1)))) = some (r1, r2) := by first | (rw [hy308]; with_reducible exact H) | (have H2_ := (Option.bind_some _ _).symm.trans H; rw [hy308]; with_reducible exact H2_) | (have H2_ := (Option.bind_some _ _).symm.trans H; with_reducible exact H2_) | with_reducible exact H | (rw [hy308]; exact H) | exact H
            have Ny308 := Aside0.mk hy308
            clear hy308
            obtain ⟨bq5, hbq5⟩ : ∃ b_ : Bool, b_ = ((rd_T39 l0 x6_1).f1) := ⟨_, rfl⟩
            replace H : (if bq5 = true then (if x4_1.length < 5864062014805 then (reliquaryref12_Changes.l0 k1 l0 (x4_1 ++ [y308]) ([] : List (S37)) (wrap64 (x6_1 + 1))) else (none)) else (reliquaryref12_Changes.l0 k1 l0 x4_1 y308 (wrap64 (x6_1 + 1)))) = some (r1, r2) := by rw [← hbq5] at H; exact H
            have Nbq5 := Aside0.mk hbq5
            clear hbq5
            by_cases c6 : bq5 = true
            · subst c6
              have H1 : (if x4_1.length < 5864062014805 then (reliquaryref12_Changes.l0 k1 l0 (x4_1 ++ [y308]) ([] : List (S37)) (wrap64 (x6_1 + 1))) else (none)) = some (r1, r2) := by rw [if_pos rfl] at H; exact H
              clear H
              have H := H1
              clear H1
              by_cases c7 : x4_1.length < 5864062014805
              · rw [if_pos c7] at H
                have LMc7 := Aside0.mk c7
                clear c7
                obtain ⟨y312, hy312⟩ : ∃ y_ : List (List (S37)), y_ = (x4_1 ++ [y308]) := ⟨_, rfl⟩
                replace H : (reliquaryref12_Changes.l0 k1 l0 y312 ([] : List (S37)) (wrap64 (x6_1 + 1))) = some (r1, r2) := by first | (rw [hy312]; with_reducible exact H) | (have H2_ := (Option.bind_some _ _).symm.trans H; rw [hy312]; with_reducible exact H2_) | (have H2_ := (Option.bind_some _ _).symm.trans H; with_reducible exact H2_) | with_reducible exact H | (rw [hy312]; exact H) | exact H
                have Ny312 := Aside0.mk hy312
                clear hy312
                have H' := Aside0.mk H
                clear H
                have p307 : 0 ≤ (x6_1 : Int) := of_decide_eq_true (by first | (with_reducible assumption) | assumption)
                have q307 : x6_1 < (l0.length : Int) := of_decide_eq_true (by first | (with_reducible assumption) | assumption)
                obtain ⟨ad307, e307, hx307_0, hx307_1, hx307_2⟩ := at_T39 HR0.out x6_1 p307 q307
                (try rw [← Nbq5.out] at hx307_2)
                cases e307
                replace hx307_0 := (HB.out.cell (World.block_lt_of_cell? w _ hx307_0)).trans hx307_0
                replace hx307_1 := (HB.out.cell (World.block_lt_of_cell? w _ hx307_1)).trans hx307_1
                replace hx307_2 := (HB.out.cell (World.block_lt_of_cell? w _ hx307_2)).trans hx307_2
                replace p307 := eq_true p307
                replace q307 := eq_true q307
                go_wp2_with (first | ((with_reducible refine gate_builtin (b := .append) (xs := #[.tmp 13, .tmp 19]) rfl ?_); at_builtin; refine Kd.R_append k37 (w0 := w) w.heap.size rfl (.tmp 13) (.tmp 19) 54 37 (.agg #[(.int .u64 0), (.string ⟨#[]⟩)]) 24 rfl Try.underlying54 info37 rfl (by decide) (by omega) u5 x5_1 (⟨(rd_T39 l0 x6_1).f0.f0, (rd_T39 l0 x6_1).f0.f1⟩ : S37) [.int .u64 ((rd_T39 l0 x6_1).f0.f0), .string ((rd_T39 l0 x6_1).f0.f1)] (fun _ => True) (fun _ => False) rfl rfl ?aP (fun _ hk => hk.elim) ?aF ?aO ?aB ?aS ?aL ?_; (case aP => exact k37_mkM _ _ _ (⟨(rd_T39 l0 x6_1).f0.f0, (rd_T39 l0 x6_1).f0.f1⟩ : S37)); (case aB => exact (by repeat (first | (with_reducible first | exact HB.out | apply below_alloc | apply pw_below_drewN | apply below_drew1) | exact HB.out))); (case aF => exact (fun _ _ => trivial)); (case aO => exact (by (with_reducible repeat (first | apply Kd.R_alloc | apply Kd.R_drewN | apply Kd.R_drew)); exact HO_5.out)); (case aS => exact (below_size (by repeat (first | (with_reducible first | exact HB.out | apply below_alloc | apply pw_below_drewN | apply below_drew1) | exact HB.out)))); (case aL => have := LMc4.out; omega); intro v309 w8 ho hb hg hat; rw [← Ny308.out] at ho; have n0_ := Aside0.mk (Kd.S_after (ok := (fun _ => True)) (by (with_reducible repeat (first | apply Kd.S_alloc | apply Kd.S_drewN | apply Kd.S_drew)); exact Kd.S_mono HO_4.out (fun _ hk => ⟨trivial, hk⟩)) hg hat); have n1_ := Aside0.mk (hb); have n2_ := Aside0.mk (ho); clear HO_4; clear HB; clear HO_5; have HO_4 := n0_; have HB := n1_; have HO310 := n2_; clear n0_ n1_ n2_; clear ho hb hg hat; have p311 : 0 ≤ (x6_1 : Int) := of_decide_eq_true (by first | (with_reducible assumption) | assumption); have q311 : x6_1 < (l0.length : Int) := of_decide_eq_true (by first | (with_reducible assumption) | assumption); obtain ⟨ad311, e311, hx311_0, hx311_1, hx311_2⟩ := at_T39 HR0.out x6_1 p311 q311; (try rw [← Nbq5.out] at hx311_2); obtain rfl : ad307 = ad311 := (by injection e311); replace hx311_0 := (HB.out.cell (World.block_lt_of_cell? w _ hx311_0)).trans hx311_0; replace hx311_1 := (HB.out.cell (World.block_lt_of_cell? w _ hx311_1)).trans hx311_1; replace hx311_2 := (HB.out.cell (World.block_lt_of_cell? w _ hx311_2)).trans hx311_2; replace p311 := eq_true p311; replace q311 := eq_true q311; obtain ⟨Ao10, co10, eo10⟩ := Kd.R_slice HO310.out; subst eo10) | ((with_reducible refine gate_builtin (b := .append) (xs := #[.tmp 26, .tmp 28]) rfl ?_); at_builtin; refine Kd.S_append (Kd.slice 37 k37) (w0 := w) w.heap.size rfl (.tmp 26) (.tmp 28) 59 54 (.slice none 0 0) 24 rfl Try.underlying59 info54 rfl (by decide) (by omega) u4 x4_1 y308 [.slice Ao10 y308.length co10] (fun _ => True) (fun k_ => some k_ = (.slice Ao10 y308.length co10 : Value).ownBlock) rfl rfl ?aP (fun k_ hk_ => ((Kd.R_mono (ok' := fun k_ => ((fun _ => True)) k_ ∧ some k_ ≠ (u4 : Value).ownBlock) (Kd.R_apart' (HO310.out) (Kd.S_typed HO_4.out) (by decide)) (fun k_ hk => ⟨trivial, hk.2⟩))).1 k_ hk_.symm) ?aF ?aO ?aB ?aS ?aL ?_; (case aP => exact Kd.M_row (Kd.R_mono (Kd.R_tight rfl (Kd.R_mono (ok' := fun k_ => ((fun _ => True)) k_ ∧ some k_ ≠ (u4 : Value).ownBlock) (Kd.R_apart' (HO310.out) (Kd.S_typed HO_4.out) (by decide)) (fun k_ hk => ⟨trivial, hk.2⟩))) (fun _ h_ => h_))); (case aB => exact (by repeat (first | (with_reducible first | exact HB.out | apply below_alloc | apply pw_below_drewN | apply below_drew1) | exact HB.out))); (case aF => exact (fun _ _ => trivial)); (case aO => exact (by (with_reducible repeat (first | apply Kd.S_alloc | apply Kd.S_drewN | apply Kd.S_drew)); exact Kd.S_mono HO_4.out (fun k_ hk => ⟨trivial, fun e_ => hk.2 e_⟩))); (case aS => exact (below_size (by repeat (first | (with_reducible first | exact HB.out | apply below_alloc | apply pw_below_drewN | apply below_drew1) | exact HB.out)))); (case aL => have := LMc7.out; omega); intro v313 w9 ho hb hg hat; rw [← Ny312.out] at ho; have n0_ := Aside0.mk (hb); have n1_ := Aside0.mk (ho); clear HB; clear HO_4; clear HO310; have HB := n0_; have HO314 := n1_; clear n0_ n1_; clear ho hb hg hat))
                go_roundg k1
                case measure => have := HK1.out; omega
                case rel => exact ⟨(y312), (([] : List (S37))), (wrap64 (x6_1 + 1)), (by first | rfl | (simp; done) | (simp [*]; done)), H', ⟨by have := HK1.out; omega⟩, ⟨by (with_reducible repeat (first | apply Kd.S_alloc | apply Kd.S_drewN | apply Kd.S_drew)); exact Kd.S_mono HO314.out (fun _ hk => (by simp [Value.ownBlock]))⟩, ⟨by first | exact Kd.R_nil _ _ _ _ _ | exact Kd.N_nil _ _ _ _ _ | exact Kd.V_nil _ _ _ _ _ | exact Kd.Q_nil _ _ _ _ _ | exact Kd.S_nil _ _ _ _ _⟩, ⟨by repeat (first | (with_reducible first | exact HB.out | apply below_alloc | apply pw_below_drewN | apply below_drew1) | exact HB.out)⟩⟩
              · rw [if_neg c7] at H
                exact absurd H (by simp)
            · replace c6 := Bool.eq_false_iff.mpr c6
              subst c6
              have H1 : (reliquaryref12_Changes.l0 k1 l0 x4_1 y308 (wrap64 (x6_1 + 1))) = some (r1, r2) := by rw [if_neg (show ¬ (false = true) by decide)] at H; exact H
              clear H
              have H := H1
              clear H1
              have H' := Aside0.mk H
              clear H
              have p307 : 0 ≤ (x6_1 : Int) := of_decide_eq_true (by first | (with_reducible assumption) | assumption)
              have q307 : x6_1 < (l0.length : Int) := of_decide_eq_true (by first | (with_reducible assumption) | assumption)
              obtain ⟨ad307, e307, hx307_0, hx307_1, hx307_2⟩ := at_T39 HR0.out x6_1 p307 q307
              (try rw [← Nbq5.out] at hx307_2)
              cases e307
              replace hx307_0 := (HB.out.cell (World.block_lt_of_cell? w _ hx307_0)).trans hx307_0
              replace hx307_1 := (HB.out.cell (World.block_lt_of_cell? w _ hx307_1)).trans hx307_1
              replace hx307_2 := (HB.out.cell (World.block_lt_of_cell? w _ hx307_2)).trans hx307_2
              replace p307 := eq_true p307
              replace q307 := eq_true q307
              go_wp2_with (first | ((with_reducible refine gate_builtin (b := .append) (xs := #[.tmp 13, .tmp 19]) rfl ?_); at_builtin; refine Kd.R_append k37 (w0 := w) w.heap.size rfl (.tmp 13) (.tmp 19) 54 37 (.agg #[(.int .u64 0), (.string ⟨#[]⟩)]) 24 rfl Try.underlying54 info37 rfl (by decide) (by omega) u5 x5_1 (⟨(rd_T39 l0 x6_1).f0.f0, (rd_T39 l0 x6_1).f0.f1⟩ : S37) [.int .u64 ((rd_T39 l0 x6_1).f0.f0), .string ((rd_T39 l0 x6_1).f0.f1)] (fun _ => True) (fun _ => False) rfl rfl ?aP (fun _ hk => hk.elim) ?aF ?aO ?aB ?aS ?aL ?_; (case aP => exact k37_mkM _ _ _ (⟨(rd_T39 l0 x6_1).f0.f0, (rd_T39 l0 x6_1).f0.f1⟩ : S37)); (case aB => exact (by repeat (first | (with_reducible first | exact HB.out | apply below_alloc | apply pw_below_drewN | apply below_drew1) | exact HB.out))); (case aF => exact (fun _ _ => trivial)); (case aO => exact (by (with_reducible repeat (first | apply Kd.R_alloc | apply Kd.R_drewN | apply Kd.R_drew)); exact HO_5.out)); (case aS => exact (below_size (by repeat (first | (with_reducible first | exact HB.out | apply below_alloc | apply pw_below_drewN | apply below_drew1) | exact HB.out)))); (case aL => have := LMc4.out; omega); intro v309 w11 ho hb hg hat; rw [← Ny308.out] at ho; have n0_ := Aside0.mk (Kd.S_after (ok := (fun _ => True)) (by (with_reducible repeat (first | apply Kd.S_alloc | apply Kd.S_drewN | apply Kd.S_drew)); exact Kd.S_mono HO_4.out (fun _ hk => ⟨trivial, hk⟩)) hg hat); have n1_ := Aside0.mk (hb); have n2_ := Aside0.mk (ho); clear HO_4; clear HB; clear HO_5; have HO_4 := n0_; have HB := n1_; have HO310 := n2_; clear n0_ n1_ n2_; clear ho hb hg hat; have p311 : 0 ≤ (x6_1 : Int) := of_decide_eq_true (by first | (with_reducible assumption) | assumption); have q311 : x6_1 < (l0.length : Int) := of_decide_eq_true (by first | (with_reducible assumption) | assumption); obtain ⟨ad311, e311, hx311_0, hx311_1, hx311_2⟩ := at_T39 HR0.out x6_1 p311 q311; (try rw [← Nbq5.out] at hx311_2); obtain rfl : ad307 = ad311 := (by injection e311); replace hx311_0 := (HB.out.cell (World.block_lt_of_cell? w _ hx311_0)).trans hx311_0; replace hx311_1 := (HB.out.cell (World.block_lt_of_cell? w _ hx311_1)).trans hx311_1; replace hx311_2 := (HB.out.cell (World.block_lt_of_cell? w _ hx311_2)).trans hx311_2; replace p311 := eq_true p311; replace q311 := eq_true q311))
              go_roundg k1
              case measure => have := HK1.out; omega
              case rel => exact ⟨(x4_1), (y308), (wrap64 (x6_1 + 1)), (by first | rfl | (simp; done) | (simp [*]; done)), H', ⟨by have := HK1.out; omega⟩, ⟨by (with_reducible repeat (first | apply Kd.S_alloc | apply Kd.S_drewN | apply Kd.S_drew)); exact Kd.S_mono HO_4.out (fun _ hk => hk.2)⟩, ⟨by (with_reducible repeat (first | apply Kd.R_alloc | apply Kd.R_drewN | apply Kd.R_drew)); exact HO310.out⟩, ⟨by repeat (first | (with_reducible first | exact HB.out | apply below_alloc | apply pw_below_drewN | apply below_drew1) | exact HB.out)⟩⟩
          · rw [if_neg c4] at H
            exact absurd H (by simp)
        · rw [if_neg c3] at H
          exact absurd H (by simp)
      · rw [if_neg c2] at H
        have c2b0 : decide (x6_1 < (l0.length : Int)) = false := decide_eq_false c2
        clear c2
        by_cases c12 : (x5_1.length : Int) > 0
        · rw [if_pos c12] at H
          have c12b0 : decide (0 < (x5_1.length : Int)) = true := decide_eq_true c12
          have c12b1 : decide (0 < x5_1.length) = true := decide_eq_true (by omega)
          clear c12
          simp only [Option.some.injEq, Prod.mk.injEq] at H
          obtain ⟨rfl, rfl⟩ := H
          obtain ⟨Ao13, co13, eo13⟩ := Kd.R_slice HO_5.out
          subst eo13
          go_wp2
          go_ret2
          exact ⟨_, by first | rfl | (simp [errW_none, errW_some] <;> rfl) | (simp [*, errW_none, errW_some] <;> rfl), by first | exact Kd.S_nil _ _ _ _ _ | exact Kd.N_nil _ _ _ _ _ | exact Kd.V_nil _ _ _ _ _ | exact Kd.Q_nil _ _ _ _ _ | exact Kd.R_nil _ _ _ _ _, by repeat (first | (with_reducible first | exact HB.out | apply below_alloc | apply pw_below_drewN | apply below_drew1) | exact HB.out)⟩
        · rw [if_neg c12] at H
          have c12b0 : decide (0 < (x5_1.length : Int)) = false := decide_eq_false c12
          have c12b1 : decide (0 < x5_1.length) = false := decide_eq_false (by omega)
          clear c12
          simp only [Option.some.injEq, Prod.mk.injEq] at H
          obtain ⟨rfl, rfl⟩ := H
          obtain ⟨Ao14, co14, eo14⟩ := Kd.R_slice HO_5.out
          subst eo14
          go_wp2
          go_ret2
          exact ⟨_, by first | rfl | (simp [errW_none, errW_some] <;> rfl) | (simp [*, errW_none, errW_some] <;> rfl), by (with_reducible repeat (first | apply Kd.S_alloc | apply Kd.S_drewN | apply Kd.S_drew)); exact Kd.S_mono HO_4.out (fun _ hk => trivial), by repeat (first | (with_reducible first | exact HB.out | apply below_alloc | apply pw_below_drewN | apply below_drew1) | exact HB.out)⟩

end Go.Proofs.Ytjpkjakdhbnehaa.Q
end
section
-- Written by this session's own program (ext_print.py) over the kit's print.py, hand proofs among it. Not trusted: Lean checks it.
namespace Go.Proofs.Ytjpkjakdhbnehaa.Q
open Go.RowKit Go.Proofs.YtjpkjakdhbnehaaW.PrintWords Go.Proofs.YtjpkjakdhbnehaaW.PrintLast Go.Proofs.YtjpkjakdhbnehaaW.PrintMore
attribute [local go_sem] max2_int min2_int max_two min_two max_three min_three max_four min_four   -- for this text's walks alone
set_option linter.unusedVariables false
set_option linter.unusedSimpArgs false

theorem eqA37 (d : Nat) (w : World) (x0 y0 : Int) (x1 y1 : ByteArray) :
    (Op.equalIn (d + 2) 37 (.agg #[.int .u64 x0, .string x1]) (.agg #[.int .u64 y0, .string y1])).run Try.prog w = .ok (x0 == y0 && (x1.toList == y1.toList)) w := by
  refine eqA_of Try.underlying37 (by kernel_rfl) ?_
  refine eqf_cons (by rfl) (by go_simp; rfl) (by go_simp; rfl) (by go_simp) ?_
  exact eqf_last (by rfl) (by go_simp; rfl) (by go_simp; rfl) (by go_simp)
end Go.Proofs.Ytjpkjakdhbnehaa.Q
end
section
-- Written by this session's own program (ext_print.py) over the kit's print.py, hand proofs among it. Not trusted: Lean checks it.
namespace Go.Proofs.Ytjpkjakdhbnehaa.Q
open Go.RowKit Go.Proofs.YtjpkjakdhbnehaaW.PrintWords Go.Proofs.YtjpkjakdhbnehaaW.PrintLast Go.Proofs.YtjpkjakdhbnehaaW.PrintMore
attribute [local go_sem] max2_int min2_int max_two min_two max_three min_three max_four min_four   -- for this text's walks alone
set_option linter.unusedVariables false
set_option linter.unusedSimpArgs false

attribute [local go_sem high] eqA37
/-! ### reliquaryref12_Same: function 20 -/
def reliquaryref12_Same.l0 : Nat → List (S37) → List (S37) → Int → Option (Bool)
  | 0, _, _, _ => none
  | k + 1, x0, x1, x5 => if x5 < (x0.length : Int) then (if 0 ≤ x5 then (if x5 < (x1.length : Int) then (if (!(((rd_T37 x0 x5).f0) == ((rd_T37 x1 x5).f0)) || (!((((rd_T37 x0 x5).f1).toList) == (((rd_T37 x1 x5).f1).toList)))) = true then (some false) else (reliquaryref12_Same.l0 k x0 x1 (wrap64 (x5 + 1)))) else (none)) else (none)) else (some true)
def reliquaryref12_Same.f (k : Nat) (l0 : List (S37)) (l1 : List (S37)) : Option (Bool) := if (l0.length : Int) = (l1.length : Int) then (reliquaryref12_Same.l0 k l0 l1 0) else (some false)
theorem reliquaryref12_Same.mono_l : ∀ k, (∀ y0 y1 y2, LeO (reliquaryref12_Same.l0 k y0 y1 y2) (reliquaryref12_Same.l0 (k + 1) y0 y1 y2))
  | 0 => fun _ _ _ r h => by simp [reliquaryref12_Same.l0] at h
  | k + 1 => by
    have ih0 := reliquaryref12_Same.mono_l k
    · intro y0 y1 y2
      unfold reliquaryref12_Same.l0
      repeat' first
      | (with_reducible exact ih0 _ _ _)
      | (with_reducible exact LeO.refl _)
      | (with_reducible exact LeO.none _)
      | (with_reducible refine LeO.ite ?_ ?_)
      | (with_reducible refine LeO.bind ?_ (fun _ => ?_))
      | exact ih0 _ _ _
      | exact LeO.none _
      | refine LeO.ite ?_ ?_
      | refine LeO.bind ?_ (fun _ => ?_)
theorem reliquaryref12_Same.mono : ∀ a0 a1 k, LeO (reliquaryref12_Same.f k a0 a1) (reliquaryref12_Same.f (k + 1) a0 a1) := by
  intro a0 a1 k
  have ih0 := reliquaryref12_Same.mono_l k
  unfold reliquaryref12_Same.f
  repeat' first
      | (with_reducible exact ih0 _ _ _)
      | (with_reducible exact LeO.refl _)
      | (with_reducible exact LeO.none _)
      | (with_reducible refine LeO.ite ?_ ?_)
      | (with_reducible refine LeO.bind ?_ (fun _ => ?_))
      | exact ih0 _ _ _
      | exact LeO.none _
      | refine LeO.ite ?_ ?_
      | refine LeO.bind ?_ (fun _ => ?_)
set_option maxHeartbeats 8000000 in
set_option maxRecDepth 100000 in
theorem reliquaryref12_Same.calls (k : Nat) (A0 : Option Addr) (c0 : Nat) (l0 : List (S37)) (A1 : Option Addr) (c1 : Nat) (l1 : List (S37)) (r : Bool) (w : World) (hr0 : Kd.C k37 w A0 l0.length l0) (hc0 : l0.length ≤ c0) (hr1 : Kd.C k37 w A1 l1.length l1) (hc1 : l1.length ≤ c1) (h : reliquaryref12_Same.f k l0 l1 = some r) :
    Calls Try.prog 20 #[.slice A0 l0.length c0, .slice A1 l1.length c1] w fun e w' => e = .returned (.bool r) ∧ Drawn0 w w' := by
  have hu37 := Try.underlying37
  have HR0 := Aside0.mk hr0
  have HC0 := Aside0.mk hc0
  clear hr0 hc0
  have HR1 := Aside0.mk hr1
  have HC1 := Aside0.mk hc1
  clear hr1 hc1
  have H : (if (l0.length : Int) = (l1.length : Int) then (reliquaryref12_Same.l0 k l0 l1 0) else (some false)) = some r := h
  clear h
  by_cases c3 : (l0.length : Int) = (l1.length : Int)
  · rw [if_pos c3] at H
    have c3b0 : ((l0.length : Int) == (l1.length : Int)) = true := beq_iff_eq.mpr c3
    have c3b1 : ((l0.length : Int) != (l1.length : Int)) = false := bne_eq_false_iff_eq.mpr c3
    have c3b2 : (l0.length == l1.length) = true := by first | simpa using c3 | (simp at c3 ⊢; omega)
    clear c3
    have H' := Aside0.mk H
    clear H
    go_enter Try.func20, Try.ntmps20
    go_wp2
    repeat (go_quiet (fail); try go_wp2)
    go_loopg [5] k (fun kq v5 w' => ∃ (x5_1 : Int), v5 = .int .i64 x5_1 ∧ Aside0 (reliquaryref12_Same.l0 kq l0 l1 x5_1 = some r) ∧ Aside0 (kq ≤ k) ∧ Drawn0 w w')
    case atStart => exact ⟨(0), (by first | rfl | (simp; done) | (simp [*]; done)), H', ⟨Nat.le_refl _⟩, by repeat (first | exact Drawn0.refl _ | apply Drawn0.step)⟩
    case round =>
      clear H'
      try clear c1
      try clear c2
      try clear p2
      try clear c3
      try clear c3b0
      try clear c3b1
      try clear c3b2
      obtain ⟨x5_1, rfl, HA, HK1, ⟨m1, rfl⟩⟩ := hrel
      cases gk with
      | zero => exact absurd HA.out (by simp [reliquaryref12_Same.l0])
      | succ k1 =>
        have H := HA.out
        clear HA
        simp only [reliquaryref12_Same.l0] at H
        by_cases c4 : x5_1 < (l0.length : Int)
        · rw [if_pos c4] at H
          have c4b0 : decide (x5_1 < (l0.length : Int)) = true := decide_eq_true c4
          clear c4
          by_cases c5 : 0 ≤ x5_1
          · rw [if_pos c5] at H
            have c5b0 : decide (0 ≤ x5_1) = true := decide_eq_true c5
            clear c5
            by_cases c6 : x5_1 < (l1.length : Int)
            · rw [if_pos c6] at H
              have c6b0 : decide (x5_1 < (l1.length : Int)) = true := decide_eq_true c6
              clear c6
              by_cases c7 : (!(((rd_T37 l0 x5_1).f0) == ((rd_T37 l1 x5_1).f0)) || (!((((rd_T37 l0 x5_1).f1).toList) == (((rd_T37 l1 x5_1).f1).toList)))) = true
              · rw [if_pos c7] at H
                have c7b0 : (!(((rd_T37 l0 x5_1).f0) == ((rd_T37 l1 x5_1).f0)) || (!((((rd_T37 l0 x5_1).f1).toList) == (((rd_T37 l1 x5_1).f1).toList)))) = true := c7
                clear c7
                obtain rfl := Option.some.inj H
                have p315 : 0 ≤ (x5_1 : Int) := of_decide_eq_true (by first | (with_reducible assumption) | assumption)
                have q315 : x5_1 < (l0.length : Int) := of_decide_eq_true (by first | (with_reducible assumption) | assumption)
                obtain ⟨ad315, e315, hx315_0, hx315_1⟩ := at_T37 HR0.out x5_1 p315 q315
                cases e315
                replace p315 := eq_true p315
                replace q315 := eq_true q315
                have p316 : 0 ≤ (x5_1 : Int) := of_decide_eq_true (by first | (with_reducible assumption) | assumption)
                have q316 : x5_1 < (l1.length : Int) := of_decide_eq_true (by first | (with_reducible assumption) | assumption)
                obtain ⟨ad316, e316, hx316_0, hx316_1⟩ := at_T37 HR1.out x5_1 p316 q316
                cases e316
                replace p316 := eq_true p316
                replace q316 := eq_true q316
                go_wp2
                repeat (go_quiet (fail); try go_wp2)
                go_ret
                exact ⟨by first | rfl | (simp; done) | (simp [*]; done), by repeat (first | exact Drawn0.refl _ | apply Drawn0.step)⟩
              · rw [if_neg c7] at H
                have c7b0 : (!(((rd_T37 l0 x5_1).f0) == ((rd_T37 l1 x5_1).f0)) || (!((((rd_T37 l0 x5_1).f1).toList) == (((rd_T37 l1 x5_1).f1).toList)))) = false := by simpa using c7
                clear c7
                have H' := Aside0.mk H
                clear H
                have p315 : 0 ≤ (x5_1 : Int) := of_decide_eq_true (by first | (with_reducible assumption) | assumption)
                have q315 : x5_1 < (l0.length : Int) := of_decide_eq_true (by first | (with_reducible assumption) | assumption)
                obtain ⟨ad315, e315, hx315_0, hx315_1⟩ := at_T37 HR0.out x5_1 p315 q315
                cases e315
                replace p315 := eq_true p315
                replace q315 := eq_true q315
                have p316 : 0 ≤ (x5_1 : Int) := of_decide_eq_true (by first | (with_reducible assumption) | assumption)
                have q316 : x5_1 < (l1.length : Int) := of_decide_eq_true (by first | (with_reducible assumption) | assumption)
                obtain ⟨ad316, e316, hx316_0, hx316_1⟩ := at_T37 HR1.out x5_1 p316 q316
                cases e316
                replace p316 := eq_true p316
                replace q316 := eq_true q316
                go_wp2
                repeat (go_quiet (fail); try go_wp2)
                go_roundg k1
                case measure => have := HK1.out; omega
                case rel => exact ⟨(wrap64 (x5_1 + 1)), (by first | rfl | (simp; done) | (simp [*]; done)), H', ⟨by have := HK1.out; omega⟩, by repeat (first | exact Drawn0.refl _ | apply Drawn0.step)⟩
            · rw [if_neg c6] at H
              exact absurd H (by simp)
          · rw [if_neg c5] at H
            exact absurd H (by simp)
        · rw [if_neg c4] at H
          have c4b0 : decide (x5_1 < (l0.length : Int)) = false := decide_eq_false c4
          clear c4
          obtain rfl := Option.some.inj H
          go_wp2
          repeat (go_quiet (fail); try go_wp2)
          go_ret
          exact ⟨by first | rfl | (simp; done) | (simp [*]; done), by repeat (first | exact Drawn0.refl _ | apply Drawn0.step)⟩
  · rw [if_neg c3] at H
    have c3b0 : ((l0.length : Int) == (l1.length : Int)) = false := beq_eq_false_iff_ne.mpr c3
    have c3b1 : ((l0.length : Int) != (l1.length : Int)) = true := bne_iff_ne.mpr c3
    have c3b2 : (l0.length == l1.length) = false := by first | simpa using c3 | (simp at c3 ⊢; omega)
    obtain rfl := Option.some.inj H
    go_enter Try.func20, Try.ntmps20
    go_wp2
    repeat (go_quiet (fail); try go_wp2)
    go_ret
    exact ⟨by first | rfl | (simp; done) | (simp [*]; done), by repeat (first | exact Drawn0.refl _ | apply Drawn0.step)⟩

end Go.Proofs.Ytjpkjakdhbnehaa.Q
end
section
-- Written by this session's own program (ext_print.py) over the kit's print.py, hand proofs among it. Not trusted: Lean checks it.
namespace Go.Proofs.Ytjpkjakdhbnehaa.Q
open Go.RowKit Go.Proofs.YtjpkjakdhbnehaaW.PrintWords Go.Proofs.YtjpkjakdhbnehaaW.PrintLast Go.Proofs.YtjpkjakdhbnehaaW.PrintMore
attribute [local go_sem] max2_int min2_int max_two min_two max_three min_three max_four min_four   -- for this text's walks alone
set_option linter.unusedVariables false
set_option linter.unusedSimpArgs false

-- EXT record_Changes: function 18
/-! ### record_Changes: function 18 -/
-- IMPORT HChgW
def record_Changes.f (l0 : List (S30)) : Option (List (List (S25)) × Int) := if chgOk l0 = true then some (chgV l0) else none
theorem record_Changes.calls (A0 : Option Addr) (c0 : Nat) (l0 : List (S30)) (r1 : List (List (S25))) (r2 : Int) (w : World) (hr0 : Kd.C k30 w A0 l0.length l0) (hc0 : l0.length ≤ c0) (h : record_Changes.f l0 = some (r1, r2)) :
    Calls Try.prog 18 #[.slice A0 l0.length c0] w fun e w' => ∃ v0_ : Value, e = .returned (.tuple #[v0_, .int .i64 r2]) ∧ Kd.N (Kd.slice 25 k25) 27 w' w.heap.size (fun k => True ∧ w.heap.size ≤ k ∧ True) v0_ r1 ∧ Below w.heap.size w w' := by
  unfold record_Changes.f at h
  by_cases hok : chgOk l0 = true
  · rw [if_pos hok] at h
    exact chg.calls A0 c0 l0 w hr0 hc0 hok r1 r2 (Option.some.inj h)
  · rw [if_neg hok] at h
    cases h

end Go.Proofs.Ytjpkjakdhbnehaa.Q
end
section
/- Records of changes, and changes of records, in plain words. -/
namespace Go.Proofs.Ytjpkjakdhbnehaa.Pure
open Go.RowKit Go.Proofs.Ytjpkjakdhbnehaa.Q Go.Proofs.YtjpkjakdhbnehaaW.PrintWords Go.Proofs.YtjpkjakdhbnehaaW.PrintLast Go.Proofs.YtjpkjakdhbnehaaW.PrintMore
set_option linter.unusedVariables false
set_option linter.unusedSimpArgs false
def m25 (x : S25) : S37 := ⟨x.f0, strOfNums x.f1⟩
def m30 (x : S30) : S39 := ⟨m25 x.f0, x.f1⟩
theorem rd25 (l : List S25) (i : Nat) (h : i < l.length) : rd_T25 l (i : Int) = l[i] := by simp [rd_T25, List.getD_eq_getElem?_getD, List.getElem?_eq_getElem h]
theorem rd37 (l : List S37) (i : Nat) (h : i < l.length) : rd_T37 l (i : Int) = l[i] := by simp [rd_T37, List.getD_eq_getElem?_getD, List.getElem?_eq_getElem h]
theorem rd39 (l : List S39) (i : Nat) (h : i < l.length) : rd_T39 l (i : Int) = l[i] := by simp [rd_T39, List.getD_eq_getElem?_getD, List.getElem?_eq_getElem h]
theorem rd30 (l : List S30) (i : Nat) (h : i < l.length) : rd_T30 l (i : Int) = l[i] := by simp [rd_T30, List.getD_eq_getElem?_getD, List.getElem?_eq_getElem h]
/-! modelOf -/
theorem modelOf_loop (L : List S25) (hL : L.length ≤ 100000) (d : Nat) : ∀ (k i : Nat) (acc : List S37), L.length - i = d → i ≤ L.length → acc.length = i → d < k →
    reliquarylaw12_modelOf.l0 k L acc i = some (acc ++ (L.drop i).map m25) := by
  induction d with
  | zero =>
    intro k i acc hd hi ha hk
    obtain ⟨k, rfl⟩ : ∃ m, k = m + 1 := ⟨k - 1, by omega⟩
    simp only [reliquarylaw12_modelOf.l0]
    rw [if_neg (by omega), List.drop_eq_nil_of_le (by omega), List.map_nil, List.append_nil]
  | succ d ih =>
    intro k i acc hd hi ha hk
    obtain ⟨k, rfl⟩ : ∃ m, k = m + 1 := ⟨k - 1, by omega⟩
    have hil : i < L.length := by omega
    simp only [reliquarylaw12_modelOf.l0]
    rw [if_pos (by omega), if_pos (by omega), if_pos (by omega), rd25 L i hil, wrap64_id (by omega) (by omega), List.drop_eq_getElem_cons hil, List.map_cons]
    have := ih k (i + 1) (acc ++ [m25 L[i]]) (by omega) (by omega) (by rw [List.length_append, ha]; rfl) (by omega)
    rw [List.append_assoc] at this
    exact this
theorem modelOf_eq (k : Nat) (L : List S25) (hL : L.length ≤ 100000) (hk : L.length < k) : reliquarylaw12_modelOf.f k L = some (L.map m25) := by
  unfold reliquarylaw12_modelOf.f
  have := modelOf_loop L hL L.length k 0 [] (by omega) (by omega) rfl hk
  simpa using this
/-! Of -/
def oddL (L : List S25) : Bool := L.any fun x => decide (x.f1.length ≠ 160)
def recsAt (n : Nat) : Nat → List S25 → List S30
  | _, [] => []
  | i, x :: l => ⟨x, decide (i + 1 = n)⟩ :: recsAt n (i + 1) l
def ofV (L : List S25) : List S30 × Int := if L.length = 0 ∨ oddL L = true then ([], 1) else (recsAt L.length 0 L, 0)
theorem recsAt_length (n : Nat) : ∀ (i : Nat) (l : List S25), (recsAt n i l).length = l.length
  | _, [] => rfl
  | i, x :: l => by rw [recsAt, List.length_cons, recsAt_length n (i + 1) l, List.length_cons]
theorem odd_loop (L : List S25) (hL : L.length ≤ 100000) (d : Nat) : ∀ (k i : Nat), L.length - i = d → i ≤ L.length → d < k →
    (api_Image_36_at_record_Of_lit1.l0 k L (L.length : Int) i).bind (fun t => some (decide (t ≥ 0))) = some (oddL (L.drop i)) := by
  induction d with
  | zero =>
    intro k i hd hi hk
    obtain ⟨k, rfl⟩ : ∃ m, k = m + 1 := ⟨k - 1, by omega⟩
    simp only [api_Image_36_at_record_Of_lit1.l0]
    rw [if_neg (by omega), List.drop_eq_nil_of_le (by omega)]
    rfl
  | succ d ih =>
    intro k i hd hi hk
    obtain ⟨k, rfl⟩ : ∃ m, k = m + 1 := ⟨k - 1, by omega⟩
    have hil : i < L.length := by omega
    simp only [api_Image_36_at_record_Of_lit1.l0, record_Of_lit1.f, Option.bind_some]
    rw [if_pos (by omega), if_pos (by omega), if_pos (by omega), rd25 L i hil, List.drop_eq_getElem_cons hil]
    unfold oddL
    rw [List.any_cons]
    by_cases h : (L[i].f1.length : Int) = 160
    · rw [bne_eq_false_iff_eq.mpr h, if_neg (by simp), wrap64_id (by omega) (by omega), decide_eq_false (show ¬ (L[i].f1.length ≠ 160) from fun z => z (by omega)), Bool.false_or]
      exact ih k (i + 1) (by omega) (by omega) (by omega)
    · rw [bne_iff_ne.mpr h, if_pos rfl, Option.bind_some, decide_eq_true (show L[i].f1.length ≠ 160 by omega), Bool.true_or, decide_eq_true (by omega)]
theorem odd_eq (k : Nat) (L : List S25) (hL : L.length ≤ 100000) (hk : L.length < k) : api_Image_31_at_record_Of_lit1.f k L = some (oddL L) := by
  unfold api_Image_31_at_record_Of_lit1.f api_Image_36_at_record_Of_lit1.f
  have := odd_loop L hL L.length k 0 (by omega) (by omega) hk
  simpa using this
theorem of_loop (L : List S25) (hL : L.length ≤ 100000) (ho : oddL L = false) (d : Nat) : ∀ (k i : Nat) (acc : List S30), L.length - i = d → i ≤ L.length → acc.length = i → d < k →
    record_Of.l0 k L acc L (L.length : Int) i = some (acc ++ recsAt L.length i (L.drop i), 0) := by
  induction d with
  | zero =>
    intro k i acc hd hi ha hk
    obtain ⟨k, rfl⟩ : ∃ m, k = m + 1 := ⟨k - 1, by omega⟩
    simp only [record_Of.l0]
    rw [if_neg (by omega), List.drop_eq_nil_of_le (by omega), recsAt, List.append_nil]
  | succ d ih =>
    intro k i acc hd hi ha hk
    obtain ⟨k, rfl⟩ : ∃ m, k = m + 1 := ⟨k - 1, by omega⟩
    have hil : i < L.length := by omega
    have hx : L[i].f1.length = 160 := by
      have := List.any_eq_false.1 ho L[i] (List.getElem_mem _)
      simpa using this
    simp only [record_Of.l0]
    rw [if_pos (by omega), if_pos (by omega), if_pos (by omega), rd25 L i hil, clone_eq _ (by omega), Option.bind_some, if_pos (by omega), wrap64_id (n := (i : Int) + 1) (by omega) (by omega), wrap64_id (n := (L.length : Int) - 1) (by omega) (by omega), List.drop_eq_getElem_cons hil, recsAt]
    have hb : ((i : Int) == (L.length : Int) - 1) = decide (i + 1 = L.length) := by
      by_cases h : i + 1 = L.length
      · rw [decide_eq_true h]; exact beq_iff_eq.mpr (by omega)
      · rw [decide_eq_false h]; exact beq_eq_false_iff_ne.mpr (by omega)
    rw [hb]
    have := ih k (i + 1) (acc ++ [⟨L[i], decide (i + 1 = L.length)⟩]) (by omega) (by omega) (by rw [List.length_append, ha]; rfl) (by omega)
    rw [List.append_assoc] at this
    exact this
theorem record_Of_eq (k : Nat) (L : List S25) (hL : L.length ≤ 100000) (hk : L.length + 2 ≤ k) : record_Of.f k L = some (ofV L) := by
  obtain ⟨k, rfl⟩ : ∃ m, k = m + 1 := ⟨k - 1, by omega⟩
  unfold record_Of.f ofV
  by_cases h0 : L.length = 0
  · rw [if_pos (by omega), if_pos (.inl h0)]
    simp only [record_Of.j0]
    rfl
  · rw [if_neg (by omega), odd_eq (k + 1) L hL (by omega), Option.bind_some]
    simp only [record_Of.j0]
    by_cases h1 : oddL L = true
    · rw [if_pos h1, if_pos (.inr h1)]
    · rw [if_neg h1, if_neg (fun z => z.elim h0 h1)]
      have := of_loop L hL (Bool.eq_false_iff.mpr h1) L.length k 0 [] (by omega) (by omega) rfl (by omega)
      simpa using this
theorem refOf_loop (L : List S25) (hL : L.length ≤ 100000) (d : Nat) : ∀ (k i : Nat) (acc : List S39), L.length - i = d → i ≤ L.length → acc.length = i → d < k →
    reliquaryref12_Of.l0 k (L.map m25) acc i = some (if oddL (L.drop i) = true then ([], 1) else (acc ++ (recsAt L.length i (L.drop i)).map m30, 0)) := by
  induction d with
  | zero =>
    intro k i acc hd hi ha hk
    obtain ⟨k, rfl⟩ : ∃ m, k = m + 1 := ⟨k - 1, by omega⟩
    simp only [reliquaryref12_Of.l0]
    rw [List.length_map, if_neg (by omega), List.drop_eq_nil_of_le (by omega), recsAt, List.map_nil, List.append_nil, if_neg (by decide)]
  | succ d ih =>
    intro k i acc hd hi ha hk
    obtain ⟨k, rfl⟩ : ∃ m, k = m + 1 := ⟨k - 1, by omega⟩
    have hil : i < L.length := by omega
    have hr : rd_T37 (L.map m25) (i : Int) = m25 L[i] := by rw [rd37 _ i (by rw [List.length_map]; exact hil), List.getElem_map]
    have hs : ((m25 L[i]).f1.size : Int) = (L[i].f1.length : Int) := by rw [show (m25 L[i]).f1 = strOfNums L[i].f1 from rfl, strOfNums_size]
    simp only [reliquaryref12_Of.l0]
    rw [List.length_map, if_pos (by omega), if_pos (by omega), hr, hs, List.drop_eq_getElem_cons hil]
    have hodd : oddL (L[i] :: L.drop (i + 1)) = (decide (L[i].f1.length ≠ 160) || oddL (L.drop (i + 1))) := by unfold oddL; rw [List.any_cons]
    rw [hodd]
    by_cases h : L[i].f1.length = 160
    · rw [if_pos (by omega), if_pos (by omega), wrap64_id (by omega) (by omega), decide_eq_false (by simpa using h), Bool.false_or, recsAt, List.map_cons]
      have hb : ((i : Int) + 1 == (L.length : Int)) = decide (i + 1 = L.length) := by
        by_cases h : i + 1 = L.length
        · rw [decide_eq_true h]; exact beq_iff_eq.mpr (by omega)
        · rw [decide_eq_false h]; exact beq_eq_false_iff_ne.mpr (by omega)
      rw [hb]
      have := ih k (i + 1) (acc ++ [m30 ⟨L[i], decide (i + 1 = L.length)⟩]) (by omega) (by omega) (by rw [List.length_append, ha]; rfl) (by omega)
      rw [List.append_assoc] at this
      exact this
    · rw [if_neg (by omega), decide_eq_true h, Bool.true_or, if_pos rfl]
theorem refOf_eq (k : Nat) (L : List S25) (hL : L.length ≤ 100000) (hk : L.length < k) : reliquaryref12_Of.f k (L.map m25) = some ((ofV L).1.map m30, (ofV L).2) := by
  unfold reliquaryref12_Of.f ofV
  rw [List.length_map]
  by_cases h0 : L.length = 0
  · rw [if_pos (by omega), if_pos (.inl h0)]
    rfl
  · rw [if_neg (by omega)]
    have := refOf_loop L hL L.length k 0 [] (by omega) (by omega) rfl hk
    rw [show ((0 : Nat) : Int) = 0 from rfl, List.drop_zero, List.nil_append] at this
    rw [this]
    by_cases h1 : oddL L = true
    · rw [if_pos h1, if_pos (.inr h1)]
      rfl
    · rw [if_neg h1, if_neg (fun z => z.elim h0 h1)]
/-! Changes -/
theorem chg_nil_iff (l : List S30) (i : Nat) (hi : i < l.length) : (chgAt l (i + 1)).1 = [] ↔ l[i].f1 = true := by
  rw [chgAt_succ l i hi, rd30 l i hi]
  unfold chgStep
  by_cases h : l[i].f1 = true
  · rw [if_pos h]; exact ⟨fun _ => h, fun _ => rfl⟩
  · rw [if_neg h]; exact ⟨fun z => by simp at z, fun z => absurd z h⟩
theorem now_length (l : List S30) : ∀ i, i ≤ l.length → (chgAt l i).1.length ≤ i
  | 0, _ => by simp [chgAt]
  | i + 1, h => by
    have ih := now_length l i (by omega)
    rw [chgAt_succ l i (by omega)]
    unfold chgStep
    by_cases c : (rd_T30 l (i : Int)).f1 = true
    · rw [if_pos c]; simp
    · rw [if_neg c, List.length_append, List.length_singleton]; omega
theorem refChanges_loop (l : List S30) (hl : l.length ≤ 100000) (d : Nat) : ∀ (k i : Nat), l.length - i = d → i ≤ l.length → d < k →
    reliquaryref12_Changes.l0 k (l.map m30) ((chgAt l i).2.map (List.map m25)) ((chgAt l i).1.map m25) i = some (if (chgAt l l.length).1 = [] then ((chgAt l l.length).2.map (List.map m25), 0) else ([], 11)) := by
  induction d with
  | zero =>
    intro k i hd hi hk
    obtain ⟨k, rfl⟩ : ∃ m, k = m + 1 := ⟨k - 1, by omega⟩
    have : i = l.length := by omega
    subst this
    simp only [reliquaryref12_Changes.l0]
    rw [List.length_map, if_neg (by omega), List.length_map]
    by_cases h : (chgAt l l.length).1 = []
    · rw [if_neg (by rw [h]; simp), if_pos h]
    · rw [if_pos (by have := List.length_pos_iff.2 h; omega), if_neg h]
  | succ d ih =>
    intro k i hd hi hk
    obtain ⟨k, rfl⟩ : ∃ m, k = m + 1 := ⟨k - 1, by omega⟩
    have hil : i < l.length := by omega
    have hr : rd_T39 (l.map m30) (i : Int) = m30 l[i] := by rw [rd39 _ i (by rw [List.length_map]; exact hil), List.getElem_map]
    have h1 := now_length l i hi
    have h2 := outs_length l i hi
    simp only [reliquaryref12_Changes.l0]
    rw [List.length_map, if_pos (by omega), if_pos (by omega), if_pos (by rw [List.length_map]; omega), Option.bind_some, hr, wrap64_id (by omega) (by omega)]
    have ih2 := ih k (i + 1) (by omega) (by omega) (by omega)
    rw [← ih2, chgAt_succ l i hil, rd30 l i hil]
    unfold chgStep
    by_cases c : l[i].f1 = true
    · rw [if_pos (show (m30 l[i]).f1 = true from c), if_pos (by rw [List.length_map]; omega), if_pos c, List.map_append, List.map_cons, List.map_nil, List.map_append, List.map_cons, List.map_nil]
      rfl
    · rw [if_neg (show ¬ (m30 l[i]).f1 = true from c), if_neg c, List.map_append, List.map_cons, List.map_nil]
      rfl
theorem refChanges_eq (k : Nat) (l : List S30) (hl : l.length ≤ 100000) (hk : l.length < k) : reliquaryref12_Changes.f k (l.map m30) = some ((chgV l).1.map (List.map m25), (chgV l).2) := by
  unfold reliquaryref12_Changes.f
  have h := refChanges_loop l hl l.length k 0 (by omega) (by omega) hk
  have e0 : chgAt l 0 = ([], []) := rfl
  rw [e0] at h
  have h' : reliquaryref12_Changes.l0 k (l.map m30) [] [] 0 = _ := h
  rw [h']
  unfold chgV
  by_cases h0 : 0 < l.length
  · have e1 : rd_T30 l ((l.length : Int) - 1) = l[l.length - 1] := by rw [← rd30 l (l.length - 1) (by omega)]; congr 1; omega
    have h3 := chg_nil_iff l (l.length - 1) (by omega)
    rw [show l.length - 1 + 1 = l.length by omega] at h3
    rw [e1]
    by_cases c : l[l.length - 1].f1 = true
    · rw [if_pos (h3.2 c), if_neg (by rw [c]; rintro ⟨_, z⟩; cases z)]
    · rw [if_neg (fun z => c (h3.1 z)), if_pos ⟨h0, Bool.eq_false_iff.mpr c⟩]
      rfl
  · have hn : l = [] := List.eq_nil_of_length_eq_zero (by omega)
    subst hn
    rfl
/-! Same -/
theorem same_loop (L : List S37) (hL : L.length ≤ 100000) (d : Nat) : ∀ (k i : Nat), L.length - i = d → i ≤ L.length → d < k → reliquaryref12_Same.l0 k L L i = some true := by
  induction d with
  | zero =>
    intro k i hd hi hk
    obtain ⟨k, rfl⟩ : ∃ m, k = m + 1 := ⟨k - 1, by omega⟩
    simp only [reliquaryref12_Same.l0]
    rw [if_neg (by omega)]
  | succ d ih =>
    intro k i hd hi hk
    obtain ⟨k, rfl⟩ : ∃ m, k = m + 1 := ⟨k - 1, by omega⟩
    simp only [reliquaryref12_Same.l0]
    rw [if_pos (by omega), if_pos (by omega), if_pos (by omega), if_neg (by simp), wrap64_id (by omega) (by omega)]
    exact ih k (i + 1) (by omega) (by omega) (by omega)
theorem same_eq (k : Nat) (L : List S37) (hL : L.length ≤ 100000) (hk : L.length < k) : reliquaryref12_Same.f k L L = some true := by
  unfold reliquaryref12_Same.f
  rw [if_pos rfl]
  exact same_loop L hL L.length k 0 (by omega) (by omega) hk
/-- Every change told is no longer than all of it. -/
theorem chg_member (l : List S30) : ∀ i, i ≤ l.length → ∀ c ∈ (chgAt l i).2, c.length ≤ i
  | 0, _, c, hc => by simp [chgAt] at hc
  | i + 1, h, c, hc => by
    have ih := chg_member l i (by omega)
    have hn := now_length l i (by omega)
    rw [chgAt_succ l i (by omega)] at hc
    unfold chgStep at hc
    by_cases e : (rd_T30 l (i : Int)).f1 = true
    · rw [if_pos e] at hc
      rcases List.mem_append.1 hc with hc | hc
      · have := ih c hc; omega
      · rw [List.mem_singleton.1 hc, List.length_append, List.length_singleton]; omega
    · rw [if_neg e] at hc
      have := ih c hc; omega
theorem chgV_member (l : List S30) : ∀ c ∈ (chgV l).1, c.length ≤ l.length := by
  intro c hc
  unfold chgV at hc
  split at hc
  · cases hc
  · exact chg_member l l.length (Nat.le_refl _) c hc
theorem chgV_length (l : List S30) : (chgV l).1.length ≤ l.length := by
  unfold chgV
  split
  · exact Nat.zero_le _
  · exact outs_length l l.length (Nat.le_refl _)
theorem chgOk_of (l : List S30) (h : l.length ≤ 100000) (hb : ∀ x ∈ l, x.f0.f1.length ≤ 100000) : chgOk l = true := by
  unfold chgOk
  rw [Bool.and_eq_true, decide_eq_true_eq, List.all_eq_true]
  exact ⟨h, fun x hx => by simpa using hb x hx⟩
theorem recChanges_eq (l : List S30) (h : l.length ≤ 100000) (hb : ∀ x ∈ l, x.f0.f1.length ≤ 100000) : record_Changes.f l = some (chgV l) := by
  unfold record_Changes.f
  rw [if_pos (chgOk_of l h hb)]
/-- Images that are told whole. -/
theorem imgs_mem (short : Bool) : ∀ (j : Nat) (l : List S25), ∀ x ∈ imgs short j l, x.f1.length ≤ 160
  | _, [], x, hx => by simp [imgs] at hx
  | j, y :: l, x, hx => by
    rw [imgs] at hx
    rcases List.mem_cons.1 hx with rfl | hx
    · unfold imgV padV
      simp only [List.length_append, List.length_take, List.length_replicate]
      split <;> omega
    · exact imgs_mem short (j + 1) l x hx
end Go.Proofs.Ytjpkjakdhbnehaa.Pure
end
section
/- RecordBack: the records of changes, one behind the other, are these changes. -/
namespace Go.Proofs.Ytjpkjakdhbnehaa.Pure
open Go.RowKit Go.Proofs.Ytjpkjakdhbnehaa.Q Go.Proofs.YtjpkjakdhbnehaaW.PrintWords Go.Proofs.YtjpkjakdhbnehaaW.PrintLast Go.Proofs.YtjpkjakdhbnehaaW.PrintMore
set_option linter.unusedVariables false
set_option linter.unusedSimpArgs false
def imgOf (l : List S25) : List S25 := imgs false 0 l
def recOf (l : List S25) : List S30 := recsAt (imgOf l).length 0 (imgOf l)
def recsTo (ls : List (List S25)) (i : Nat) : List S30 := (ls.take i).flatMap recOf
def wantTo (ls : List (List S25)) (i : Nat) : List (List S37) := (ls.take i).map fun l => (imgOf l).map m25
theorem imgOf_length (l : List S25) : (imgOf l).length = l.length := imgs_length false 0 l
theorem recOf_length (l : List S25) : (recOf l).length = l.length := by unfold recOf; rw [recsAt_length, imgOf_length]
theorem imgs_all (l : List S25) : ∀ (j : Nat), ∀ x ∈ imgs false j l, x.f1.length = 160 := by
  induction l with
  | nil => intro j x hx; simp [imgs] at hx
  | cons y l ih =>
    intro j x hx
    rw [imgs] at hx
    rcases List.mem_cons.1 hx with rfl | hx
    · unfold imgV padV
      simp
      omega
    · exact ih (j + 1) x hx
theorem oddL_imgOf (l : List S25) : oddL (imgOf l) = false := by
  unfold oddL
  rw [List.any_eq_false]
  intro x hx
  have := imgs_all l 0 x hx
  simpa using this
theorem ofV_imgOf (l : List S25) : ofV (imgOf l) = if l.length = 0 then ([], 1) else (recOf l, 0) := by
  unfold ofV
  rw [imgOf_length, oddL_imgOf]
  by_cases h : l.length = 0
  · rw [if_pos (.inl h), if_pos h]
  · rw [if_neg (fun z => z.elim h (by simp)), if_neg h]
    unfold recOf
    rw [imgOf_length]
theorem recsAt_mem (n : Nat) : ∀ (l : List S25) (i : Nat), ∀ y ∈ recsAt n i l, y.f0 ∈ l
  | [], i, y, hy => by simp [recsAt] at hy
  | x :: l, i, y, hy => by
    rw [recsAt] at hy
    rcases List.mem_cons.1 hy with rfl | hy
    · exact List.mem_cons_self
    · exact List.mem_cons_of_mem _ (recsAt_mem n l (i + 1) y hy)
theorem recOf_row (l : List S25) : ∀ y ∈ recOf l, y.f0.f1.length = 160 := fun y hy => imgs_all l 0 _ (recsAt_mem _ _ _ y hy)
theorem recsTo_row (ls : List (List S25)) (i : Nat) : ∀ y ∈ recsTo ls i, y.f0.f1.length = 160 := by
  intro y hy
  obtain ⟨l, _, h⟩ := List.mem_flatMap.1 hy
  exact recOf_row l y h
theorem recsTo_succ (ls : List (List S25)) (i : Nat) (hi : i < ls.length) : recsTo ls (i + 1) = recsTo ls i ++ recOf ls[i] := by
  unfold recsTo
  rw [List.take_succ_eq_append_getElem hi, List.flatMap_append]
  simp
theorem wantTo_succ (ls : List (List S25)) (i : Nat) (hi : i < ls.length) : wantTo ls (i + 1) = wantTo ls i ++ [(imgOf ls[i]).map m25] := by
  unfold wantTo
  rw [List.take_succ_eq_append_getElem hi, List.map_append]
  rfl
theorem wantTo_length (ls : List (List S25)) (i : Nat) (hi : i ≤ ls.length) : (wantTo ls i).length = i := by
  unfold wantTo
  rw [List.length_map, List.length_take]
  omega
theorem recsTo_le (ls : List (List S25)) : ∀ (i : Nat), i ≤ ls.length → (∀ j (h : j < ls.length), j < i → ls[j].length ≤ 8) → (recsTo ls i).length ≤ 8 * i
  | 0, _, _ => by simp [recsTo]
  | i + 1, hi, h => by
    have := recsTo_le ls i (by omega) (fun j hj hji => h j hj (by omega))
    have h2 := h i (by omega) (by omega)
    rw [recsTo_succ ls i (by omega), List.length_append, recOf_length]
    omega
theorem fold_recs (m : Nat) : ∀ (x : List S25) (i : Nat) (now : List S25) (outs : List (List S25)), i + x.length = m → (recsAt m i x).foldl chgStep (now, outs) = if x = [] then (now, outs) else ([], outs ++ [now ++ x])
  | [], i, now, outs, _ => rfl
  | y :: x, i, now, outs, h => by
    rw [recsAt, List.foldl_cons, if_neg (by simp)]
    rw [List.length_cons] at h
    unfold chgStep
    by_cases e : i + 1 = m
    · have hx : x = [] := List.eq_nil_of_length_eq_zero (by omega)
      subst hx
      rw [if_pos (by simpa using e)]
      rfl
    · rw [if_neg (by simpa using e)]
      have hx : x ≠ [] := fun hx => by rw [hx] at h; simp at h; omega
      have := fold_recs m x (i + 1) (now ++ [y]) outs (by omega)
      rw [if_neg hx, List.append_assoc] at this
      exact this
theorem fold_all : ∀ (ls : List (List S25)) (outs : List (List S25)), (∀ l ∈ ls, l.length ≠ 0) → (ls.flatMap recOf).foldl chgStep ([], outs) = ([], outs ++ ls.map imgOf)
  | [], outs, _ => by simp
  | l :: ls, outs, h => by
    have h0 := h l List.mem_cons_self
    rw [List.flatMap_cons, List.foldl_append]
    unfold recOf
    rw [fold_recs (imgOf l).length (imgOf l) 0 [] outs (by omega), if_neg (fun e => h0 (by rw [← imgOf_length, e]; rfl))]
    have := fold_all ls (outs ++ [imgOf l]) (fun x hx => h x (List.mem_cons_of_mem _ hx))
    rw [List.nil_append]
    unfold recOf at this
    rw [this, List.map_cons, List.append_assoc]
    rfl
theorem chgV_back (ls : List (List S25)) (h : ∀ l ∈ ls, l.length ≠ 0) : chgV (recsTo ls ls.length) = (ls.map imgOf, 0) := by
  have h1 : chgAt (recsTo ls ls.length) (recsTo ls ls.length).length = ([], ls.map imgOf) := by
    unfold chgAt
    rw [List.take_length]
    unfold recsTo
    rw [List.take_length]
    have := fold_all ls [] h
    rwa [List.nil_append] at this
  obtain ⟨r, hr⟩ : ∃ r, recsTo ls ls.length = r := ⟨_, rfl⟩
  rw [hr] at h1 ⊢
  unfold chgV
  rw [h1]
  by_cases h0 : 0 < r.length
  · have e1 : rd_T30 r ((r.length : Int) - 1) = r[r.length - 1] := by rw [← rd30 r (r.length - 1) (by omega)]; congr 1; omega
    have h3 := chg_nil_iff r (r.length - 1) (by omega)
    rw [show r.length - 1 + 1 = r.length by omega, h1] at h3
    rw [e1, if_neg (by rw [h3.1 rfl]; rintro ⟨_, z⟩; cases z)]
  · rw [if_neg (fun z => h0 z.1)]
end Go.Proofs.Ytjpkjakdhbnehaa.Pure
end
section
/- RecordBack: its walk. -/
namespace Go.Proofs.Ytjpkjakdhbnehaa.Q
open Go.RowKit Go.Proofs.YtjpkjakdhbnehaaW.PrintWords Go.Proofs.YtjpkjakdhbnehaaW.PrintLast Go.Proofs.YtjpkjakdhbnehaaW.PrintMore Go.Proofs.Ytjpkjakdhbnehaa.Pure
attribute [local go_sem] max2_int min2_int max_two min_two max_three min_three max_four min_four
set_option linter.unusedVariables false
set_option linter.unusedSimpArgs false
/-- All records so far, and the changes wanted. -/
structure BI (w w' : World) (v4 v5 : Value) (rs : List S30) (ws : List (List S37)) : Prop where
  below : Below w.heap.size w w'
  all : Kd.R k30 30 w' w.heap.size (fun _ => True) v4 rs
  want : Kd.R (Kd.slice 37 k37) 54 w' w.heap.size (fun _ => True) v5 ws
theorem BI.go {w w1 w2 : World} {v4 v5 : Value} {rs : List S30} {ws : List (List S37)} (h : BI w w1 v4 v5 rs ws) (hb : Below w1.heap.size w1 w2) : BI w w2 v4 v5 rs ws :=
  ⟨h.below.trans (hb.mono h.below.size), Kd.R_below h.all hb, Kd.R_below h.want hb⟩
theorem BI.start (w : World) : BI w w (.slice none 0 0) (.slice none 0 0) [] [] := ⟨Below.refl _ _, Kd.R_nil _ _ _ _ _, Kd.R_nil _ _ _ _ _⟩
theorem BI.shape {w w' : World} {v4 v5 : Value} {rs : List S30} {ws : List (List S37)} (h : BI w w' v4 v5 rs ws) : (∃ A c, v4 = .slice A rs.length c) ∧ ∃ A c, v5 = .slice A ws.length c := ⟨Kd.R_slice h.all, Kd.R_slice h.want⟩
/-- Another row has been written, whose block is of another type. -/
theorem R_other {α : Type} {d : Kd α} {e : Nat} {w w1 : World} {base base' : Nat} {v u : Value} {xs : List α} {t sz n : Nat} {ys : List Value} (h : d.R e w base (fun _ => True) v xs) (hu : w.ownsRow base' t sz u n ys) (ht : ∀ q, q ∈ e :: d.E → q ≠ t) (hg : w.grownBy w1 u.ownBlock) : d.R e w1 base (fun _ => True) v xs := by
  cases hb : u.ownBlock with
  | none => exact Kd.R_grown h hg (fun k _ he => by rw [hb] at he; cases he)
  | some g =>
    obtain ⟨cells, hc⟩ := own_typed hu g hb
    exact Kd.R_mono (Kd.R_grown (Kd.R_types h hc ht) hg (fun k hk he => hk.2 (by rw [hb] at he; injection he))) (fun _ _ => trivial)
theorem BI.addAll {w W w1 : World} {v4 v5 v1 : Value} {rs rs' : List S30} {ws : List (List S37)} (h : BI w W v4 v5 rs ws) (hR : Kd.R k30 30 w1 w.heap.size (fun _ => True) v1 rs') (hb : Below w.heap.size w w1) (hg : W.grownBy w1 v4.ownBlock) : BI w w1 v1 v5 rs' ws := by
  obtain ⟨inner, ho⟩ := Kd.R_own h.all
  exact ⟨hb, hR, R_other h.want ho (by decide) hg⟩
theorem BI.addWant {w W w1 : World} {v4 v5 v1 : Value} {rs : List S30} {ws ws' : List (List S37)} (h : BI w W v4 v5 rs ws) (hR : Kd.R (Kd.slice 37 k37) 54 w1 w.heap.size (fun _ => True) v1 ws') (hb : Below w.heap.size w w1) (hg : W.grownBy w1 v5.ownBlock) : BI w w1 v4 v1 rs ws' := by
  obtain ⟨inner, ho⟩ := Kd.R_own h.want
  exact ⟨hb, R_other h.all ho (by decide) hg, hR⟩
theorem info_wants : (Try.prog.info? 54).map (fun i => (i.zero, i.size, i.bytes)) = some (some (.slice none 0 0), 1, 24) := by kernel_rfl
/-- While the first byte of each image told is turned. -/
structure WI (w w' : World) (b10 : Nat) (v4 v5 v10 : Value) (m : Nat) (cs : List (List S25)) (ws : List (List S37)) : Prop where
  below : Below w.heap.size w w'
  all : ∃ rows : List (List Value), rows.length = m ∧ (Kd.raw 3).R 30 w' w.heap.size (fun _ => True) v4 rows ∧ ∀ (j : Nat) (c : List Value), rows[j]? = some c → ∃ b g cp n t, c = [.int .u64 b, .slice (some ⟨g, 0, none⟩) n cp, .bool t] ∧ 0 < n ∧ w.heap.size ≤ g ∧ g < b10 ∧ ∃ cur z, w'.heap[g]? = some (.cells cur 5 (0, 0)) ∧ cur[0]? = some (.int .u8 z)
  res : Kd.N (Kd.slice 25 k25) 27 w' b10 (fun k => True ∧ b10 ≤ k ∧ True) v10 cs
  want : Kd.R (Kd.slice 37 k37) 54 w' w.heap.size (fun _ => True) v5 ws
theorem all_open {w w' : World} {v4 : Value} {rs : List S30} (h : Kd.R k30 30 w' w.heap.size (fun _ => True) v4 rs) (hr : ∀ x ∈ rs, x.f0.f1.length = 160) :
    ∃ rows : List (List Value), rows.length = rs.length ∧ (Kd.raw 3).R 30 w' w.heap.size (fun _ => True) v4 rows ∧ ∀ (j : Nat) (c : List Value), rows[j]? = some c → ∃ b g cp n t, c = [.int .u64 b, .slice (some ⟨g, 0, none⟩) n cp, .bool t] ∧ 0 < n ∧ w.heap.size ≤ g ∧ g < w'.heap.size ∧ ∃ cur z, w'.heap[g]? = some (.cells cur 5 (0, 0)) ∧ cur[0]? = some (.int .u8 z) := by
  obtain ⟨h0, inner, ho, hrp⟩ := h
  refine ⟨Kd.chunks 3 rs.length inner, Kd.chunks_length _ _ _, ⟨fun _ _ => trivial, inner, by rw [Kd.chunks_length]; exact ho, Kd.reps_raw hrp (fun x c hp => ⟨k30.K_len (k30.K_of_M hp), k30.K_one (k30.K_of_M hp)⟩)⟩, fun j c hc => ?_⟩
  have hjl : j < rs.length := by have := (List.getElem?_eq_some_iff.1 hc).1; rwa [Kd.chunks_length] at this
  have hM := hrp.2 j _ (List.getElem?_eq_getElem hjl)
  rw [← show c = (inner.drop (j * k30.sz)).take k30.sz from Kd.chunks_get hc] at hM
  obtain ⟨v1, e, hR⟩ := k30_openM hM
  have hl := hr rs[j] (List.getElem_mem _)
  obtain ⟨g, cap, e1, hb, hlt, cells, hcells⟩ := Kd.R_form hR (by omega)
  subst e1
  have hC := (Kd.R_reads' hR).2.2
  have hrd := Kd.reads_of_C (enc := Value.int .u8) (d := (0 : Int)) (h1 := fun _ => rfl) hC
  obtain ⟨ad, ea, hcell⟩ := hrd.2.2 (by omega)
  injection ea with ea
  subst ea
  have h1 := hcell 0 (by omega)
  rw [add_at, Nat.zero_add, blk_cell hcells] at h1
  exact ⟨_, g, cap, _, _, e, by omega, hb, hlt, cells, _, hcells, h1⟩
theorem WI.start {w w1 w2 : World} {v4 v5 v10 : Value} {rs : List S30} {cs : List (List S25)} {ws : List (List S37)} (h : BI w w1 v4 v5 rs ws) (hb : Below w1.heap.size w1 w2) (hr : ∀ x ∈ rs, x.f0.f1.length = 160) (hN : Kd.N (Kd.slice 25 k25) 27 w2 w1.heap.size (fun k => True ∧ w1.heap.size ≤ k ∧ True) v10 cs) : WI w w2 w1.heap.size v4 v5 v10 rs.length cs ws := by
  obtain ⟨rows, hl, hR, hall⟩ := all_open h.all hr
  refine ⟨h.below.trans (hb.mono h.below.size), ⟨rows, hl, Kd.R_below hR hb, fun j c hc => ?_⟩, hN, Kd.R_below h.want hb⟩
  obtain ⟨b, g, cp, n, t, e, h1, h2, h3, cur, z, h4, h5⟩ := hall j c hc
  exact ⟨b, g, cp, n, t, e, h1, h2, h3, cur, z, blk_below h4 hb, h5⟩
theorem WI.go {w w1 w2 : World} {b10 : Nat} {v4 v5 v10 : Value} {m : Nat} {cs : List (List S25)} {ws : List (List S37)} (h : WI w w1 b10 v4 v5 v10 m cs ws) (hb : Below w1.heap.size w1 w2) : WI w w2 b10 v4 v5 v10 m cs ws := by
  obtain ⟨rows, hl, hR, hall⟩ := h.all
  refine ⟨h.below.trans (hb.mono h.below.size), ⟨rows, hl, Kd.R_below hR hb, fun j c hc => ?_⟩, Kd.N_below h.res hb, Kd.R_below h.want hb⟩
  obtain ⟨b, g, cp, n, t, e, h1, h2, h3, cur, z, h4, h5⟩ := hall j c hc
  exact ⟨b, g, cp, n, t, e, h1, h2, h3, cur, z, blk_below h4 hb, h5⟩
theorem WI.turn {w w1 w2 : World} {b10 : Nat} {v4 v5 v10 : Value} {m : Nat} {cs : List (List S25)} {ws : List (List S37)} (h : WI w w1 b10 v4 v5 v10 m cs ws) {g : Nat} {cur : Array Value} {z : Int} (hg : w1.heap[g]? = some (.cells cur 5 (0, 0))) (h0 : 0 < cur.size) (hgb : w.heap.size ≤ g) (hg10 : g < b10)
    (hk : w2.heap[g]? = some (.cells (cur.setIfInBounds 0 (.int .u8 z)) 5 (0, 0))) (hgr : w1.grownBy w2 (some g)) : WI w w2 b10 v4 v5 v10 m cs ws := by
  obtain ⟨rows, hl, hR, hall⟩ := h.all
  refine ⟨grown_below h.below hgr h.below.size hgb, ⟨rows, hl, ?_, fun j c hc => ?_⟩, Kd.N_step h.res (fun k hk2 hlt => hgr.block k hlt (fun he => by injection he with he; have := hk2.2.1; omega)), ?_⟩
  · exact Kd.R_mono (Kd.R_grown (Kd.R_types hR hg (by decide)) hgr (fun k hk2 he => hk2.2 (by injection he))) (fun _ _ => trivial)
  · obtain ⟨b, g', cp, n, t, e, h1, h2, h3, cur', z', h4, h5⟩ := hall j c hc
    by_cases hq : g' = g
    · subst hq
      exact ⟨b, g', cp, n, t, e, h1, h2, h3, _, z, hk, by simp [h0]⟩
    · exact ⟨b, g', cp, n, t, e, h1, h2, h3, cur', z', blk_grown h4 hgr (fun he => hq (by injection he)), h5⟩
  · exact Kd.R_mono (Kd.R_grown (Kd.R_types h.want hg (by decide)) hgr (fun k hk2 he => hk2.2 (by injection he))) (fun _ _ => trivial)
theorem WI.nth {w w1 : World} {b10 : Nat} {v4 v5 v10 : Value} {m : Nat} {cs : List (List S25)} {ws : List (List S37)} (h : WI w w1 b10 v4 v5 v10 m cs ws) (i : Nat) (hi : i < m) :
    ∃ g4 cap4 g cp n cur z, v4 = .slice (some ⟨g4, 0, none⟩) m cap4 ∧ w1.cell? ⟨g4, i * 3 + 1, none⟩ = some (.slice (some ⟨g, 0, none⟩) n cp) ∧ 0 < n ∧ w.heap.size ≤ g ∧ g < b10 ∧ w1.heap[g]? = some (.cells cur 5 (0, 0)) ∧ cur[0]? = some (.int .u8 z) := by
  obtain ⟨rows, hl, hR, hall⟩ := h.all
  obtain ⟨g4, cap4, e4, _, _, _⟩ := Kd.R_form hR (by omega)
  subst e4
  obtain ⟨c, hcl, hM, hcc, _⟩ := Kd.R_elem hR ([] : List Value) (i : Int) (by omega) (by rw [hl]; omega)
  have hc : rows[i]? = some c := by
    have e1 : c = rows.getD i [] := by have := hM.1; simpa using this
    rw [e1, List.getD_eq_getElem?_getD, List.getElem?_eq_getElem (by omega)]
    rfl
  obtain ⟨b, g, cp, n, t, e, h1, h2, h3, cur, z, h4, h5⟩ := hall i c hc
  have h6 := hcc 1 (.slice (some ⟨g, 0, none⟩) n cp) (by rw [e]; rfl)
  rw [Int.toNat_natCast] at h6
  exact ⟨g4, cap4, g, cp, n, cur, z, by rw [hl], h6, h1, h2, h3, h4, h5⟩
theorem info_u8 : (Try.prog.info? 5).map (·.size) = some 1 := by kernel_rfl
theorem recsTo_total (ls : List (List S25)) (h8 : ls.length ≤ 8) (h : ∀ j (h : j < ls.length), ls[j].length ≤ 8) : (recsTo ls ls.length).length ≤ 64 := by
  have := recsTo_le ls ls.length (Nat.le_refl _) (fun j hj _ => h j hj)
  omega
set_option maxHeartbeats 4000000 in
set_option maxRecDepth 100000 in
theorem RecordBack.walk (w : World) (x : RowIn (List S25)) (hx : RowIn.Ok (Kd.slice 25 k25) w x) :
    Calls Try.prog 6 #[.slice x.a x.xs.length x.c] w fun e w' => e = .returned (.bool true) ∧ Below w.heap.size w w' := by
  obtain ⟨A0, c0, ls⟩ := x
  obtain ⟨hr0, hc0⟩ := hx
  simp only [] at hr0 hc0 ⊢
  obtain ⟨n, hn⟩ : ∃ n, ls.length = n := ⟨_, rfl⟩
  have HR0 := Aside0.mk hr0
  have HN := Aside0.mk hn
  rw [hn]
  clear hr0 hc0
  by_cases h8 : 8 < n
  · have g1 : decide ((8 : Int) < (n : Int)) = true := decide_eq_true (by omega)
    have g2 : decide (8 < n) = true := decide_eq_true h8
    clear hn h8
    go_enter Try.func6, Try.ntmps6
    go_wp2_with (go_at_call 8; (with_reducible refine (reliquarylaw12_awake.calls 20 true _ (awake12_ok 20 (Nat.le_refl _))).mono ?_); rintro e w3 ⟨rfl, hb⟩; have HB := Aside0.mk hb; clear hb)
    go_ret
    exact ⟨rfl, HB.out⟩
  · have g1 : decide ((8 : Int) < (n : Int)) = false := decide_eq_false (by omega)
    have g2 : decide (8 < n) = false := decide_eq_false h8
    have HN8 := Aside0.mk (show n ≤ 8 by omega)
    clear hn h8
    go_enter Try.func6, Try.ntmps6
    go_wp2_with (go_at_call 8; (with_reducible refine (reliquarylaw12_awake.calls 20 true _ (awake12_ok 20 (Nat.le_refl _))).mono ?_); rintro e w3 ⟨rfl, hb⟩; have HBI := Aside0.mk ((BI.start w).go hb); clear hb)
    clear g1 g2
    go_loopg [4, 5, 6] n (fun gk v4 v5 v6 w' => ∃ i : Nat, v6 = .int .i64 i ∧ Aside0 (gk + i = n ∧ ∀ j (h : j < ls.length), j < i → ls[j].length ≤ 8 ∧ ls[j].length ≠ 0) ∧ Aside0 (BI w w' v4 v5 (recsTo ls i) (wantTo ls i)))
    case atStart => exact ⟨0, rfl, ⟨by omega, fun j _ h => by omega⟩, HBI⟩
    case round =>
      clear HBI
      obtain ⟨i, rfl, HI, HBI⟩ := hrel
      obtain ⟨⟨A4, c4, e4⟩, A5, c5, e5⟩ := HBI.out.shape
      by_cases hi : i < n
      · have hil : (i : Int) < (n : Int) := by omega
        have HLI := Aside0.mk hi
        have hil2 : i < ls.length := by rw [HN.out]; exact hi
        obtain ⟨l, hl⟩ : ∃ l, ls[i] = l := ⟨_, rfl⟩
        obtain ⟨ad, A1, c1, e0, hx0, hlc, hC⟩ := at_L12 HR0.out (i : Int) (by omega) (by rw [HN.out]; omega)
        have hli : rd_L12 ls (i : Int) = l := by rw [← hl]; simp [rd_L12, List.getD_eq_getElem?_getD, List.getElem?_eq_getElem hil2]
        rw [hli] at hx0 hlc hC
        rw [Int.toNat_natCast] at hx0
        have HRS := Aside0.mk (show recsTo ls (i + 1) = recsTo ls i ++ recOf l from by rw [recsTo_succ ls i hil2, hl])
        have HWS := Aside0.mk (show wantTo ls (i + 1) = wantTo ls i ++ [(imgOf l).map m25] from by rw [wantTo_succ ls i hil2, hl])
        have HNX := Aside0.mk (show l.length ≤ 8 → l.length ≠ 0 → ∀ j (h : j < ls.length), j < i + 1 → ls[j].length ≤ 8 ∧ ls[j].length ≠ 0 from fun h1 h2 j hj hji => by
          by_cases e : j = i
          · subst e; rw [hl]; exact ⟨h1, h2⟩
          · exact HI.out.2 j hj (by omega))
        have HRL := Aside0.mk (recsTo_le ls i (by omega) (fun j hj hji => (HI.out.2 j hj hji).1))
        subst e0
        subst e4
        subst e5
        replace hx0 := (HBI.out.below.cell (World.block_lt_of_cell? w _ hx0)).trans hx0
        have HC := Aside0.mk hC
        have HLC := Aside0.mk hlc
        clear hli hC hlc hl hil2 hi
        by_cases hl8 : 8 < l.length
        · have g1 : decide ((8 : Int) < (l.length : Int)) = true := decide_eq_true (by omega)
          have g2 : decide (8 < l.length) = true := decide_eq_true hl8
          clear hl8
          go_wp2
          go_ret
          exact ⟨rfl, HBI.out.below⟩
        · have g1 : decide ((8 : Int) < (l.length : Int)) = false := decide_eq_false (by omega)
          have g2 : decide (8 < l.length) = false := decide_eq_false hl8
          have HL8 := Aside0.mk (show l.length ≤ 8 by omega)
          clear hl8
          obtain ⟨X, hX⟩ : ∃ X, imgOf l = X := ⟨_, rfl⟩
          obtain ⟨Y, hY⟩ : ∃ Y, recOf l = Y := ⟨_, rfl⟩
          have HXL := Aside0.mk (show X.length = l.length from by rw [← hX]; exact imgOf_length l)
          have HYL := Aside0.mk (show Y.length = l.length from by rw [← hY]; exact recOf_length l)
          have HIMG := Aside0.mk (show reliquarylaw12_images.f 2000 l false = some X from by rw [← hX]; exact images_eq 2000 l false (by have := HL8.out; omega) (by have := HL8.out; omega))
          by_cases hl0 : l.length = 0
          · have HOF := Aside0.mk (show record_Of.f 2000 X = some (([] : List S30), 1) from by rw [← hX, record_Of_eq 2000 _ (by rw [imgOf_length]; omega) (by rw [imgOf_length]; omega), ofV_imgOf, if_pos hl0])
            have g0 : ((X.length : Int) == 0) = true := by rw [HXL.out, hl0]; rfl
            clear hl0 hX hY
            go_wp2_with (first | (go_at_call 9; refine (reliquarylaw12_images.calls 2000 A1 c1 l false X _ (Kd.C_below HC.out HBI.out.below) HLC.out HIMG.out).mono ?_; rintro e w4 ⟨v7, rfl, hS, hb⟩; have n0_ := Aside0.mk (HBI.out.go hb); have HS := Aside0.mk hS; clear hS hb HBI; have HBI := n0_; clear n0_; obtain ⟨A7, c7, e7⟩ := Kd.R_slice (Kd.S_R HS.out); subst e7) | (go_at_call 15; refine (record_Of.calls 2000 A7 c7 X [] 1 _ (Kd.R_reads' (Kd.S_R HS.out)).2.2 (Kd.R_reads' (Kd.S_R HS.out)).2.1 HOF.out).mono ?_; rintro e w5 ⟨v8, rfl, hS8, hb⟩; have n0_ := Aside0.mk (HBI.out.go hb); clear hS8 hb HBI; have HBI := n0_; clear n0_))
            go_ret
            exact ⟨rfl, HBI.out.below⟩
          · have HL0 := Aside0.mk hl0
            have HOF := Aside0.mk (show record_Of.f 2000 X = some (Y, 0) from by rw [← hX, ← hY, record_Of_eq 2000 _ (by rw [imgOf_length]; have := HL8.out; omega) (by rw [imgOf_length]; have := HL8.out; omega), ofV_imgOf, if_neg hl0])
            have HMO := Aside0.mk (show reliquarylaw12_modelOf.f 2000 X = some (X.map m25) from modelOf_eq 2000 _ (by have := HXL.out; have := HL8.out; omega) (by have := HXL.out; have := HL8.out; omega))
            obtain ⟨Z, hZ⟩ : ∃ Z, X.map m25 = Z := ⟨_, rfl⟩
            have n0_ := Aside0.mk (by have := HWS.out; rw [hX, hZ] at this; exact this)
            have n1_ := Aside0.mk (by have := HRS.out; rw [hY] at this; exact this)
            have n2_ := Aside0.mk (by have := HMO.out; rw [hZ] at this; exact this)
            clear HWS HRS HMO hX hY hZ
            have HWS := n0_
            have HRS := n1_
            have HMO := n2_
            clear n0_ n1_ n2_
            clear hl0
            have HLI2 := HLI.out
            have HN2 := HN8.out
            go_wp2_with (first | (go_at_call 9; refine (reliquarylaw12_images.calls 2000 A1 c1 l false X _ (Kd.C_below HC.out HBI.out.below) HLC.out HIMG.out).mono ?_; rintro e w4 ⟨v7, rfl, hS, hb⟩; have n0_ := Aside0.mk (HBI.out.go hb); have HS := Aside0.mk (Kd.S_R hS); clear hS hb HBI; have HBI := n0_; clear n0_; obtain ⟨A7, c7, e7⟩ := Kd.R_slice HS.out; subst e7) | (go_at_call 15; refine (record_Of.calls 2000 A7 c7 X Y 0 _ (Kd.R_reads' HS.out).2.2 (Kd.R_reads' HS.out).2.1 HOF.out).mono ?_; rintro e w5 ⟨v8, rfl, hS8, hb⟩; have HS4 := Aside0.mk HBI.out.below.size; have HLT4 := Aside0.mk (Kd.R_lt HBI.out.all); have n0_ := Aside0.mk (HBI.out.go hb); have n1_ := Aside0.mk (Kd.R_below HS.out hb); have HS8 := Aside0.mk (Kd.R_bound (Kd.S_R hS8)); clear hS8 hb HBI HS; have HBI := n0_; have HS := n1_; clear n0_ n1_; obtain ⟨A8, c8, e8⟩ := Kd.R_slice HS8.out; subst e8) | ((with_reducible refine gate_builtin (b := .append) (xs := #[.tmp 47, .tmp 48]) rfl ?_); at_builtin; obtain ⟨A8_, c8_, e8_, hl8_, hr8_⟩ := OwnRow.reads HS8.out.2; injection e8_ with q1_ q2_ q3_; subst q1_; subst q3_; refine Kd.R_append_rows k30 (w0 := w) w.heap.size rfl (.tmp 47) (.tmp 48) 48 30 _ _ rfl Try.underlying48 info30 rfl (by decide) (by decide) _ (recsTo ls i) Y A8 _ c8 (fun _ => True) _ rfl rfl HBI.out.all hr8_ (fun x cs h => k30.M_lower HS4.out h) (fun k hk => ⟨trivial, fun he => by have := HLT4.out k he.symm; have := hk.1.2.1; omega⟩) (fun _ _ => trivial) HBI.out.below HBI.out.below.size (by have := HRL.out; have := HL8.out; have := HN8.out; have := HLI.out; have := HYL.out; omega) ?_; intro v1 w6 hR hb hg hat; have n0_ := Aside0.mk (HBI.out.addAll hR hb hg); have n1_ := Aside0.mk (show Kd.R k25 25 w6 wr.heap.size (fun _ => True) (.slice A7 X.length c7) X from by obtain ⟨inn_, ho_⟩ := Kd.R_own HBI.out.all; exact R_other HS.out ho_ (by decide) hg); clear hR hb hg hat hl8_ hr8_ q2_ HBI HS HS8 HS4 HLT4; have HBI := n0_; have HS := n1_; clear n0_ n1_; obtain ⟨A4n, c4n, e4n⟩ := HBI.out.shape.1; subst e4n) | (go_at_call 17; refine (reliquarylaw12_modelOf.calls 2000 A7 c7 X Z _ (Kd.R_reads' HS.out).2.2 (Kd.R_reads' HS.out).2.1 HMO.out).mono ?_; rintro e w7 ⟨v9, rfl, hZ, hb⟩; have HLT5 := Aside0.mk (Kd.R_lt HBI.out.want); have HS6 := Aside0.mk HBI.out.below.size; have HZ := Aside0.mk (Kd.R_bound hZ); have n0_ := Aside0.mk (HBI.out.go hb); clear hZ hb HBI HS; have HBI := n0_; clear n0_; obtain ⟨A9, c9, e9⟩ := Kd.R_slice HZ.out; subst e9) | ((with_reducible refine gate_builtin (b := .append) (xs := #[.tmp 50, .tmp 53]) rfl ?_); at_builtin; refine Kd.R_append (Kd.slice 37 k37) (w0 := w) w.heap.size rfl (.tmp 50) (.tmp 53) 59 54 (.slice none 0 0) 24 rfl Try.underlying59 info_wants rfl (by decide) (by decide) _ (wantTo ls i) Z [.slice A9 Z.length c9] (fun _ => True) _ rfl rfl ⟨_, rfl, Kd.R_lower HZ.out HS6.out⟩ (fun k hk => ⟨trivial, fun he => by have := HLT5.out k he.symm; have := hk.2.1; omega⟩) (fun _ _ => trivial) HBI.out.want HBI.out.below HBI.out.below.size (by rw [wantTo_length ls i (by rw [HN.out]; have := HLI.out; omega)]; have := HN8.out; have := HLI.out; omega) ?_; intro v1 w8 hR hb hg hat; have n0_ := Aside0.mk (HBI.out.addWant hR hb hg); clear hR hb hg hat HBI HZ HS6 HLT5; have HBI := n0_; clear n0_))
            go_roundg (gk - 1)
            case measure => have := HI.out.1; have := HLI.out; omega
            case rel => exact ⟨i + 1, by go_num, ⟨by have := HI.out.1; have := HLI.out; omega, HNX.out HL8.out HL0.out⟩, ⟨by have := HBI.out; rw [List.length_append] at this; rw [HRS.out, HWS.out]; exact this⟩⟩
      · have hni : i = n := by have := HI.out.1; omega
        subst hni
        obtain ⟨CS, hCS⟩ : ∃ CS, ls.map imgOf = CS := ⟨_, rfl⟩
        obtain ⟨RS, hRS⟩ : ∃ RS, recsTo ls i = RS := ⟨_, rfl⟩
        obtain ⟨WS, hWS⟩ : ∃ WS, wantTo ls i = WS := ⟨_, rfl⟩
        have HCL := Aside0.mk (show CS.length = i from by rw [← hCS, List.length_map, HN.out])
        have HWL := Aside0.mk (show WS.length = i from by rw [← hWS]; exact wantTo_length ls i (by rw [HN.out]; exact Nat.le_refl _))
        have HRL := Aside0.mk (show RS.length ≤ 64 from by rw [← hRS]; have := recsTo_total ls (by rw [HN.out]; exact HN8.out) (fun j hj => (HI.out.2 j hj (by rw [HN.out] at hj; exact hj)).1); rw [HN.out] at this; exact this)
        have HRR := Aside0.mk (show ∀ y ∈ RS, y.f0.f1.length = 160 from by rw [← hRS]; exact recsTo_row ls i)
        have HCV := Aside0.mk (show chgV RS = (CS, 0) from by
          have h1 := chgV_back ls (fun l hl => by
            obtain ⟨j, hj, e⟩ := List.mem_iff_getElem.1 hl
            rw [← e]
            exact (HI.out.2 j hj (by rw [HN.out] at hj; exact hj)).2)
          rw [HN.out, hRS, hCS] at h1
          exact h1)
        have HOK := Aside0.mk (chgOk_of RS (by have := HRL.out; omega) (fun y hy => by have := HRR.out y hy; omega))
        have HSAME := Aside0.mk (show ∀ j : Nat, j < i → (rd_L12 CS (j : Int)).length ≤ 8 ∧ rd_L14 WS (j : Int) = (rd_L12 CS (j : Int)).map m25 from by
          intro j hj
          have hjl : j < ls.length := by rw [HN.out]; exact hj
          have e1 : rd_L12 CS (j : Int) = imgOf ls[j] := by rw [← hCS]; simp [rd_L12, List.getD_eq_getElem?_getD, List.getElem?_eq_getElem hjl]
          have e2 : rd_L14 WS (j : Int) = (imgOf ls[j]).map m25 := by
            rw [← hWS]
            unfold wantTo
            rw [List.take_of_length_le (by rw [HN.out]; exact Nat.le_refl _)]
            simp [rd_L14, List.getD_eq_getElem?_getD, List.getElem?_eq_getElem hjl]
          rw [e1, e2, imgOf_length]
          exact ⟨(HI.out.2 j hjl hj).1, rfl⟩)
        rw [hRS] at e4
        rw [hWS, HWL.out] at e5
        have n0_ := Aside0.mk (by have := HBI.out; rw [hRS, hWS] at this; exact this)
        clear HBI HI hCS hRS hWS hi HN
        have HBI := n0_
        clear n0_
        subst e4
        subst e5
        have HN2 := HN8.out
        go_upto_region 22 with (first | (go_at_call 18; refine (chg.calls A4 c4 RS _ (Kd.R_reads' HBI.out.all).2.2 (Kd.R_reads' HBI.out.all).2.1 HOK.out CS 0 HCV.out).mono ?_; rintro e w9 ⟨v10, rfl, hN, hb⟩; have HWI := Aside0.mk (WI.start HBI.out hb HRR.out hN); clear hN hb HBI; obtain ⟨A10, c10, e10⟩ := Kd.N_slice HWI.out.res; rw [HCL.out] at e10; subst e10))
        obtain ⟨m, hm⟩ : ∃ m, RS.length = m := ⟨_, rfl⟩
        obtain ⟨b10, hb10⟩ : ∃ b10, wr.heap.size = b10 := ⟨_, rfl⟩
        have n0_ := Aside0.mk (by have := HWI.out; rw [hm, hb10] at this; exact this)
        have HM := Aside0.mk (show m ≤ 64 from by rw [← hm]; exact HRL.out)
        clear HWI HRR HCV HOK HRL hb10
        have HWI := n0_
        clear n0_
        rw [hm]
        clear hm
        go_wp2
        go_loopg [12] m (fun gk v12 w' => ∃ i2 : Nat, v12 = .int .i64 i2 ∧ Aside0 (gk + i2 = m) ∧ Aside0 (WI w w' b10 (.slice A4 m c4) (.slice A5 i c5) (.slice A10 i c10) m CS WS))
        case atStart => exact ⟨0, rfl, ⟨by omega⟩, HWI⟩
        case round =>
          clear HWI
          obtain ⟨i2, rfl, HI2, HWI⟩ := hrel
          by_cases hi2 : i2 < m
          · have hil : (i2 : Int) < (m : Int) := by omega
            have hm2 := HM.out
            have HLI2 := Aside0.mk hi2
            obtain ⟨g4, cap4, g, cp, n, cur, z, e4, hx1, hn, hgb, hg10, hblk, hz⟩ := HWI.out.nth i2 hi2
            injection e4 with q1 q2 q3
            subst q1
            have hsz : 0 < cur.size := by
              have := (Array.getElem?_eq_some_iff.1 hz).1
              exact this
            have hz0 : wr.cell? ⟨g, 0, none⟩ = some (.int .u8 z) := (blk_cell hblk 0).trans hz
            have HBK := Aside0.mk hblk
            have HSZ := Aside0.mk hsz
            have HGB := Aside0.mk (show w.heap.size ≤ g ∧ g < b10 from ⟨hgb, hg10⟩)
            have hnn : (0 : Int) < (n : Int) := by omega
            clear hblk hsz hgb hg10 hz q2 q3 hi2
            go_wp2_with (first | ((with_reducible refine gate_store (t := 5) (p := 84) rfl ?_); refine wl_store_cell rfl rfl 5 _ _ rfl g 0 rfl _ 5 HBK.out (.int .u8 _) rfl rfl ?side1 rfl info_u8 ?_; (case side1 => exact HSZ.out); intro w11 hk hgr hs; have n0_ := Aside0.mk (HWI.out.turn HBK.out HSZ.out HGB.out.1 HGB.out.2 hk hgr); clear hk hgr hs HWI; have HWI := n0_; clear n0_))
            go_roundg (gk - 1)
            case measure => have := HI2.out; have := HLI2.out; omega
            case rel => exact ⟨i2 + 1, by go_num, ⟨by have := HI2.out; have := HLI2.out; omega⟩, HWI⟩
          · have hni : i2 = m := by have := HI2.out; omega
            clear hi2 HI2
            subst hni
            go_wp2
            go_loopg [13] i (fun gk v13 w' => ∃ i3 : Nat, v13 = .int .i64 i3 ∧ Aside0 (gk + i3 = i) ∧ Aside0 (WI w w' b10 (.slice A4 i2 c4) (.slice A5 i c5) (.slice A10 i c10) i2 CS WS))
            case atStart => exact ⟨0, rfl, ⟨by omega⟩, HWI⟩
            case round =>
              clear HWI
              obtain ⟨i3, rfl, HI3, HWI⟩ := hrel
              by_cases hi3 : i3 < i
              · have hil : (i3 : Int) < (i : Int) := by omega
                have HLI3 := Aside0.mk hi3
                obtain ⟨hXl, hZe⟩ := HSAME.out i3 hi3
                obtain ⟨X, hX⟩ : ∃ X, rd_L12 CS (i3 : Int) = X := ⟨_, rfl⟩
                obtain ⟨Z, hZ⟩ : ∃ Z, rd_L14 WS (i3 : Int) = Z := ⟨_, rfl⟩
                rw [hX] at hXl hZe
                rw [hZ] at hZe
                obtain ⟨ad10, AX, cX, e10, hcX, hlX, hCX⟩ := at_L12 (Kd.N_reads' HWI.out.res).2.2 (i3 : Int) (by omega) (by rw [HCL.out]; omega)
                obtain ⟨ad5, AZ, cZ, e5, hcZ, hlZ, hCZ⟩ := at_L14 (Kd.R_reads' HWI.out.want).2.2 (i3 : Int) (by omega) (by rw [HWL.out]; omega)
                rw [hX] at hcX hlX hCX
                rw [hZ] at hcZ hlZ hCZ
                rw [Int.toNat_natCast] at hcX hcZ
                subst e10
                subst e5
                have hMO : reliquarylaw12_modelOf.f 2000 X = some Z := by rw [hZe]; exact modelOf_eq 2000 X (by omega) (by omega)
                have hSA : reliquaryref12_Same.f 2000 Z Z = some true := same_eq 2000 Z (by rw [hZe, List.length_map]; omega) (by rw [hZe, List.length_map]; omega)
                have HF := Aside0.mk (And.intro hcX (And.intro hlX (And.intro hCX (And.intro hcZ (And.intro hlZ (And.intro hCZ (And.intro hMO hSA)))))))
                clear hcX hlX hCX hcZ hlZ hCZ hMO hSA hX hZ hXl hZe hi3
                go_wp2
                obtain ⟨hcX, hlX, hCX, hcZ, hlZ, hCZ, hMO, hSA⟩ := HF.out
                refine mono_region (T := _) (B := [0, 0, 3, 7, 15, 0, 0, 96, 224, 511, 1023]) (n := 11) [(0, 91, VP.is (Value.slice (some ad10) i c10)), (1, 92, VP.is (Value.int .i64 i3)), (2, 93, VP.is (Value.pointer (some (ad10.add i3)))), (3, 94, VP.is (Value.slice AX X.length cX)), (4, 95, VP.row k37 Z), (5, 96, VP.is (Value.slice (some ad5) i c5)), (6, 97, VP.is (Value.int .i64 i3)), (7, 98, VP.is (Value.pointer (some (ad5.add i3)))), (8, 99, VP.is (Value.slice AZ Z.length cZ)), (9, 100, VP.is (Value.bool true)), (10, 101, VP.is (Value.bool false))] rfl (by kernel_rfl) (by kernel_rfl) rfl (by kernel_rfl) (by kernel_rfl) (by kernel_rfl) (by kernel_rfl) (by kernel_rfl) ?_ ?_
                · refine ms_cons ?_ <| ms_cons ?_ <| ms_cons ?_ <| ms_cons ?_ <| ms_cons ?_ <| ms_cons ?_ <| ms_cons ?_ <| ms_cons ?_ <| ms_cons ?_ <| ms_cons ?_ <| ms_cons ?_ <| ms_nil
                  · intro act_ w' H
                    have e10 := H.tmp (t := 10) rfl (by kernel_rfl)
                    have ev10 := eval_of e10
                    refine ms_val rfl rfl rfl (Value.slice (some ad10) i c10) w' ?_ (Below.refl _ _) rfl
                    · go_simp
                      try rfl
                  · intro act_ w' H
                    have e13 := H.tmp (t := 13) rfl (by kernel_rfl)
                    have ev13 := eval_of e13
                    refine ms_val rfl rfl rfl (Value.int .i64 i3) w' ?_ (Below.refl _ _) rfl
                    · go_simp
                      try rfl
                  · intro act_ w' H
                    obtain ⟨_, e91, rfl⟩ := H.on 0 rfl (by kernel_rfl)
                    have ev91 := eval_of e91
                    obtain ⟨_, e92, rfl⟩ := H.on 1 rfl (by kernel_rfl)
                    have ev92 := eval_of e92
                    refine ms_val rfl rfl rfl (Value.pointer (some (ad10.add i3))) w' ?_ (Below.refl _ _) rfl
                    · go_simp
                      try rfl
                  · intro act_ w' H
                    obtain ⟨_, e93, rfl⟩ := H.on 2 rfl (by kernel_rfl)
                    have ev93 := eval_of e93
                    refine ms_val rfl rfl rfl (Value.slice AX X.length cX) w' ?_ (Below.refl _ _) rfl
                    exact ex_load_cell w' _ _ rfl (ad10.add i3) ev93 _ ((H.below.cell (World.block_lt_of_cell? _ _ hcX)).trans hcX) _ Try.underlying27 rfl
                  · intro act_ w' H
                    obtain ⟨_, e94, rfl⟩ := H.on 3 rfl (by kernel_rfl)
                    have ev94 := eval_of e94
                    exact ms_call rfl rfl rfl Try.func17 (by kernel_rfl) rfl #[.slice AX X.length cX] rfl (by simp [ev94]) ((reliquarylaw12_modelOf.calls 2000 AX cX X Z _ (Kd.C_below hCX H.below) hlX hMO).mono fun e w1 ⟨v, he, hR, hb⟩ => ⟨v, he, hb, Kd.R_reads hR⟩)
                  · intro act_ w' H
                    have e5 := H.tmp (t := 5) rfl (by kernel_rfl)
                    have ev5 := eval_of e5
                    refine ms_val rfl rfl rfl (Value.slice (some ad5) i c5) w' ?_ (Below.refl _ _) rfl
                    · go_simp
                      try rfl
                  · intro act_ w' H
                    have e13 := H.tmp (t := 13) rfl (by kernel_rfl)
                    have ev13 := eval_of e13
                    refine ms_val rfl rfl rfl (Value.int .i64 i3) w' ?_ (Below.refl _ _) rfl
                    · go_simp
                      try rfl
                  · intro act_ w' H
                    obtain ⟨_, e96, rfl⟩ := H.on 5 rfl (by kernel_rfl)
                    have ev96 := eval_of e96
                    obtain ⟨_, e97, rfl⟩ := H.on 6 rfl (by kernel_rfl)
                    have ev97 := eval_of e97
                    refine ms_val rfl rfl rfl (Value.pointer (some (ad5.add i3))) w' ?_ (Below.refl _ _) rfl
                    · go_simp
                      try rfl
                  · intro act_ w' H
                    obtain ⟨_, e98, rfl⟩ := H.on 7 rfl (by kernel_rfl)
                    have ev98 := eval_of e98
                    refine ms_val rfl rfl rfl (Value.slice AZ Z.length cZ) w' ?_ (Below.refl _ _) rfl
                    exact ex_load_cell w' _ _ rfl (ad5.add i3) ev98 _ ((H.below.cell (World.block_lt_of_cell? _ _ hcZ)).trans hcZ) _ Try.underlying54 rfl
                  · intro act_ w' H
                    obtain ⟨v95, e95, ⟨A95, c95, rfl, hc95, hC95⟩⟩ := H.on 4 rfl (by kernel_rfl)
                    have ev95 := eval_of e95
                    obtain ⟨_, e99, rfl⟩ := H.on 8 rfl (by kernel_rfl)
                    have ev99 := eval_of e99
                    exact ms_call rfl rfl rfl Try.func20 (by kernel_rfl) rfl #[.slice A95 Z.length c95, .slice AZ Z.length cZ] rfl (by simp [ev95, ev99]) ((reliquaryref12_Same.calls 2000 A95 c95 Z AZ cZ Z true _ hC95 hc95 (Kd.C_below hCZ H.below) hlZ hSA).mono fun e w1 ⟨he, hb⟩ => ⟨_, he, hb.below, rfl⟩)
                  · intro act_ w' H
                    obtain ⟨_, e100, rfl⟩ := H.on 9 rfl (by kernel_rfl)
                    have ev100 := eval_of e100
                    refine ms_val rfl rfl rfl (Value.bool false) w' ?_ (Below.refl _ _) rfl
                    · go_simp
                      try rfl
                intro w13 hb13
                rintro _ rfl _ rfl _ rfl _ rfl _ ⟨A95, c95, rfl, _, _⟩ _ rfl _ rfl _ rfl _ rfl _ rfl _ rfl
                simp only [Ends, Act.put, List.setIfInBounds_toArray, List.set_cons_zero, List.set_cons_succ]
                have n0_ := Aside0.mk (HWI.out.go hb13)
                clear hb13 HWI HF hcX hlX hCX hcZ hlZ hCZ hMO hSA
                have HWI := n0_
                clear n0_
                go_wp2
                go_roundg (gk - 1)
                case measure => have := HI3.out; have := HLI3.out; omega
                case rel => exact ⟨i3 + 1, by have := HLI3.out; go_num, ⟨by have := HI3.out; have := HLI3.out; omega⟩, HWI⟩
              · have hni : i3 = i := by have := HI3.out; omega
                clear hi3 HI3
                subst hni
                go_wp2
                go_ret
                exact ⟨rfl, HWI.out.below⟩
end Go.Proofs.Ytjpkjakdhbnehaa.Q
end
section
-- Written by this session's own program (hand_row.py). Not trusted: Lean checks it.
namespace Go.Proofs.Ytjpkjakdhbnehaa.recordBack
open Go.ChangeShapes Go.WideShapes Go.ChangeAt Go.RowKit
open Go.ChangeMaps (open_string shut_string)
set_option linter.unusedVariables false
theorem own : ownKnob Try.prog.godebug = none := by kernel_rfl
theorem laidOut : laidOutB Try.prog = true := by kernel_rfl
set_option maxRecDepth 100000 in
theorem lifted (os : Os) (started : os.Started) (H : Type) (enc : TypeId × Value → H) :
    ReturnsInHanded {} Try.checked os 6 .any (Rows.recordBackSpec.pre6 enc Try.prog Try.f6 Rows.recordBackRow.domain false) (Rows.recordBackSpec.post enc Try.prog Try.f6 false true false false) := by
  refine returnsInHanded_of_change_sized (C := Try.checked) own started (by kernel_rfl) Try.func6
    (ChangeSpec.witness6 (enc := enc) (C := Try.checked) false ⟨#[], #[.slice none 0 0], []⟩ 8 (by kernel_rfl) (by kernel_rfl) (by kernel_rfl) (by kernel_rfl)) ?_
  intro W base args ds gs before hval0 hW hcnd hsz0 _
  have hsz : (DataW.weightsEach Try.prog (Try.f6.params.toList ++ Rows.recordBackSpec.plain.varTypes Try.prog) (ds ++ gs)).all (· ≤ reachBytes) = true := hsz0
  have hval : ∀ (j : Nat) t v, Try.f6.params[j]? = some t → args[j]? = some v → Value.okWide Try.prog W .any base t v := hval0
  have hW' := hW
  obtain ⟨p, q, hA0, hV, rfl, hfz, hnd⟩ := hW
  have hA : DataW.TrodAll enc Try.prog W 0 (fun _ => true) true Try.f6.params.toList args.toList ds p := hA0
  rw [Try.params6] at hA hval hsz
  obtain ⟨v0, vs0, d0, ds0, p0, q0, hargs, rfl, rfl, h0, r0⟩ := trodAll_cons hA
  obtain ⟨rfl, rfl, rfl⟩ := trodAll_nil r0
  obtain rfl : args = #[v0] := by cases args; simp_all
  obtain ⟨rfl, rfl⟩ := trodVars_none hV
  have k0 := h0
  have lt0 : ∀ x ∈ p0, x.block < W.heap.size := by obtain ⟨m, hm⟩ := k0; exact DataW.trod_lt m _ _ _ hm
  obtain ⟨x0, hx0, rfl⟩ := Q.in_imgss (hval 0 56 v0 rfl rfl) h0
  clear hA0 hval0 hsz0 hsz
  refine (Q.RecordBack.walk W x0 hx0).mono fun e W' ⟨he, bel⟩ => ?_
  subst he
  exact ⟨_, rfl, _, _, _, [], _, [], hW', trodAll_mk1 (shut_bool Try.underlying4 _), (trodAll_cons_mk (Below.trod laidOut (by kernel_rfl) (of_decide_eq_true (by kernel_rfl)) k0 bel lt0) trodAll_mk0), rfl, bel.frame _, fun h => by cases h⟩
theorem over : Rows.recordBackRow.holds Try.pinned (OpenSpec.ofChange Rows.recordBackSpec) :=
  OpenClaim.holds_of_wide 6 Try.f6 rfl rfl rfl rfl rfl rfl rfl ⟨rfl, rfl, rfl, rfl, rfl⟩ rfl rfl rfl rfl rfl (by kernel_rfl) Try.func6 (by kernel_rfl)
    (of_decide_eq_true (by kernel_rfl)) (by unfold Func.isWrapper; first | (rw [if_pos (by decide +kernel)]; kernel_rfl) | (rw [if_neg (by decide +kernel)]; exact ⟨rfl, rfl⟩))
    (fun os started H enc _ => lifted os started H enc)
theorem proved : Rows.RecordBackSaid := over
#print axioms proved
end Go.Proofs.Ytjpkjakdhbnehaa.recordBack
namespace Go.Proofs.Ytjpkjakdhbnehaa
/-- The row, under a short name, for the claim. -/
theorem recordBack_holds : Rows.RecordBackSaid := recordBack.proved
end Go.Proofs.Ytjpkjakdhbnehaa
end
