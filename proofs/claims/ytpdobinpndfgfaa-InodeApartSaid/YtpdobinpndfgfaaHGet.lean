/- What inode.Get does. -/
import Derived.Test.YtpdobinpndfgfaaHIno
namespace Go.Proofs.Ytpdobinpndfgfaa.Q
open Go.RowKit Go.Proofs.YtpdobinpndfgfaaW.PrintWords Go.Proofs.YtpdobinpndfgfaaW.PrintLast Go.Proofs.YtpdobinpndfgfaaW.PrintMore Go.Proofs.Ytpdobinpndfgfaa.Pure
attribute [local go_sem] max2_int min2_int max_two min_two max_three min_three max_four min_four
set_option linter.unusedVariables false
set_option linter.unusedSimpArgs false
/-! what bytes are an inode -/
def numI (l : List Int) (p n : Int) : Int := leval (cutV l p n)
def getI (l : List Int) : InoV := ⟨rd l 0, numI l 2 2, numI l 4 4, numI l 8 2, numI l 10 2, numI l 12 2, numI l 14 2, numI l 16 2⟩
def okI (l : List Int) : Prop := l.length = 32 ∧ rd l 0 ≤ 3 ∧ rd l 1 = 0 ∧ (l.drop 18).any (· != 0) = false
instance (l : List Int) : Decidable (okI l) := by unfold okI; infer_instance
def formI (l : List Int) : InoV × Int := if okI l then (getI l, 0) else (InoV.nought, 11)
theorem numI_range (l : List Int) (hu : u8s l) (hl : l.length = 32) (p n : Int) (h0 : 0 ≤ p) (hn : 0 ≤ n) (h : p + n ≤ 32) : 0 ≤ numI l p n ∧ numI l p n < 256 ^ n.toNat := by
  have h1 : (cutV l p n).length = n.toNat := cutV_length h0 hn (by rw [hl]; exact h)
  have := leval_range (cutV l p n) (u8s_cut hu _ _)
  rw [h1] at this
  exact this
theorem rd_range (l : List Int) (hu : u8s l) (hl : l.length = 32) (i : Nat) (hi : i < 32) : 0 ≤ rd l (i : Int) ∧ rd l (i : Int) < 256 := by
  rw [rd_nat l i (by omega)]
  exact hu _ (List.getElem_mem _)
theorem getI_ok (l : List Int) (hu : u8s l) (hl : l.length = 32) : (getI l).Ok := by
  have r := fun p n h0 hn h => numI_range l hu hl p n h0 hn h
  exact ⟨rd_range l hu hl 0 (by decide), r 2 2 (by decide) (by decide) (by decide), r 4 4 (by decide) (by decide) (by decide), r 8 2 (by decide) (by decide) (by decide), r 10 2 (by decide) (by decide) (by decide), r 12 2 (by decide) (by decide) (by decide), r 14 2 (by decide) (by decide) (by decide), r 16 2 (by decide) (by decide) (by decide)⟩
theorem formI_ok (l : List Int) (hu : u8s l) : (formI l).1.Ok := by
  unfold formI
  by_cases h : okI l
  · rw [if_pos h]; exact getI_ok l hu h.1
  · rw [if_neg h]; exact ino_nought_ok
/-! is there any number but nought? -/
theorem any_loop (l : List Int) (hl : l.length ≤ 140737488351232) (d : Nat) : ∀ (k i : Nat), l.length - i = d → i ≤ l.length → d < k →
    (slices_IndexFunc_byte_byte_at_inode_Get_lit1.l0 k l (l.length : Int) i).bind (fun t => some (decide (t ≥ 0))) = some ((l.drop i).any (· != 0)) := by
  induction d with
  | zero =>
    intro k i hd hi hk
    obtain ⟨k, rfl⟩ : ∃ m, k = m + 1 := ⟨k - 1, by omega⟩
    simp only [slices_IndexFunc_byte_byte_at_inode_Get_lit1.l0]
    rw [if_neg (by omega), List.drop_eq_nil_of_le (by omega)]
    rfl
  | succ d ih =>
    intro k i hd hi hk
    obtain ⟨k, rfl⟩ : ∃ m, k = m + 1 := ⟨k - 1, by omega⟩
    have hil : i < l.length := by omega
    simp only [slices_IndexFunc_byte_byte_at_inode_Get_lit1.l0, inode_Get_lit1.f, Option.bind_some]
    rw [if_pos (by omega), if_pos (by omega), if_pos (by omega), rd_nat l i hil, List.drop_eq_getElem_cons hil, List.any_cons]
    by_cases h : l[i] = 0
    · rw [bne_eq_false_iff_eq.mpr h, if_neg (by simp), wrap64_id (by omega) (by omega), Bool.false_or]
      exact ih k (i + 1) (by omega) (by omega) (by omega)
    · rw [bne_iff_ne.mpr h, if_pos rfl, Option.bind_some, Bool.true_or, decide_eq_true (by omega)]
theorem any_eq (k : Nat) (l : List Int) (hk : l.length < k) (hl : l.length ≤ 140737488351232) : slices_ContainsFunc_byte_byte_at_inode_Get_lit1.f k l = some (l.any (· != 0)) := by
  unfold slices_ContainsFunc_byte_byte_at_inode_Get_lit1.f slices_IndexFunc_byte_byte_at_inode_Get_lit1.f
  have := any_loop l hl l.length k 0 (by omega) (by omega) hk
  simpa using this
/-- The number at a place, as inode.Get reads it. -/
theorem inode_at.calls (A0 : Option Addr) (c0 : Nat) (l : List Int) (g : Nat) (p n : Int) (w : World) (hr : Kd.C (Kd.int .u8) w A0 l.length l) (hc : l.length ≤ c0) (hu : u8s l) (hl : l.length = 32) (hg : w.cell? ⟨g, 0, none⟩ = some (.slice A0 l.length c0)) (h0 : 0 ≤ p) (h1 : 1 ≤ n) (h8 : n ≤ 8) (hpn : p + n ≤ 32) :
    Calls Try.prog 21 #[.int .i64 p, .int .i64 n, .pointer (some ⟨g, 0, none⟩)] w fun e w' => e = .returned (.int .u64 (numI l p n)) ∧ Drawn0 w w' := by
  have h2 := word_Get_eq l p n hu (by rw [hl]; decide) (by omega)
  have h3 : getV l p n = (numI l p n, 0) := by
    unfold getV
    rw [if_pos (insideV_of h0 h1 h8 (by rw [hl]; exact hpn))]
    rfl
  rw [h3] at h2
  have HG := Aside0.mk (word_Get.calls A0 c0 l p n _ _ w hr hc h2)
  clear h2 h3 hr hu hl
  go_enter Try.func21, Try.ntmps21
  go_wp2_with (first | (go_at_call 22; (with_reducible refine HG.out.mono ?_); rintro e w1 ⟨rfl, ⟨nd, rfl⟩⟩))
  go_ret
  exact ⟨rfl, by repeat (first | exact Drawn0.refl _ | apply Drawn0.step)⟩
/-- The inode as its numbers come in. -/
def fillI (l : List Int) : Nat → InoV
  | 0 => ⟨rd l 0, numI l 2 2, numI l 4 4, 0, 0, 0, 0, 0⟩
  | 1 => ⟨rd l 0, numI l 2 2, numI l 4 4, numI l 8 2, 0, 0, 0, 0⟩
  | 2 => ⟨rd l 0, numI l 2 2, numI l 4 4, numI l 8 2, numI l 10 2, 0, 0, 0⟩
  | 3 => ⟨rd l 0, numI l 2 2, numI l 4 4, numI l 8 2, numI l 10 2, numI l 12 2, 0, 0⟩
  | 4 => ⟨rd l 0, numI l 2 2, numI l 4 4, numI l 8 2, numI l 10 2, numI l 12 2, numI l 14 2, 0⟩
  | _ => getI l
theorem fillI_put (l : List Int) (i : Nat) (hi : i < 5) : (fillI l i).cells.setIfInBounds (3 + i) (.int .u16 (numI l (8 + 2 * (i : Int)) 2)) = (fillI l (i + 1)).cells := by
  match i, hi with
  | 0, _ => rfl
  | 1, _ => rfl
  | 2, _ => rfl
  | 3, _ => rfl
  | 4, _ => rfl
theorem build_ino_nought : ∀ W : World, (Instr.build 26 #[]).run Try.prog W = .ok (.agg InoV.nought.cells) W := fun W => by kernel_rfl
set_option maxHeartbeats 1000000 in
set_option maxRecDepth 100000 in
theorem inode_Get_len (A0 : Option Addr) (n c0 : Nat) (hn : n ≠ 32) (w : World) :
    Calls Try.prog 10 #[.slice A0 n c0] w fun e w' => e = .returned (.tuple #[.agg InoV.nought.cells, .int .i64 11]) ∧ Below w.heap.size w w' := by
  have h1 : ((n : Int) == 32) = false := by simpa using (show ¬ (n : Int) = 32 by omega)
  have h2 : ((n : Int) != 32) = true := by simpa using (show ¬ (n : Int) = 32 by omega)
  clear hn
  go_enter Try.func10, Try.ntmps10
  go_wp2_with (first | ((with_reducible refine gate_op (N := .box 27 (.tmp 0)) rfl ?_); refine wl_box rfl 27 _ rfl (.slice A0 n c0) rfl ?_; intro g1 hg w1 hblk hb hsz; have HG1 := Aside0.mk (show w.heap.size ≤ g1 by rw [hg]; exact Nat.le_refl _); have hc1 : w1.cell? ⟨g1, 0, none⟩ = some (.slice A0 n c0) := cell_of_row w1 g1 0 _ _ _ hblk; have HK1 := Aside0.mk hblk; have HB := Aside0.mk hb; clear hg hblk hb hsz) | ((with_reducible refine gate_dst (N := 2) rfl ?_); refine wl_alloc rfl 26 rfl _ zero_ino ?_; intro g2 hg w2 hblk hb hsz; have HNE := Aside0.mk (show g1 ≠ g2 by have := blk_lt HK1.out; omega); have HG2 := Aside0.mk (show w.heap.size ≤ g2 by rw [hg]; exact HB.out.size); have HK2 := Aside0.mk (show InoAt 26 w2 g2 InoV.nought from hblk); have n0_ := Aside0.mk (blk_below HK1.out hb); have n1_ := Aside0.mk (HB.out.trans (hb.mono HB.out.size)); clear hg hblk hb hsz HK1 HB hc1; have HK1 := n0_; have HB := n1_; clear n0_ n1_; have hc1 : w2.cell? ⟨g1, 0, none⟩ = some (.slice A0 n c0) := cell_of_row w2 g1 0 _ _ _ HK1.out) | ((with_reducible refine gate_op (N := .build 26 #[]) rfl ?_); refine wl_val rfl (.agg InoV.nought.cells) (by unfold execOp; simp [build_ino_nought]) ?_) | ((with_reducible refine gate_store (t := 26) (p := 2) rfl ?_); refine wl_store_all rfl rfl 26 _ _ rfl g2 rfl _ _ HK2.out.blk (.agg InoV.nought.cells) rfl rfl InoV.one info_ino ?_; intro w3 hk3 hg3 hs3; have HK3 := Aside0.mk (show InoAt 26 w3 g2 InoV.nought from hk3); have n1_ := Aside0.mk (show Below w.heap.size w w3 from grown_below HB.out hg3 HB.out.size HG2.out); clear hk3 hg3 hs3 HB HK2; have HB := n1_; clear n1_))
  exact bodyPost_ret (results_cell2 rfl _ _ g2 26 InoV.nought.cells _ rfl HK3.out.blk Try.underlying26 rfl info_ino) rfl ⟨rfl, HB.out⟩
theorem drop18_C {w : World} {ad : Addr} {l : List Int} (h : Kd.C (Kd.int .u8) w (some ad) 32 l) (hl : l.length = 32) : Kd.C (Kd.int .u8) w (some ⟨ad.block, ad.off + 18, none⟩) 14 (l.drop 18) := by
  have h1 := seg_C h 18 32 (by decide) (by decide)
  rw [List.take_of_length_le (by omega)] at h1
  exact h1
set_option maxHeartbeats 2000000 in
set_option maxRecDepth 100000 in
theorem inode_Get_no (ad : Addr) (c0 : Nat) (l : List Int) (w : World) (hr : Kd.C (Kd.int .u8) w (some ad) 32 l) (hl : l.length = 32) (hc0 : 32 ≤ c0) (hu : u8s l) (hno : ¬ okI l) :
    Calls Try.prog 10 #[.slice (some ad) 32 c0] w fun e w' => e = .returned (.tuple #[.agg InoV.nought.cells, .int .i64 11]) ∧ Below w.heap.size w w' := by
  obtain ⟨ad', e1, hcell⟩ := (Kd.reads_of_C (enc := Value.int .u8) (d := (0 : Int)) (h1 := fun _ => rfl) hr).2.2 (by decide)
  injection e1 with e1
  subst e1
  obtain ⟨z0, hz0⟩ : ∃ z, rd l 0 = z := ⟨_, rfl⟩
  obtain ⟨z1, hz1⟩ : ∃ z, rd l 1 = z := ⟨_, rfl⟩
  have HC0 := Aside0.mk (fun (w' : World) (hb : Below w.heap.size w w') => show w'.cell? ad = some (.int .u8 z0) from by rw [← hz0]; exact pw_cell_below hb (hcell 0 (by decide)))
  have HC1 := Aside0.mk (fun (w' : World) (hb : Below w.heap.size w w') => show w'.cell? ⟨ad.block, ad.off + 1, none⟩ = some (.int .u8 z1) from by rw [← hz1]; exact pw_cell_below hb (hcell 1 (by decide)))
  have HCON := Aside0.mk (fun (w' : World) (hb : Below w.heap.size w w') => show Calls Try.prog 19 #[.slice (some ⟨ad.block, ad.off + 18, none⟩) 14 (c0 - 18), .func (.func 20) #[] #[]] w' (fun e w2 => e = .returned (.bool ((l.drop 18).any (· != 0))) ∧ Drawn0 w' w2) from by
    have h1 := slices_ContainsFunc_byte_byte_at_inode_Get_lit1.calls 15 (some ⟨ad.block, ad.off + 18, none⟩) (c0 - 18) (l.drop 18) _ w' (by have := drop18_C (Kd.C_below hr hb) hl; rw [show (l.drop 18).length = 14 by rw [List.length_drop, hl]]; exact this) (by rw [List.length_drop, hl]; omega) (any_eq 15 (l.drop 18) (by rw [List.length_drop, hl]; decide) (by rw [List.length_drop, hl]; decide))
    rw [show (l.drop 18).length = 14 by rw [List.length_drop, hl]] at h1
    exact h1)
  have hcase : 3 < z0 ∨ (z0 ≤ 3 ∧ z1 ≠ 0) ∨ (z0 ≤ 3 ∧ z1 = 0 ∧ (l.drop 18).any (· != 0) = true) := by
    by_cases a : z0 ≤ 3
    · by_cases b : z1 = 0
      · refine .inr (.inr ⟨a, b, ?_⟩)
        cases h : (l.drop 18).any (· != 0) with
        | true => rfl
        | false => exact absurd ⟨hl, by rw [hz0]; exact a, by rw [hz1]; exact b, h⟩ hno
      · exact .inr (.inl ⟨a, b⟩)
    · exact .inl (by omega)
  clear hr hl hu hno hcell hz0 hz1
  rcases hcase with h3 | ⟨h3, h1⟩ | ⟨h3, h1, ha⟩
  · have hd : decide (3 < z0) = true := decide_eq_true h3
    go_enter Try.func10, Try.ntmps10
    go_wp2_with (first | ((with_reducible refine gate_op (N := .box 27 (.tmp 0)) rfl ?_); refine wl_box rfl 27 _ rfl (.slice (some ad) 32 c0) rfl ?_; intro g1 hg w1 hblk hb hsz; have HG1 := Aside0.mk (show w.heap.size ≤ g1 by rw [hg]; exact Nat.le_refl _); have hc1 : w1.cell? ⟨g1, 0, none⟩ = some (.slice (some ad) 32 c0) := cell_of_row w1 g1 0 _ _ _ hblk; have HK1 := Aside0.mk hblk; have HB := Aside0.mk hb; clear hg hblk hb hsz) | ((with_reducible refine gate_dst (N := 2) rfl ?_); refine wl_alloc rfl 26 rfl _ zero_ino ?_; intro g2 hg w2 hblk hb hsz; have HNE := Aside0.mk (show g1 ≠ g2 by have := blk_lt HK1.out; omega); have HG2 := Aside0.mk (show w.heap.size ≤ g2 by rw [hg]; exact HB.out.size); have HK2 := Aside0.mk (show InoAt 26 w2 g2 InoV.nought from hblk); have n0_ := Aside0.mk (blk_below HK1.out hb); have n1_ := Aside0.mk (HB.out.trans (hb.mono HB.out.size)); clear hg hblk hb hsz HK1 HB hc1; have HK1 := n0_; have HB := n1_; clear n0_ n1_; have hc1 : w2.cell? ⟨g1, 0, none⟩ = some (.slice (some ad) 32 c0) := cell_of_row w2 g1 0 _ _ _ HK1.out; have hcA := HC0.out _ HB.out) | ((with_reducible refine gate_op (N := .build 26 #[]) rfl ?_); refine wl_val rfl (.agg InoV.nought.cells) (by unfold execOp; simp [build_ino_nought]) ?_) | ((with_reducible refine gate_store (t := 26) (p := 2) rfl ?_); refine wl_store_all rfl rfl 26 _ _ rfl g2 rfl _ _ HK2.out.blk (.agg InoV.nought.cells) rfl rfl InoV.one info_ino ?_; intro w3 hk3 hg3 hs3; have HK3 := Aside0.mk (show InoAt 26 w3 g2 InoV.nought from hk3); have n1_ := Aside0.mk (show Below w.heap.size w w3 from grown_below HB.out hg3 HB.out.size HG2.out); clear hk3 hg3 hs3 HB HK2; have HB := n1_; clear n1_))
    exact bodyPost_ret (results_cell2 rfl _ _ g2 26 InoV.nought.cells _ rfl HK3.out.blk Try.underlying26 rfl info_ino) rfl ⟨rfl, HB.out⟩
  · have hd : decide (3 < z0) = false := decide_eq_false (by omega)
    have hd1 : (z1 == 0) = false := beq_eq_false_iff_ne.mpr h1
    have hd2 : (z1 != 0) = true := bne_iff_ne.mpr h1
    go_enter Try.func10, Try.ntmps10
    go_wp2_with (first | ((with_reducible refine gate_op (N := .box 27 (.tmp 0)) rfl ?_); refine wl_box rfl 27 _ rfl (.slice (some ad) 32 c0) rfl ?_; intro g1 hg w1 hblk hb hsz; have HG1 := Aside0.mk (show w.heap.size ≤ g1 by rw [hg]; exact Nat.le_refl _); have hc1 : w1.cell? ⟨g1, 0, none⟩ = some (.slice (some ad) 32 c0) := cell_of_row w1 g1 0 _ _ _ hblk; have HK1 := Aside0.mk hblk; have HB := Aside0.mk hb; clear hg hblk hb hsz) | ((with_reducible refine gate_dst (N := 2) rfl ?_); refine wl_alloc rfl 26 rfl _ zero_ino ?_; intro g2 hg w2 hblk hb hsz; have HNE := Aside0.mk (show g1 ≠ g2 by have := blk_lt HK1.out; omega); have HG2 := Aside0.mk (show w.heap.size ≤ g2 by rw [hg]; exact HB.out.size); have HK2 := Aside0.mk (show InoAt 26 w2 g2 InoV.nought from hblk); have n0_ := Aside0.mk (blk_below HK1.out hb); have n1_ := Aside0.mk (HB.out.trans (hb.mono HB.out.size)); clear hg hblk hb hsz HK1 HB hc1; have HK1 := n0_; have HB := n1_; clear n0_ n1_; have hc1 : w2.cell? ⟨g1, 0, none⟩ = some (.slice (some ad) 32 c0) := cell_of_row w2 g1 0 _ _ _ HK1.out; have hcA := HC0.out _ HB.out; have hcB := HC1.out _ HB.out) | ((with_reducible refine gate_op (N := .build 26 #[]) rfl ?_); refine wl_val rfl (.agg InoV.nought.cells) (by unfold execOp; simp [build_ino_nought]) ?_) | ((with_reducible refine gate_store (t := 26) (p := 2) rfl ?_); refine wl_store_all rfl rfl 26 _ _ rfl g2 rfl _ _ HK2.out.blk (.agg InoV.nought.cells) rfl rfl InoV.one info_ino ?_; intro w3 hk3 hg3 hs3; have HK3 := Aside0.mk (show InoAt 26 w3 g2 InoV.nought from hk3); have n1_ := Aside0.mk (show Below w.heap.size w w3 from grown_below HB.out hg3 HB.out.size HG2.out); clear hk3 hg3 hs3 HB HK2; have HB := n1_; clear n1_))
    exact bodyPost_ret (results_cell2 rfl _ _ g2 26 InoV.nought.cells _ rfl HK3.out.blk Try.underlying26 rfl info_ino) rfl ⟨rfl, HB.out⟩
  · have hd : decide (3 < z0) = false := decide_eq_false (by omega)
    subst h1
    rw [ha] at HCON
    have h32 : (32 : Int) ≤ (c0 : Int) := by omega
    clear ha
    go_enter Try.func10, Try.ntmps10
    go_wp2_with (first | ((with_reducible refine gate_op (N := .box 27 (.tmp 0)) rfl ?_); refine wl_box rfl 27 _ rfl (.slice (some ad) 32 c0) rfl ?_; intro g1 hg w1 hblk hb hsz; have HG1 := Aside0.mk (show w.heap.size ≤ g1 by rw [hg]; exact Nat.le_refl _); have hc1 : w1.cell? ⟨g1, 0, none⟩ = some (.slice (some ad) 32 c0) := cell_of_row w1 g1 0 _ _ _ hblk; have HK1 := Aside0.mk hblk; have HB := Aside0.mk hb; clear hg hblk hb hsz) | ((with_reducible refine gate_dst (N := 2) rfl ?_); refine wl_alloc rfl 26 rfl _ zero_ino ?_; intro g2 hg w2 hblk hb hsz; have HNE := Aside0.mk (show g1 ≠ g2 by have := blk_lt HK1.out; omega); have HG2 := Aside0.mk (show w.heap.size ≤ g2 by rw [hg]; exact HB.out.size); have HK2 := Aside0.mk (show InoAt 26 w2 g2 InoV.nought from hblk); have n0_ := Aside0.mk (blk_below HK1.out hb); have n1_ := Aside0.mk (HB.out.trans (hb.mono HB.out.size)); clear hg hblk hb hsz HK1 HB hc1; have HK1 := n0_; have HB := n1_; clear n0_ n1_; have hc1 : w2.cell? ⟨g1, 0, none⟩ = some (.slice (some ad) 32 c0) := cell_of_row w2 g1 0 _ _ _ HK1.out; have hcA := HC0.out _ HB.out; have hcB := HC1.out _ HB.out) | ((with_reducible refine gate_op (N := .build 26 #[]) rfl ?_); refine wl_val rfl (.agg InoV.nought.cells) (by unfold execOp; simp [build_ino_nought]) ?_) | ((with_reducible refine gate_store (t := 26) (p := 2) rfl ?_); refine wl_store_all rfl rfl 26 _ _ rfl g2 rfl _ _ HK2.out.blk (.agg InoV.nought.cells) rfl rfl InoV.one info_ino ?_; intro w3 hk3 hg3 hs3; have HK3 := Aside0.mk (show InoAt 26 w3 g2 InoV.nought from hk3); have n1_ := Aside0.mk (show Below w.heap.size w w3 from grown_below HB.out hg3 HB.out.size HG2.out); clear hk3 hg3 hs3 HB HK2; have HB := n1_; clear n1_) | (go_at_call 19; (with_reducible refine (HCON.out _ HB.out).mono ?_); rintro e w4 ⟨rfl, hdr⟩; have hb := hdr.below; have n0_ := Aside0.mk (blk_below HK1.out hb); have n1_ := Aside0.mk (HB.out.trans (hb.mono HB.out.size)); have n2_ := Aside0.mk (show InoAt 26 w4 g2 InoV.nought from blk_below HK2.out.blk hb); clear hb hdr HK1 HK2 HB hc1 hcA hcB; have HK1 := n0_; have HB := n1_; have HK2 := n2_; clear n0_ n1_ n2_))
    exact bodyPost_ret (results_cell2 rfl _ _ g2 26 InoV.nought.cells _ rfl HK3.out.blk Try.underlying26 rfl info_ino) rfl ⟨rfl, HB.out⟩
end Go.Proofs.Ytpdobinpndfgfaa.Q
