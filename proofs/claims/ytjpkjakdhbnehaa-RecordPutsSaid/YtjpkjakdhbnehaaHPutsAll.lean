/- RecordPuts, one text (a claim has at most 60 files). -/
import Derived.Test.YtjpkjakdhbnehaaHStr
import Derived.Test.YtjpkjakdhbnehaaQxf29
import Derived.Test.YtjpkjakdhbnehaaPureR
import Derived.Test.YtjpkjakdhbnehaaQxf11
import Derived.Test.YtjpkjakdhbnehaaQxf10
import Derived.Test.YtjpkjakdhbnehaaQxf13
import Derived.Test.YtjpkjakdhbnehaaQxf9
import Derived.Test.YtjpkjakdhbnehaaQxf12
import Derived.Test.YtjpkjakdhbnehaaQxf8
namespace Go.Proofs.Ytjpkjakdhbnehaa.Q
section
open Go.RowKit Go.Proofs.YtjpkjakdhbnehaaW.PrintWords Go.Proofs.YtjpkjakdhbnehaaW.PrintLast Go.Proofs.YtjpkjakdhbnehaaW.PrintMore Go.Proofs.Ytjpkjakdhbnehaa.Pure
attribute [local go_sem] max2_int min2_int max_two min_two max_three min_three max_four min_four
set_option linter.unusedVariables false
set_option linter.unusedSimpArgs false
/-- A record of the document. -/
structure RecV where
  b : Int
  s : ByteArray
  last : Bool
def RecV.cells (x : RecV) : Array Value := #[.int .u64 x.b, .string x.s, .bool x.last]
def RecV.nought : RecV := ⟨0, ⟨#[]⟩, false⟩
theorem RecV.one {x : RecV} : ∀ u ∈ x.cells.toList, u.oneCell' = true := by
  intro u hu
  simp only [RecV.cells, List.mem_cons, List.not_mem_nil, or_false] at hu
  rcases hu with rfl | rfl | rfl <;> rfl
theorem info_R : (Try.prog.info? 39).map (·.size) = some 3 := by kernel_rfl
theorem zero_R : (Try.prog.info? 39).map (·.zero) = some (some (.agg RecV.nought.cells)) := by kernel_rfl
theorem info_u64 : (Try.prog.info? 22).map (·.size) = some 1 := by kernel_rfl
theorem info_str : (Try.prog.info? 9).map (·.size) = some 1 := by kernel_rfl
theorem info_bool : (Try.prog.info? 4).map (·.size) = some 1 := by kernel_rfl
def RecAt (w : World) (g : Nat) (x : RecV) : Prop := w.heap[g]? = some (.cells x.cells 39 (0, 0))
theorem RecAt.blk {w : World} {g : Nat} {x : RecV} (h : RecAt w g x) : w.heap[g]? = some (.cells x.cells 39 (0, 0)) := h
/-- What bytes are a record. -/
def formRec (l : List Int) : RecV × Int := (⟨(formR l).1, strOfNums (formR l).2.1, (formR l).2.2.1⟩, (formR l).2.2.2)
theorem formRec_no {l : List Int} (h : ¬ (l.length = 176 ∧ rd l 0 = 1 ∧ rd l 1 ≤ 1 ∧ ((l.take 8).drop 2).any (· != 0) = false)) : formRec l = (RecV.nought, 11) := by
  unfold formRec formR
  rw [if_neg h]
  rfl
theorem any2 (l : List Int) (hl : l.length = 176) : ((l.take 8).drop 2).any (· != 0) = false ↔ ∀ i : Nat, 2 ≤ i → i < 8 → rd l (i : Int) = 0 := by
  rw [List.any_eq_false]
  constructor
  · intro h i h1 h2
    have h3 : l[i]'(by omega) ∈ (l.take 8).drop 2 := by
      refine List.mem_iff_getElem.2 ⟨i - 2, by rw [List.length_drop, List.length_take]; omega, ?_⟩
      rw [List.getElem_drop, List.getElem_take]
      congr 1
      omega
    have h4 := h _ h3
    rw [rd_nat l i (by omega)]
    simpa using h4
  · intro h x hx
    obtain ⟨j, hj, rfl⟩ := List.mem_iff_getElem.1 hx
    rw [List.length_drop, List.length_take] at hj
    have h2 := h (2 + j) (by omega) (by omega)
    rw [rd_nat l (2 + j) (by omega)] at h2
    rw [List.getElem_drop, List.getElem_take]
    simpa using h2
theorem str_extract (s : ByteArray) (n : Nat) (h : n ≤ s.size) : s.extract n s.size = strOfNums ((bytesOf s).drop n) := by
  apply ByteArray.ext
  rw [ByteArray.data_extract]
  apply Array.toList_inj.1
  have h1 : s.data.toList.length = s.size := by rw [Array.length_toList]; rfl
  simp only [strOfNums, bytesOf, List.map_drop, List.map_map, Array.toList_extract, List.extract_eq_take_drop]
  rw [List.take_of_length_le (by rw [List.length_drop, h1]; exact Nat.le_refl _)]
  congr 1
  refine (List.map_id'' ?_ _).symm
  intro x
  simp
theorem get88 {l : List Int} {gr c : Nat} {W : World} (hl : l.length = 176) (hu : u8s l) (hcc : 176 ≤ c) (hrow : Kd.C (Kd.int .u8) W (some ⟨gr, 0, none⟩) l.length l) :
    Calls Try.prog 29 #[.slice (some ⟨gr, 0, none⟩) 176 c, .int .i64 8, .int .i64 8] W (fun e w' => e = .returned (.tuple #[.int .u64 (getV l 8 8).1, .int .i64 0]) ∧ Drawn0 W w') := by
  have h2 := refget_eq 20 (Nat.le_refl _) l 8 8 hu (by rw [hl]; decide) (by omega)
  have h3 : getV l 8 8 = ((getV l 8 8).1, 0) := by
    have h0 : insideV l.length 8 8 = 0 := insideV_of (by decide) (by decide) (by decide) (by rw [hl]; decide)
    unfold getV
    rw [if_pos h0]
  rw [h3] at h2
  have h4 := reliquaryref01_Get.calls 20 (some ⟨gr, 0, none⟩) c l 8 8 _ _ W hrow (by rw [hl]; exact hcc) h2
  rw [hl] at h4
  exact h4
structure RS (w w' : World) (g2 g4 : Nat) (x : RecV) : Prop where
  below : Below w.heap.size w w'
  k2 : RecAt w' g2 RecV.nought
  k4 : RecAt w' g4 x
theorem RS.go {w w1 w2 : World} {g2 g4 : Nat} {x : RecV} (h : RS w w1 g2 g4 x) (hb : Below w1.heap.size w1 w2) : RS w w2 g2 g4 x :=
  ⟨h.below.trans (hb.mono h.below.size), blk_below h.k2.blk hb, blk_below h.k4.blk hb⟩
theorem RS.put {w w1 w2 : World} {g2 g4 : Nat} {x y : RecV} (h : RS w w1 g2 g4 x) (hg : w1.grownBy w2 (some g4)) (hk : RecAt w2 g4 y) (h2 : g2 ≠ g4) (h4 : w.heap.size ≤ g4) : RS w w2 g2 g4 y :=
  ⟨grown_below h.below hg h.below.size h4, grown_blk hg h.k2.blk (fun e => h2 (by injection e)), hk⟩
set_option maxHeartbeats 4000000 in
set_option maxRecDepth 100000 in
theorem ref_Get.calls (s : ByteArray) (w : World) (hs : s.size ≤ 300) :
    Calls Try.prog 14 #[.string s] w fun e w' => e = .returned (.tuple #[.agg (formRec (bytesOf s)).1.cells, .int .i64 (formRec (bytesOf s)).2]) ∧ Below w.heap.size w w' := by
  have hl : (bytesOf s).length = s.size := bytesOf_length s
  by_cases hn : s.size = 176
  case neg =>
    have hf : formRec (bytesOf s) = (RecV.nought, 11) := formRec_no (fun h => hn (by rw [← hl]; exact h.1))
    rw [hf]
    have h1 : ((s.size : Int) == 176) = false := by simpa using (show ¬ (s.size : Int) = 176 by omega)
    have h2 : ((s.size : Int) != 176) = true := by simpa using (show ¬ (s.size : Int) = 176 by omega)
    have h3 : ((s.size : Int) = 176) = False := eq_false (by omega)
    clear hf hn hl hs
    go_enter Try.func14, Try.ntmps14
    go_wp2_with (first | ((with_reducible refine gate_dst (N := 2) rfl ?_); refine wl_alloc rfl 39 rfl _ zero_R ?_; intro g2 hg w2 hblk hb hsz; have HG2 := Aside0.mk (show w.heap.size ≤ g2 by rw [hg]; exact Nat.le_refl _); have HK2 := Aside0.mk (show RecAt w2 g2 RecV.nought from hblk); have HB := Aside0.mk hb; clear hg hblk hb hsz) | ((with_reducible refine gate_dst (N := 4) rfl ?_); refine wl_alloc rfl 39 rfl _ zero_R ?_; intro g4 hg w3 hblk hb hsz; have HNE := Aside0.mk (show g2 ≠ g4 by have := blk_lt HK2.out.blk; omega); have HG4 := Aside0.mk (show w.heap.size ≤ g4 by rw [hg]; exact HB.out.size); have HR := Aside0.mk (show RS w w3 g2 g4 RecV.nought from ⟨HB.out.trans (hb.mono HB.out.size), blk_below HK2.out.blk hb, hblk⟩); clear hg hblk hb hsz HK2 HB) | ((with_reducible refine gate_op (N := .load 39 (.tmp 4)) rfl ?_); refine wl_load_blk rfl _ _ rfl g4 rfl RecV.nought.cells 39 _ HR.out.k4.blk Try.underlying39 rfl info_R ?_) | ((with_reducible refine gate_store (t := 39) (p := 2) rfl ?_); refine wl_store_all rfl rfl 39 _ _ rfl g2 rfl _ _ HR.out.k2.blk (.agg RecV.nought.cells) rfl rfl RecV.one info_R ?_; intro w8 hk8 hg8 hs8; have HK8 := Aside0.mk (show RecAt w8 g2 RecV.nought from hk8); have HB := Aside0.mk (show Below w.heap.size w w8 from grown_below HR.out.below hg8 HR.out.below.size HG2.out); clear hk8 hg8 hs8 HR))
    all_goals exact bodyPost_ret (results_cell2 rfl _ _ g2 39 RecV.nought.cells _ rfl HK8.out.blk Try.underlying39 rfl info_R) rfl ⟨rfl, HB.out⟩
  case pos =>
    obtain ⟨l, hls⟩ : ∃ l, bytesOf s = l := ⟨_, rfl⟩
    have hu : u8s l := by
      rw [← hls]
      intro x hx
      obtain ⟨y, hy, rfl⟩ := List.mem_map.1 hx
      have := y.toNat_lt
      omega
    rw [hls] at hl ⊢
    have hl32 : l.length = 176 := by rw [hl, hn]
    have hrd : ∀ i, bt s i = rd l i := fun i => by rw [← rd_bytesOf, hls]
    have HZ := Aside0.mk (fun (i : Nat) (h : i < s.size) => show rd l (i : Int) = ((s[i]'h).toNat : Int) from by rw [← hrd, ← bt_at s i h]; rfl)
    have HL := Aside0.mk hl32
    have HN := Aside0.mk hn
    have HU := Aside0.mk hu
    have HLS := Aside0.mk hls
    have HEX := Aside0.mk (show s.extract 16 s.size = strOfNums (l.drop 16) from by rw [← hls]; exact str_extract s 16 (by omega))
    have hg : (s.size : Int) = 176 := by rw [hn]; rfl
    clear hs hl hn hls hu hl32 hrd
    go_enter Try.func14, Try.ntmps14
    go_wp2_with (first | ((with_reducible refine gate_dst (N := 2) rfl ?_); refine wl_alloc rfl 39 rfl _ zero_R ?_; intro g2 hg w2 hblk hb hsz; have HG2 := Aside0.mk (show w.heap.size ≤ g2 by rw [hg]; exact Nat.le_refl _); have HK2 := Aside0.mk (show RecAt w2 g2 RecV.nought from hblk); have HB := Aside0.mk hb; clear hg hblk hb hsz) | ((with_reducible refine gate_dst (N := 4) rfl ?_); refine wl_alloc rfl 39 rfl _ zero_R ?_; intro g4 hg w3 hblk hb hsz; have HNE := Aside0.mk (show g2 ≠ g4 by have := blk_lt HK2.out.blk; omega); have HG4 := Aside0.mk (show w.heap.size ≤ g4 by rw [hg]; exact HB.out.size); have HR := Aside0.mk (show RS w w3 g2 g4 RecV.nought from ⟨HB.out.trans (hb.mono HB.out.size), blk_below HK2.out.blk hb, hblk⟩); clear hg hblk hb hsz HK2 HB) | ((with_reducible refine gate_op (N := .load 39 (.tmp 4)) rfl ?_); refine wl_load_blk rfl _ _ rfl g4 rfl RecV.nought.cells 39 _ HR.out.k4.blk Try.underlying39 rfl info_R ?_) | ((with_reducible refine gate_store (t := 39) (p := 2) rfl ?_); refine wl_store_all rfl rfl 39 _ _ rfl g2 rfl _ _ HR.out.k2.blk (.agg RecV.nought.cells) rfl rfl RecV.one info_R ?_; intro w8 hk8 hg8 hs8; have HK8 := Aside0.mk (show RecAt w8 g2 RecV.nought from hk8); have HB := Aside0.mk (show Below w.heap.size w w8 from grown_below HR.out.below hg8 HR.out.below.size HG2.out); clear hk8 hg8 hs8 HR))
    · have hf : formRec l = (RecV.nought, 11) := formRec_no (by
        rintro ⟨_, _, h4, _⟩
        have z1 := HZ.out 1 (by rw [HN.out]; decide)
        have : rd l 1 = rd l ((1 : Nat) : Int) := rfl
        omega)
      rw [hf]
      exact bodyPost_ret (results_cell2 rfl _ _ g2 39 RecV.nought.cells _ rfl HK8.out.blk Try.underlying39 rfl info_R) rfl ⟨rfl, HB.out⟩
    · have HZ0 := Aside0.mk (show rd l 0 = 1 from by
        have z0 := HZ.out 0 (by rw [HN.out]; decide)
        have : rd l 0 = rd l ((0 : Nat) : Int) := rfl
        omega)
      have HZ1 := Aside0.mk (show rd l 1 ≤ 1 from by
        have z1 := HZ.out 1 (by rw [HN.out]; decide)
        have : rd l 1 = rd l ((1 : Nat) : Int) := rfl
        omega)
      go_loopg [5] 6 (fun gk v5 w' => ∃ i : Nat, v5 = .int .i64 i ∧ Aside0 (gk + i = 8) ∧ Aside0 (2 ≤ i ∧ ∀ j : Nat, 2 ≤ j → j < i → rd l (j : Int) = 0) ∧ Aside0 (RS w w' g2 g4 RecV.nought))
      case atStart => exact ⟨2, rfl, ⟨by omega⟩, ⟨by omega, fun j h1 h2 => by omega⟩, HR⟩
      case round =>
        clear HR
        obtain ⟨i, rfl, HI, HJ, HR⟩ := hrel
        by_cases hi : i < 8
        · have hil : (i : Int) < 8 := by omega
          have hil2 : (i : Int) < 176 := by omega
          have HIL := Aside0.mk hi
          have HI176 := Aside0.mk (show i < s.size by rw [HN.out]; omega)
          obtain ⟨z, hz⟩ : ∃ z, rd l (i : Int) = z := ⟨_, rfl⟩
          have HZI := Aside0.mk hz
          by_cases hz0 : z = 0
          · have hzi := HZ.out i HI176.out
            rw [HZI.out, hz0] at hzi
            have HZC := Aside0.mk (show rd l (i : Int) = 0 from HZI.out.trans hz0)
            have hzb : (((s[i]'(HI176.out)).toNat : Int) != 0) = false := by rw [← hzi]; rfl
            clear hzi hz0 hz HZI
            go_wp2_with (fail)
            go_roundg (gk - 1)
            case measure => have := HI.out; have := HIL.out; omega
            case rel => exact ⟨i + 1, by go_num, ⟨by have := HI.out; have := HIL.out; omega⟩, ⟨by have := HJ.out.1; omega, fun j h1 h2 => by
              by_cases hj : j = i
              · subst hj; exact HZC.out
              · exact HJ.out.2 j h1 (by omega)⟩, HR⟩
          · have HNF := Aside0.mk (show formRec l = (RecV.nought, 11) from formRec_no (by
              rintro ⟨_, _, _, h6⟩
              exact hz0 ((HZI.out.symm.trans ((any2 l HL.out).1 h6 i HJ.out.1 HIL.out)))))
            have hzb : (((s[i]'(HI176.out)).toNat : Int) != 0) = true := by rw [← HZ.out i HI176.out, HZI.out]; simpa using hz0
            clear hz0 hz
            go_wp2_with (first | ((with_reducible refine gate_op (N := .load 39 (.tmp 4)) rfl ?_); refine wl_load_blk rfl _ _ rfl g4 rfl RecV.nought.cells 39 _ HR.out.k4.blk Try.underlying39 rfl info_R ?_) | ((with_reducible refine gate_store (t := 39) (p := 2) rfl ?_); refine wl_store_all rfl rfl 39 _ _ rfl g2 rfl _ _ HR.out.k2.blk (.agg RecV.nought.cells) rfl rfl RecV.one info_R ?_; intro w8 hk8 hg8 hs8; have HK8 := Aside0.mk (show RecAt w8 g2 RecV.nought from hk8); have HB := Aside0.mk (show Below w.heap.size w w8 from grown_below HR.out.below hg8 HR.out.below.size HG2.out); clear hk8 hg8 hs8 HR))
            rw [HNF.out]
            exact bodyPost_ret (results_cell2 rfl _ _ g2 39 RecV.nought.cells _ rfl HK8.out.blk Try.underlying39 rfl info_R) rfl ⟨rfl, HB.out⟩
        · have h8 : i = 8 := by have := HI.out; omega
          subst h8
          have HF := Aside0.mk (show formRec l = (⟨(getV l 8 8).1, strOfNums (l.drop 16), rd l 1 == 1⟩, 0) from by
            unfold formRec formR
            rw [if_pos ⟨HL.out, HZ0.out, HZ1.out, (any2 l HL.out).2 HJ.out.2⟩])
          have HLST := Aside0.mk (show (((s[1]'(by rw [HN.out]; decide)).toNat : Int) == 1) = (rd l 1 == 1) from by rw [← HZ.out 1 (by rw [HN.out]; decide)]; rfl)
          clear hi
          go_wp2_with (first | ((with_reducible refine gate_op (N := .convert 9 23 (.tmp 34)) rfl ?_); refine wl_conv rfl _ _ _ _ rfl s rfl rfl rfl rfl (by rw [HN.out]; decide) 176 HN.out l HLS.out ?_; intro gr hgr w5 ob c hb5 hob hrow hcc; have n0_ := Aside0.mk (HR.out.go hb5); have HGET := Aside0.mk (get88 HL.out HU.out hcc (hrow w5 hob)); clear hgr hb5 hob hrow hcc HR; have HR := n0_; clear n0_) | (go_at_call 29; (with_reducible refine HGET.out.mono ?_); rintro e w6 ⟨rfl, hdr⟩; have n0_ := Aside0.mk (HR.out.go hdr.below); clear hdr HR HGET; have HR := n0_; clear n0_) | ((with_reducible refine gate_store (t := 4) (p := 32) rfl ?_); refine wl_store_cell rfl rfl 4 _ _ rfl g4 2 rfl _ 39 HR.out.k4.blk (.bool (((s[1]'(by rw [HN.out]; decide)).toNat : Int) == 1)) rfl rfl ?side1 rfl info_bool ?_; (case side1 => show 2 < 3; decide); intro w7 hk7 hg7 hs7; have n0_ := Aside0.mk (HR.out.put hg7 (show RecAt w7 g4 ⟨0, ⟨#[]⟩, (((s[1]'(by rw [HN.out]; decide)).toNat : Int) == 1)⟩ from hk7) HNE.out HG4.out); clear hk7 hg7 hs7 HR; have HR := n0_; clear n0_) | ((with_reducible refine gate_store (t := 22) (p := 40) rfl ?_); refine wl_store_cell rfl rfl 22 _ _ rfl g4 0 rfl _ 39 HR.out.k4.blk (.int .u64 (getV l 8 8).1) rfl rfl ?side1 rfl info_u64 ?_; (case side1 => show 0 < 3; decide); intro w7 hk7 hg7 hs7; have n0_ := Aside0.mk (HR.out.put hg7 (show RecAt w7 g4 ⟨(getV l 8 8).1, ⟨#[]⟩, (((s[1]'(by rw [HN.out]; decide)).toNat : Int) == 1)⟩ from hk7) HNE.out HG4.out); clear hk7 hg7 hs7 HR; have HR := n0_; clear n0_) | ((with_reducible refine gate_store (t := 9) (p := 44) rfl ?_); refine wl_store_cell rfl rfl 9 _ _ rfl g4 1 rfl _ 39 HR.out.k4.blk (.string (s.extract 16 s.size)) rfl rfl ?side1 rfl info_str ?_; (case side1 => show 1 < 3; decide); intro w7 hk7 hg7 hs7; have n0_ := Aside0.mk (HR.out.put hg7 (show RecAt w7 g4 ⟨(getV l 8 8).1, s.extract 16 s.size, (((s[1]'(by rw [HN.out]; decide)).toNat : Int) == 1)⟩ from hk7) HNE.out HG4.out); clear hk7 hg7 hs7 HR; have HR := n0_; clear n0_) | ((with_reducible refine gate_op (N := .load 39 (.tmp 4)) rfl ?_); refine wl_load_blk rfl _ _ rfl g4 rfl (RecV.mk (getV l 8 8).1 (s.extract 16 s.size) (((s[1]'(by rw [HN.out]; decide)).toNat : Int) == 1)).cells 39 _ HR.out.k4.blk Try.underlying39 rfl info_R ?_) | ((with_reducible refine gate_store (t := 39) (p := 2) rfl ?_); refine wl_store_all rfl rfl 39 _ _ rfl g2 rfl _ _ HR.out.k2.blk (.agg (RecV.mk (getV l 8 8).1 (s.extract 16 s.size) (((s[1]'(by rw [HN.out]; decide)).toNat : Int) == 1)).cells) rfl rfl RecV.one info_R ?_; intro w8 hk8 hg8 hs8; have HK8 := Aside0.mk (show RecAt w8 g2 (RecV.mk (getV l 8 8).1 (s.extract 16 s.size) (((s[1]'(by rw [HN.out]; decide)).toNat : Int) == 1)) from hk8); have HB := Aside0.mk (show Below w.heap.size w w8 from grown_below HR.out.below hg8 HR.out.below.size HG2.out); clear hk8 hg8 hs8 HR))
          rw [HF.out, ← HLST.out, ← HEX.out]
          exact bodyPost_ret (results_cell2 rfl _ _ g2 39 (RecV.mk (getV l 8 8).1 (s.extract 16 s.size) (((s[1]'(by rw [HN.out]; decide)).toNat : Int) == 1)).cells _ rfl HK8.out.blk Try.underlying39 rfl info_R) rfl ⟨rfl, HB.out⟩
    · have hf : formRec l = (RecV.nought, 11) := formRec_no (by
        rintro ⟨_, h3, _, _⟩
        have z0 := HZ.out 0 (by rw [HN.out]; decide)
        have : rd l 0 = rd l ((0 : Nat) : Int) := rfl
        omega)
      rw [hf]
      exact bodyPost_ret (results_cell2 rfl _ _ g2 39 RecV.nought.cells _ rfl HK8.out.blk Try.underlying39 rfl info_R) rfl ⟨rfl, HB.out⟩
end
section
open Go.RowKit Go.Proofs.YtjpkjakdhbnehaaW.PrintWords Go.Proofs.YtjpkjakdhbnehaaW.PrintLast Go.Proofs.YtjpkjakdhbnehaaW.PrintMore Go.Proofs.Ytjpkjakdhbnehaa.Pure
set_option linter.unusedVariables false
set_option linter.unusedSimpArgs false
theorem str_append (a b : List Int) : strOfNums a ++ strOfNums b = strOfNums (a ++ b) := by
  apply ByteArray.ext
  rw [ByteArray.data_append]
  simp [strOfNums, List.map_append]
/-- A record's bytes, or none. -/
def putRow (b : Int) (l : List Int) (last : Bool) : List Int := if l.length = 160 then recL b last l else []
def putErr (l : List Int) : Int := if l.length = 160 then 0 else 1
theorem ref_Put_eq (b : Int) (l : List Int) (last : Bool) (hb : 0 ≤ b) (hb1 : b < 18446744073709551616) : reliquaryref12_Put.f 20 b (strOfNums l) last = some (strOfNums (putRow b l last), putErr l) := by
  have hp : reliquaryref01_Put.f 20 b 8 = some (lebytes 8 b) := by
    rw [refput_eq 20 (by decide) b 8 hb hb1]
    rfl
  unfold reliquaryref12_Put.f putRow putErr
  rw [strOfNums_size]
  by_cases h : l.length = 160
  · rw [if_pos (by omega), if_pos h, if_pos h, Option.bind_some, hp]
    have e : ∀ h8 : List Int, h8.length = 8 → (if h8.length + (lebytes 8 b).length < 140737488355328 then ((some (h8 ++ lebytes 8 b : List Int)).bind fun y210 => (if (strOfNums y210).size + l.length ≤ 9223372036854775807 then (some ((strOfNums y210) ++ strOfNums l, (0 : Int))) else (none))) else (none)) = some (strOfNums (h8 ++ lebytes 8 b ++ l), 0) := by
      intro h8 h8l
      rw [if_pos (by rw [h8l, lebytes_length]; decide), Option.bind_some, if_pos (by rw [strOfNums_size, List.length_append, h8l, lebytes_length, h]; decide), str_append]
    cases last with
    | true =>
      rw [if_pos rfl, if_pos (by decide), Option.bind_some, Option.bind_some]
      exact e _ rfl
    | false =>
      rw [if_neg (by decide), Option.bind_some]
      exact e _ rfl
  · rw [if_neg (by omega), if_neg h, if_neg h]
    rfl
theorem ref_Put.calls (b : Int) (l : List Int) (last : Bool) (hb : 0 ≤ b) (hb1 : b < 18446744073709551616) (w : World) :
    Calls Try.prog 11 #[.agg (RecV.mk b (strOfNums l) last).cells] w fun e w' => e = .returned (.tuple #[.string (strOfNums (putRow b l last)), .int .i64 (putErr l)]) ∧ Below w.heap.size w w' :=
  reliquaryref12_Put.calls 20 b (strOfNums l) last _ _ w (ref_Put_eq b l last hb hb1)
theorem recordOf.calls (b : Int) (A : Option Addr) (n c : Nat) (l : List Int) (last : Bool) (w : World) (hn : l.length = n) (hr : Kd.C (Kd.int .u8) w A n l) (hc : n ≤ c) :
    Calls Try.prog 12 #[.agg #[.int .u64 b, .slice A n c, .bool last]] w fun e w' => e = .returned (.agg (RecV.mk b (strOfNums l) last).cells) ∧ Below w.heap.size w w' := by
  subst hn
  exact reliquarylaw12_recordOf.calls b A c l last b (strOfNums l) last w hr hc rfl
theorem row_V {w : World} {A : Option Addr} {c : Nat} {l : List Int} (hr : Kd.C (Kd.int .u8) w A l.length l) (hc : l.length ≤ c) : Kd.V (Kd.int .u8) 5 w w.heap.size (fun _ => True) (.slice A l.length c) l := by
  refine Kd.V_mk hc ?_
  intro W2 h2
  have h := Kd.reads_of_C (enc := Value.int .u8) (d := (0 : Int)) (h1 := fun _ => rfl) hr
  refine Kd.C_of_reads (enc := Value.int .u8) (d := (0 : Int)) (h1 := fun _ => rfl) ⟨h.1, h.2.1, fun h0 => ?_⟩
  obtain ⟨ad, e, hcell⟩ := h.2.2 h0
  refine ⟨ad, e, fun j hj => ?_⟩
  have h3 := hcell j hj
  rw [← h3]
  refine cell_congr (g := ad.block) ?_ _ (add_block _ _)
  have hlt : ad.block < w.heap.size := by
    unfold World.cell? at h3
    rw [add_block] at h3
    cases hq : w.heap[ad.block]? with
    | none => rw [hq] at h3; cases h3
    | some ob => exact (Array.getElem?_eq_some_iff.1 hq).1
  exact h2 ad.block trivial hlt
theorem record_Put_hand (b : Int) (A : Option Addr) (n c : Nat) (l : List Int) (last : Bool) (hb : 0 ≤ b) (w : World) (hn : l.length = n) (hr : Kd.C (Kd.int .u8) w A n l) (hc : n ≤ c) :
    Calls Try.prog 10 #[.agg #[.int .u64 b, .slice A n c, .bool last]] w fun e w' => ∃ A' c', e = .returned (.tuple #[.slice A' (putRow b l last).length c', .int .i64 (putErr l)]) ∧ (putRow b l last).length ≤ c' ∧ Kd.C (Kd.int .u8) w' A' (putRow b l last).length (putRow b l last) ∧ Below w.heap.size w w' := by
  subst hn
  have h1 : record_Put.f 9 b l last = some (putRow b l last, putErr l) := by
    rw [record_Put_eq 9 (Nat.le_refl _) b l last hb]
    unfold putRow putErr
    by_cases h : l.length = 160
    · rw [if_pos h, if_pos h, if_pos h]
    · rw [if_neg h, if_neg h, if_neg h]
  refine (record_Put.calls 9 b (fun _ => True) A c l last _ _ w (row_V hr hc) h1).mono ?_
  rintro e w' ⟨v, rfl, ho, hbl⟩
  obtain ⟨A', c', rfl, hl, hC⟩ := Kd.R_reads ho
  exact ⟨A', c', rfl, hl, hC, hbl⟩
theorem record_Get_hand (A : Option Addr) (n c : Nat) (l : List Int) (hu : u8s l) (hl : l.length ≤ 140737488351232) (w : World) (hn : l.length = n) (hr : Kd.C (Kd.int .u8) w A n l) (hc : n ≤ c) :
    Calls Try.prog 13 #[.slice A n c] w fun e w' => ∃ A' c', e = .returned (.tuple #[.agg #[.int .u64 (formR l).1, .slice A' (formR l).2.1.length c', .bool (formR l).2.2.1], .int .i64 (formR l).2.2.2]) ∧ (formR l).2.1.length ≤ c' ∧ Kd.C (Kd.int .u8) w' A' (formR l).2.1.length (formR l).2.1 ∧ Below w.heap.size w w' := by
  subst hn
  refine (record_Get.calls 20 A c l _ _ _ _ w hr hc (record_Get_eq 20 (Nat.le_refl _) l hu hl)).mono ?_
  rintro e w' ⟨v, rfl, ho, hbl⟩
  obtain ⟨A', c', rfl, hl, hC⟩ := Kd.R_reads ho
  exact ⟨A', c', rfl, hl, hC, hbl⟩
theorem awake12.calls (w : World) : Calls Try.prog 8 #[] w fun e w' => e = .returned (.bool true) ∧ Below w.heap.size w w' := reliquarylaw12_awake.calls 20 true w (awake12_ok 20 (Nat.le_refl _))
end
section
open Go.RowKit Go.Proofs.YtjpkjakdhbnehaaW.PrintWords Go.Proofs.YtjpkjakdhbnehaaW.PrintLast Go.Proofs.YtjpkjakdhbnehaaW.PrintMore Go.Proofs.Ytjpkjakdhbnehaa.Pure
set_option linter.unusedVariables false
set_option linter.unusedSimpArgs false
/-- A record's three cells. -/
def rc (b : Int) (A : Option Addr) (n c : Nat) (last : Bool) : Array Value := #[.int .u64 b, .slice A n c, .bool last]
theorem rc_one {b : Int} {A : Option Addr} {n c : Nat} {last : Bool} : ∀ u ∈ (rc b A n c last).toList, u.oneCell' = true := by
  intro u hu
  simp only [rc, List.mem_cons, List.not_mem_nil, or_false] at hu
  rcases hu with rfl | rfl | rfl <;> rfl
theorem info_rc : (Try.prog.info? 30).map (·.size) = some 3 := by kernel_rfl
theorem zero_rc : (Try.prog.info? 30).map (·.zero) = some (some (.agg (rc 0 none 0 0 false))) := by kernel_rfl
theorem info_img : (Try.prog.info? 25).map (·.size) = some 2 := by kernel_rfl
theorem build_rc (b : Int) (A : Option Addr) (n c : Nat) (last : Bool) : ∀ W : World, (Instr.build 30 #[(0, .agg #[.int .u64 b, .slice A n c]), (1, .bool last)]).run Try.prog W = .ok (.agg (rc b A n c last)) W := fun W => by kernel_rfl
theorem lit2_K (W : World) (b : Int) (l : List Int) (A : Option Addr) (c : Nat) (hl : l.length ≤ c) (hC : Kd.C (Kd.int .u8) W A l.length l) (j : Nat) (cs : List Value) (x : S25)
    (h1 : [[Value.int .u64 b, .slice A l.length c], [Value.int .u64 b, .slice A l.length c]][j]? = some cs) (h2 : [(⟨b, l⟩ : S25), ⟨b, l⟩][j]? = some x) : k25.K W x cs := by
  match j with
  | 0 => injection h1 with h1; injection h2 with h2; subst h1; subst h2; exact k25_mk W ⟨b, l⟩ hl hC
  | 1 => injection h1 with h1; injection h2 with h2; subst h1; subst h2; exact k25_mk W ⟨b, l⟩ hl hC
  | j + 2 => simp at h1
/-- The bytes that images makes of the second image. -/
def imgRow (short : Bool) (l : List Int) : List Int := padV l (if short = true then 159 else 160)
theorem images_hand (A : Option Addr) (n c : Nat) (hn : n = 2) (hc : n ≤ c) (b : Int) (l : List Int) (short : Bool) (w : World) (hr : Kd.C k25 w A n [(⟨b, l⟩ : S25), ⟨b, l⟩]) :
    Calls Try.prog 9 #[.slice A n c, .bool short] w fun e w' => ∃ (ad : Addr) (c' : Nat) (A1 : Option Addr) (c1 : Nat), e = .returned (.slice (some ad) 2 c') ∧ 2 ≤ c' ∧ w'.cell? ⟨ad.block, ad.off + 2, none⟩ = some (.int .u64 b) ∧ w'.cell? ⟨ad.block, ad.off + 3, none⟩ = some (.slice A1 (imgRow short l).length c1) ∧ (imgRow short l).length ≤ c1 ∧ Kd.C (Kd.int .u8) w' A1 (imgRow short l).length (imgRow short l) ∧ Below w.heap.size w w' := by
  subst hn
  refine (reliquarylaw12_images.calls 400 A c [(⟨b, l⟩ : S25), ⟨b, l⟩] short _ w hr hc (images_eq 400 _ short (show 2 ≤ 1000 by decide) (show 170 * 2 + 1 ≤ 400 by decide))).mono ?_
  rintro e w' ⟨v, rfl, ho, hb⟩
  obtain ⟨A', c', rfl, hl, hC⟩ := Kd.S_reads ho
  have hq : imgs short 0 [(⟨b, l⟩ : S25), ⟨b, l⟩] = [imgV short 0 ⟨b, l⟩, imgV short 1 ⟨b, l⟩] := rfl
  rw [hq] at hl hC ⊢
  obtain ⟨ad, A1, c1, e, h0, h1, h2, h3⟩ := at_T25 hC 1 (by decide) (show (1 : Int) < 2 by decide)
  have hi : rd_T25 [imgV short 0 ⟨b, l⟩, imgV short 1 ⟨b, l⟩] 1 = ⟨b, imgRow short l⟩ := by
    show imgV short 1 ⟨b, l⟩ = _
    unfold imgV imgRow
    cases short <;> rfl
  rw [hi] at h0 h1 h2 h3
  exact ⟨ad, c', A1, c1, by rw [e]; rfl, hl, h0, h1, h2, h3, hb⟩
theorem imgRow_length (short : Bool) (l : List Int) : (imgRow short l).length = if short = true then 159 else 160 := by
  unfold imgRow padV
  cases short <;> simp <;> omega
theorem imgRow_u8s (short : Bool) {l : List Int} (h : u8s l) : u8s (imgRow short l) := by
  intro x hx
  unfold imgRow padV at hx
  rcases List.mem_append.1 hx with hx | hx
  · exact h x (List.mem_of_mem_take hx)
  · rw [List.eq_of_mem_replicate hx]; decide
/-- Of bytes that are a record, the record's bytes are these again. -/
theorem recL_formR (l : List Int) (hu : u8s l) (h : (formR l).2.2.2 = 0) : putRow (formR l).1 (formR l).2.1 (formR l).2.2.1 = l ∧ putErr (formR l).2.1 = 0 ∧ 0 ≤ (formR l).1 ∧ (formR l).1 < 18446744073709551616 := by
  unfold formR at h ⊢
  by_cases hc : l.length = 176 ∧ rd l 0 = 1 ∧ rd l 1 ≤ 1 ∧ ((l.take 8).drop 2).any (· != 0) = false
  · rw [if_pos hc]
    obtain ⟨hl, h0, h1, h2⟩ := hc
    have hd : (l.drop 16).length = 160 := by rw [List.length_drop, hl]
    have hcut : (cutV l 8 8).length = 8 := cutV_length (by decide) (by decide) (by rw [hl]; decide)
    have hg : (getV l 8 8).1 = leval (cutV l 8 8) := by
      unfold getV
      rw [if_pos (insideV_of (by decide) (by decide) (by decide) (by rw [hl]; decide))]
    have hrange := leval_range (cutV l 8 8) (u8s_cut hu _ _)
    rw [hcut] at hrange
    have hb8 : lebytes 8 (leval (cutV l 8 8)) = cutV l 8 8 := by
      have := lebytes_leval (cutV l 8 8) (u8s_cut hu _ _)
      rw [hcut] at this
      exact this
    refine ⟨?_, ?_, ?_, ?_⟩
    · show putRow (getV l 8 8).1 (l.drop 16) (rd l 1 == 1) = l
      unfold putRow
      rw [if_pos hd, hg]
      unfold recL
      rw [hb8]
      have hhead : headL (rd l 1 == 1) = l.take 8 := by
        apply List.ext_getElem
        · rw [List.length_take, hl]; rfl
        · intro j hj1 hj2
          have hj : j < 8 := by rw [List.length_take, hl] at hj2; omega
          rw [List.getElem_take, ← rd_nat l j (by omega)]
          have r1 : rd l ((1 : Nat) : Int) = rd l 1 := rfl
          have hge : 0 ≤ rd l 1 := by rw [← r1, rd_nat l 1 (by omega)]; exact (hu _ (List.getElem_mem _)).1
          have any := (any2 l hl).1 h2
          match j, hj with
          | 0, _ => exact h0.symm
          | 1, _ =>
            show (if (rd l 1 == 1) = true then (1 : Int) else 0) = rd l 1
            by_cases e : rd l 1 = 1
            · rw [e]; rfl
            · have : rd l 1 = 0 := by omega
              rw [this]; rfl
          | 2, _ => exact (any 2 (by decide) (by decide)).symm
          | 3, _ => exact (any 3 (by decide) (by decide)).symm
          | 4, _ => exact (any 4 (by decide) (by decide)).symm
          | 5, _ => exact (any 5 (by decide) (by decide)).symm
          | 6, _ => exact (any 6 (by decide) (by decide)).symm
          | 7, _ => exact (any 7 (by decide) (by decide)).symm
      rw [hhead]
      have hc2 : cutV l 8 8 = (l.take 16).drop 8 := rfl
      rw [hc2]
      have e1 : l.take 8 ++ (l.take 16).drop 8 = l.take 16 := by
        have := List.take_append_drop 8 (l.take 16)
        rw [List.take_take] at this
        exact this
      rw [e1, List.take_append_drop]
    · unfold putErr
      rw [if_pos hd]
    · show 0 ≤ (getV l 8 8).1
      rw [hg]
      exact hrange.1
    · show (getV l 8 8).1 < _
      rw [hg]
      exact hrange.2
  · rw [if_neg hc] at h
    exact absurd h (by decide)
theorem part_I (x : RecV) (W : World) : (part 37 x.cells 0).run Try.prog W = .ok (.agg #[.int .u64 x.b, .string x.s]) W := by kernel_rfl
theorem eqI (b : Int) (s : ByteArray) (d : Nat) (W : World) : (Op.equalIn (d + 2) 37 (.agg #[.int .u64 b, .string s]) (.agg #[.int .u64 b, .string s])).run Try.prog W = .ok true W := by
  have h := eqA_of (d := d + 1) (w := W) (xs := #[.int .u64 b, .string s]) (ys := #[.int .u64 b, .string s]) Try.underlying37 (by kernel_rfl) (eqf_cons (by rfl) (show (part 22 #[.int .u64 b, .string s] 0).run Try.prog W = .ok (.int .u64 b) W by kernel_rfl) (show (part 22 #[.int .u64 b, .string s] 0).run Try.prog W = .ok (.int .u64 b) W by kernel_rfl) (run_equalIn_int W d 22 .u64 .u64 _ _ Try.underlying22)
    (eqf_last (by rfl) (show (part 9 #[.int .u64 b, .string s] 1).run Try.prog W = .ok (.string s) W by kernel_rfl) (show (part 9 #[.int .u64 b, .string s] 1).run Try.prog W = .ok (.string s) W by kernel_rfl) (run_equalIn_string W d 9 _ _ Try.underlying9)))
  rw [h]
  simp
theorem eqR (x : RecV) (d : Nat) (W : World) : (Op.equalIn (d + 3) 39 (.agg x.cells) (.agg x.cells)).run Try.prog W = .ok true W := by
  have h := eqA_of (d := d + 2) (w := W) (xs := x.cells) (ys := x.cells) Try.underlying39 (by kernel_rfl) (eqf_cons (by rfl) (part_I x W) (part_I x W) (eqI x.b x.s d W)
    (eqf_last (by rfl) (show (part 4 x.cells 2).run Try.prog W = .ok (.bool x.last) W by kernel_rfl) (show (part 4 x.cells 2).run Try.prog W = .ok (.bool x.last) W by kernel_rfl) (run_equalIn_bool' W (d + 1) 4 _ _ Try.underlying4)))
  rw [h]
  simp
theorem neq_R (x : RecV) (W : World) : (binOp .neq 39 (.agg x.cells) (.agg x.cells)).run Try.prog W = .ok (.bool false) W := by
  rw [run_neq_struct, eqR x 9997 W]
  rfl
theorem guard_R (op : BinOp) (x y : Operand) (xs ys : Array Value) (W : World) : (eqGuard op 39 x y (.agg xs) (.agg ys)).run Try.prog W = .ok () W := run_eqGuard_agg W op _ x y xs ys (by kernel_rfl)
theorem formR_err (l : List Int) : (formR l).2.2.2 = 0 ∨ (formR l).2.2.2 = 11 := by
  unfold formR
  split
  · exact .inl rfl
  · exact .inr rfl
end
section
open Go.RowKit Go.Proofs.YtjpkjakdhbnehaaW.PrintWords Go.Proofs.YtjpkjakdhbnehaaW.PrintLast Go.Proofs.YtjpkjakdhbnehaaW.PrintMore Go.Proofs.Ytjpkjakdhbnehaa.Pure
attribute [local go_sem] max2_int min2_int max_two min_two max_three min_three max_four min_four
set_option linter.unusedVariables false
set_option linter.unusedSimpArgs false
/-- What stays through RecordPuts. -/
structure IP (w w' : World) (g : Nat) (b : Int) (A : Option Addr) (c : Nat) (last : Bool) (l : List Int) (A2 : Option Addr) (p : List Int) : Prop where
  below : Below w.heap.size w w'
  k : w'.heap[g]? = some (.cells (rc b A l.length c last) 30 (0, 0))
  row : Kd.C (Kd.int .u8) w' A l.length l
  put : Kd.C (Kd.int .u8) w' A2 p.length p
theorem IP.go {w w1 w2 : World} {g : Nat} {b : Int} {A : Option Addr} {c : Nat} {last : Bool} {l : List Int} {A2 : Option Addr} {p : List Int} (h : IP w w1 g b A c last l A2 p) (hb : Below w1.heap.size w1 w2) : IP w w2 g b A c last l A2 p :=
  ⟨h.below.trans (hb.mono h.below.size), blk_below h.k hb, Kd.C_below h.row hb, Kd.C_below h.put hb⟩
structure IY (w' : World) (g : Nat) (b : Int) (A : Option Addr) (c : Nat) (last : Bool) (l : List Int) : Prop where
  k : w'.heap[g]? = some (.cells (rc b A l.length c last) 30 (0, 0))
  row : Kd.C (Kd.int .u8) w' A l.length l
theorem IY.go {w1 w2 : World} {g : Nat} {b : Int} {A : Option Addr} {c : Nat} {last : Bool} {l : List Int} (h : IY w1 g b A c last l) (hb : Below w1.heap.size w1 w2) : IY w2 g b A c last l :=
  ⟨blk_below h.k hb, Kd.C_below h.row hb⟩
set_option maxHeartbeats 4000000 in
set_option maxRecDepth 100000 in
theorem RecordPuts.walk (w : World) (b0 : Int) (hb0 : 0 ≤ b0) (hb1 : b0 < 18446744073709551616) (A0 : Option Addr) (c0 : Nat) (l0 : List Int) (hr0 : Kd.C (Kd.int .u8) w A0 l0.length l0) (hc0 : l0.length ≤ c0) (hu0 : u8s l0) (last short : Bool)
    (A1 : Option Addr) (c1 : Nat) (l : List Int) (hr : Kd.C (Kd.int .u8) w A1 l.length l) (hcap : l.length ≤ c1) (hu : u8s l) (hsz : l.length ≤ 140737488351232) :
    Calls Try.prog 3 #[.agg #[.int .u64 b0, .slice A0 l0.length c0], .bool last, .bool short, .slice A1 l.length c1] w fun e w' => e = .returned (.bool true) ∧ Below w.heap.size w w' := by
  have HR0 := Aside0.mk hr0
  have HC0 := Aside0.mk hc0
  have HU := Aside0.mk hu
  have HR := Aside0.mk hr
  have HCAP := Aside0.mk hcap
  have HB0 := Aside0.mk hb0
  have HB1 := Aside0.mk hb1
  obtain ⟨R1, hR1⟩ : ∃ R1, imgRow short l0 = R1 := ⟨_, rfl⟩
  have HUR := Aside0.mk (show u8s R1 by rw [← hR1]; exact imgRow_u8s short hu0)
  have HIMG := Aside0.mk (fun (A : Option Addr) (W : World) (h : Kd.C k25 W A 2 [(⟨b0, l0⟩ : S25), ⟨b0, l0⟩]) => by have := images_hand A 2 2 rfl (Nat.le_refl _) b0 l0 short W h; rw [hR1] at this; exact this)
  obtain ⟨P, hP⟩ : ∃ P, putRow b0 R1 last = P := ⟨_, rfl⟩
  obtain ⟨pe, hpe⟩ : ∃ pe, putErr R1 = pe := ⟨_, rfl⟩
  have HPUT := Aside0.mk (fun (A : Option Addr) (c : Nat) (W : World) (h : Kd.C (Kd.int .u8) W A R1.length R1) (hc : R1.length ≤ c) => by have := record_Put_hand b0 A R1.length c R1 last hb0 W rfl h hc; rw [hP, hpe] at this; exact this)
  have HRPUT := Aside0.mk (fun (W : World) => by have := ref_Put.calls b0 R1 last hb0 hb1 W; rw [hP, hpe] at this; exact this)
  obtain ⟨yb, hyb⟩ : ∃ yb, (formR l).1 = yb := ⟨_, rfl⟩
  obtain ⟨yr, hyr⟩ : ∃ yr, (formR l).2.1 = yr := ⟨_, rfl⟩
  obtain ⟨yl, hyl⟩ : ∃ yl, (formR l).2.2.1 = yl := ⟨_, rfl⟩
  obtain ⟨ye, hye⟩ : ∃ ye, (formR l).2.2.2 = ye := ⟨_, rfl⟩
  have HGET := Aside0.mk (fun (W : World) (h : Kd.C (Kd.int .u8) W A1 l.length l) => by have := record_Get_hand A1 l.length c1 l hu hsz W rfl h hcap; rw [hyb, hyr, hyl, hye] at this; exact this)
  have HRGET := Aside0.mk (fun (h3 : l.length ≤ 300) (W : World) => by
    have h1 := ref_Get.calls (strOfNums l) W (by rw [strOfNums_size]; exact h3)
    rw [bytesOf_str hu] at h1
    have h2 : formRec l = (⟨yb, strOfNums yr, yl⟩, ye) := by rw [← hyb, ← hyr, ← hyl, ← hye]; rfl
    rw [h2] at h1
    exact h1)
  have HYE := Aside0.mk (show (ye = 0 ∧ putRow yb yr yl = l ∧ putErr yr = 0 ∧ 0 ≤ yb) ∨ ye = 11 from by
    rcases formR_err l with h | h
    · obtain ⟨h1, h2, h3, _⟩ := recL_formR l hu h
      rw [hyb, hyr, hyl] at h1
      rw [hyr] at h2
      rw [hyb] at h3
      exact .inl ⟨by rw [← hye]; exact h, h1, h2, h3⟩
    · exact .inr (by rw [← hye]; exact h))
  have HPE := Aside0.mk (show (pe = 0 ∧ P.length = 176 ∧ u8s P ∧ formR P = (b0, R1, last, 0)) ∨ pe = 1 from by
    by_cases h : R1.length = 160
    · have e : P = recL b0 last R1 := by rw [← hP]; unfold putRow; rw [if_pos h]
      exact .inl ⟨by rw [← hpe]; unfold putErr; rw [if_pos h], by rw [e]; exact recL_length b0 last R1 h, by rw [e]; exact recL_u8s b0 last R1 HUR.out, by rw [e]; exact formR_recL b0 last R1 h hb0 hb1⟩
    · exact .inr (by rw [← hpe]; unfold putErr; rw [if_neg h]))
  clear hr hr0 hc0 hcap hu hu0 hb0 hb1 hR1 hP hpe hyb hyr hyl hye
  by_cases h300 : (300 : Int) < (l.length : Int)
  · have hd : decide ((300 : Int) < (l.length : Int)) = true := decide_eq_true h300
    have hd2 : decide (300 < l.length) = true := decide_eq_true (by omega)
    go_enter Try.func3, Try.ntmps3
    go_wp2_with (first | ((with_reducible refine gate_op (N := .box 25 (.tmp 0)) rfl ?_); refine wl_box rfl 25 _ rfl (.agg #[.int .u64 b0, .slice A0 l0.length c0]) rfl ?_; intro g1 hg w1 hblk hb hsz; have HB1 := Aside0.mk hb; clear hg hblk hb hsz) | (go_at_call 8; (with_reducible refine (awake12.calls _).mono ?_); rintro e w3 ⟨rfl, hb⟩; have HB := Aside0.mk (HB1.out.trans (hb.mono HB1.out.size)); clear hb HB1))
    go_ret
    exact ⟨rfl, HB.out⟩
  · have hd : decide ((300 : Int) < (l.length : Int)) = false := decide_eq_false h300
    have hd2 : decide (300 < l.length) = false := decide_eq_false (by omega)
    have hle : (l.length : Int) ≤ 300 := by omega
    have HLE := Aside0.mk (show l.length ≤ 300 by omega)
    clear h300
    go_enter Try.func3, Try.ntmps3
    go_wp2_with (first | ((with_reducible refine gate_op (N := .box 25 (.tmp 0)) rfl ?_); refine wl_box rfl 25 _ rfl (.agg #[.int .u64 b0, .slice A0 l0.length c0]) rfl ?_; intro g4 hg w1 hblk hb hsz; have HK4 := Aside0.mk (show w1.heap[g4]? = some (.cells #[.int .u64 b0, .slice A0 l0.length c0] 25 (0, 0)) from hblk); have HB := Aside0.mk hb; clear hg hblk hb hsz) | (go_at_call 8; (with_reducible refine (awake12.calls _).mono ?_); rintro e w3 ⟨rfl, hb⟩; have n0_ := Aside0.mk (blk_below HK4.out hb); have n2_ := Aside0.mk (HB.out.trans (hb.mono HB.out.size)); clear hb HK4 HB; have HK4 := n0_; have HB := n2_; clear n0_ n2_) | ((with_reducible refine gate_op (N := .load 25 (.tmp 4)) rfl ?_); refine wl_load_blk rfl _ _ rfl g4 rfl #[.int .u64 b0, .slice A0 l0.length c0] 25 _ HK4.out Try.underlying25 rfl info_img ?_) | ((with_reducible refine gate_dst (N := 32) rfl ?_); refine lit_event k25 (E := 25) (n := 2) rfl (N := 32) rfl [[.int .u64 b0, .slice A0 l0.length c0], [.int .u64 b0, .slice A0 l0.length c0]] [(⟨b0, l0⟩ : S25), ⟨b0, l0⟩] rfl rfl (show 2 ≤ 9223372036854775807 by decide) (fun j cs x h1 h2 => lit2_K _ b0 l0 A0 c0 HC0.out (Kd.C_below HR0.out HB.out) j cs x h1 h2) ?hr ?_; (case hr => first | (go_simp; done) | (go_simp; rfl)); intro w5 A5 hb hC; have HC5 := Aside0.mk (show Kd.C k25 w5 A5 2 [(⟨b0, l0⟩ : S25), ⟨b0, l0⟩] from hC); have n2_ := Aside0.mk (HB.out.trans (hb.mono HB.out.size)); clear hb hC HK4 HB; have HB := n2_; clear n2_) | (go_at_call 9; refine (HIMG.out A5 _ HC5.out).mono ?_; rintro e w6 ⟨ad, c10, Ar, cr, rfl, h2c, hq2, hq3, hlr, hCr, hb⟩; have HLR := Aside0.mk hlr; have HRR := Aside0.mk hCr; have n2_ := Aside0.mk (HB.out.trans (hb.mono HB.out.size)); clear hb hlr hCr HC5 HB; have HB := n2_; clear n2_) | ((with_reducible refine gate_dst (N := 39) rfl ?_); refine wl_val rfl (.agg #[.int .u64 b0, .slice Ar R1.length cr, .bool last]) (by unfold execOp; simp [Act.eval, build_rc, rc]) ?_) | ((with_reducible refine gate_dst (N := 11) rfl ?_); refine wl_alloc rfl 30 rfl _ zero_rc ?_; intro g11 hg w7 hblk hb hsz; have HGE := Aside0.mk hg; have HAL := Aside0.mk hb; have HZE := Aside0.mk hblk; clear hg hblk hb hsz hq2 hq3) | ((with_reducible refine gate_store (t := 30) (p := 11) rfl ?_); refine wl_store_all rfl rfl 30 _ _ rfl g11 rfl _ _ HZE.out (.agg #[.int .u64 b0, .slice Ar R1.length cr, .bool last]) rfl rfl rc_one info_rc ?_; intro w8 hk8 hg8 hs8; have hbx := grown_below HAL.out hg8 HAL.out.size (by rw [HGE.out]; exact Nat.le_refl _); have HK11 := Aside0.mk (show w8.heap[g11]? = some (.cells (rc b0 Ar R1.length cr last) 30 (0, 0)) from hk8); have n1_ := Aside0.mk (Kd.C_below HRR.out hbx); have n2_ := Aside0.mk (HB.out.trans (hbx.mono HB.out.size)); clear hk8 hg8 hs8 hbx HAL HGE HZE HRR HB; have HRR := n1_; have HB := n2_; clear n1_ n2_; have tokA : True := trivial) | ((with_reducible refine gate_op (N := .load 30 (.tmp 11)) rfl ?_); have _t := tokA; refine wl_load_blk rfl _ _ rfl g11 rfl #[.int .u64 b0, .slice Ar R1.length cr, .bool last] 30 _ HK11.out Try.underlying30 rfl info_rc ?_) | (go_at_call 10; have _t := tokA; refine (HPUT.out Ar cr _ HRR.out HLR.out).mono ?_; rintro e w9 ⟨Ap, cp, rfl, hlp, hCp, hb⟩; have HLP := Aside0.mk hlp; have HI := Aside0.mk (show IP w w9 g11 b0 Ar cr last R1 Ap P from ⟨HB.out.trans (hb.mono HB.out.size), blk_below HK11.out hb, Kd.C_below HRR.out hb, hCp⟩); clear hb hlp hCp HK11 HRR HB tokA; have tokB : True := trivial) | ((with_reducible refine gate_op (N := .load 30 (.tmp 11)) rfl ?_); have _t := tokB; refine wl_load_blk rfl _ _ rfl g11 rfl #[.int .u64 b0, .slice Ar R1.length cr, .bool last] 30 _ HI.out.k Try.underlying30 rfl info_rc ?_) | (go_at_call 12; have _t := tokB; refine (recordOf.calls b0 Ar R1.length cr R1 last _ rfl HI.out.row HLR.out).mono ?_; rintro e w9 ⟨rfl, hb⟩; have n0_ := Aside0.mk (HI.out.go hb); clear hb HI; have HI := n0_; clear n0_) | (go_at_call 11; refine (HRPUT.out _).mono ?_; rintro e w9 ⟨rfl, hb⟩; have n0_ := Aside0.mk (HI.out.go hb); clear hb HI; have HI := n0_; clear n0_) | (go_at_call 13; have _t := tokB; refine (HGET.out _ (Kd.C_below HR.out HI.out.below)).mono ?_; rintro e w9 ⟨Ay, cy, rfl, hly, hCy, hb⟩; have HLY := Aside0.mk hly; have HCY := Aside0.mk hCy; have n0_ := Aside0.mk (HI.out.go hb); clear hb hly hCy HI tokB; have HI := n0_; clear n0_) | ((with_reducible refine gate_dst (N := 16) rfl ?_); refine wl_alloc rfl 30 rfl _ zero_rc ?_; intro g16 hg w7 hblk hb hsz; have HGE := Aside0.mk hg; have HAL := Aside0.mk hb; have HZE := Aside0.mk hblk; clear hg hblk hb hsz) | ((with_reducible refine gate_store (t := 30) (p := 16) rfl ?_); refine wl_store_all rfl rfl 30 _ _ rfl g16 rfl _ _ HZE.out (.agg #[.int .u64 yb, .slice Ay yr.length cy, .bool yl]) rfl rfl rc_one info_rc ?_; intro w8 hk8 hg8 hs8; have hbx := grown_below HAL.out hg8 HAL.out.size (by rw [HGE.out]; exact Nat.le_refl _); have HY := Aside0.mk (show IY w8 g16 yb Ay cy yl yr from ⟨hk8, Kd.C_below HCY.out hbx⟩); have n0_ := Aside0.mk (HI.out.go hbx); clear hk8 hg8 hs8 hbx HAL HGE HZE HCY HI; have HI := n0_; clear n0_) | ((with_reducible refine gate_dst (N := 58) rfl ?_); refine wl_val rfl (.string (strOfNums l)) (ex_string_row _ _ _ _ _ rfl Try.underlying23 Try.underlying5 Try.underlying9 A1 c1 _ rfl (Kd.C_below HR.out HI.out.below)) ?_) | (go_at_call 14; refine (HRGET.out HLE.out _).mono ?_; rintro e w9 ⟨rfl, hb⟩; have n0_ := Aside0.mk (HI.out.go hb); have n1_ := Aside0.mk (HY.out.go hb); clear hb HI HY; have HI := n0_; have HY := n1_; clear n0_ n1_) | ((with_reducible refine gate_dst (N := 18) rfl ?_); refine wl_alloc rfl 39 rfl _ zero_R ?_; intro g18 hg w7 hblk hb hsz; have HGE := Aside0.mk hg; have HAL := Aside0.mk hb; have HZE := Aside0.mk hblk; clear hg hblk hb hsz) | ((with_reducible refine gate_store (t := 39) (p := 18) rfl ?_); refine wl_store_all rfl rfl 39 _ _ rfl g18 rfl _ _ HZE.out (.agg (RecV.mk yb (strOfNums yr) yl).cells) rfl rfl RecV.one info_R ?_; intro w8 hk8 hg8 hs8; have hbx := grown_below HAL.out hg8 HAL.out.size (by rw [HGE.out]; exact Nat.le_refl _); have HK18 := Aside0.mk (show RecAt w8 g18 (RecV.mk yb (strOfNums yr) yl) from hk8); have n0_ := Aside0.mk (HI.out.go hbx); have n1_ := Aside0.mk (HY.out.go hbx); clear hk8 hg8 hs8 hbx HAL HGE HZE HI HY; have HI := n0_; have HY := n1_; clear n0_ n1_))
    refine mono_region (T := _) (B := [0, 1, 0, 7, 15, 31, 31, 127, 255, 511, 1023, 2047, 1023, 8191, 16383, 32767, 65535, 65535, 262143, 524287]) (n := 20) [(0, 62, VP.is (Value.slice Ap P.length cp)), (1, 63, VP.is (Value.string (strOfNums P))), (2, 64, VP.is (Value.string (strOfNums P))), (3, 65, VP.is (Value.bool false)), (4, 66, VP.is (Value.bool false)), (5, 67, VP.is (Value.int .i64 pe)), (6, 68, VP.is (Value.int .i64 pe)), (7, 69, VP.is (Value.bool false)), (8, 70, VP.is (Value.bool false)), (9, 71, VP.is (Value.bool false)), (10, 72, VP.is (Value.agg #[.int .u64 yb, .slice Ay yr.length cy, .bool yl])), (11, 73, VP.is (Value.agg (RecV.mk yb (strOfNums yr) yl).cells)), (12, 74, VP.is (Value.agg (RecV.mk yb (strOfNums yr) yl).cells)), (13, 75, VP.is (Value.bool false)), (14, 76, VP.is (Value.bool false)), (15, 77, VP.is (Value.bool false)), (16, 78, VP.is (Value.int .i64 ye)), (17, 79, VP.is (Value.int .i64 ye)), (18, 80, VP.is (Value.bool false)), (19, 81, VP.is (Value.bool false))] rfl (by kernel_rfl) (by kernel_rfl) rfl (by kernel_rfl) (by kernel_rfl) (by kernel_rfl) (by kernel_rfl) (by kernel_rfl) ?_ ?_
    · refine ms_cons ?_ <| ms_cons ?_ <| ms_cons ?_ <| ms_cons ?_ <| ms_cons ?_ <| ms_cons ?_ <| ms_cons ?_ <| ms_cons ?_ <| ms_cons ?_ <| ms_cons ?_ <| ms_cons ?_ <| ms_cons ?_ <| ms_cons ?_ <| ms_cons ?_ <| ms_cons ?_ <| ms_cons ?_ <| ms_cons ?_ <| ms_cons ?_ <| ms_cons ?_ <| ms_cons ?_ <| ms_nil
      · intro act_ w' H
        have e12 := H.tmp (t := 12) rfl (by kernel_rfl)
        have ev12 := eval_of e12
        refine ms_val rfl rfl rfl (Value.slice Ap P.length cp) w' ?_ (Below.refl _ _) rfl
        · go_simp
          try rfl
      · intro act_ w' H
        obtain ⟨_, e62, rfl⟩ := H.on 0 rfl (by kernel_rfl)
        have ev62 := eval_of e62
        refine ms_val rfl rfl rfl (Value.string (strOfNums P)) w' ?_ (Below.refl _ _) rfl
        exact ex_string_row w' _ _ _ _ rfl Try.underlying23 Try.underlying5 Try.underlying9 Ap cp P ev62 (Kd.C_below HI.out.put H.below)
      · intro act_ w' H
        have e14 := H.tmp (t := 14) rfl (by kernel_rfl)
        have ev14 := eval_of e14
        refine ms_val rfl rfl rfl (Value.string (strOfNums P)) w' ?_ (Below.refl _ _) rfl
        · go_simp
          try rfl
      · intro act_ w' H
        obtain ⟨_, e63, rfl⟩ := H.on 1 rfl (by kernel_rfl)
        have ev63 := eval_of e63
        obtain ⟨_, e64, rfl⟩ := H.on 2 rfl (by kernel_rfl)
        have ev64 := eval_of e64
        refine ms_val rfl rfl rfl (Value.bool false) w' ?_ (Below.refl _ _) rfl
        · go_simp
          try rfl
      · intro act_ w' H
        obtain ⟨_, e65, rfl⟩ := H.on 3 rfl (by kernel_rfl)
        have ev65 := eval_of e65
        refine ms_val rfl rfl rfl (Value.bool false) w' ?_ (Below.refl _ _) rfl
        · go_simp
          try rfl
      · intro act_ w' H
        have e13 := H.tmp (t := 13) rfl (by kernel_rfl)
        have ev13 := eval_of e13
        obtain ⟨_, e66, rfl⟩ := H.on 4 rfl (by kernel_rfl)
        have ev66 := eval_of e66
        refine ms_val rfl rfl (wanted_on rfl rfl rfl e66) (Value.int .i64 pe) w' ?_ (Below.refl _ _) rfl
        · go_simp
          try rfl
      · intro act_ w' H
        have e15 := H.tmp (t := 15) rfl (by kernel_rfl)
        have ev15 := eval_of e15
        obtain ⟨_, e66, rfl⟩ := H.on 4 rfl (by kernel_rfl)
        have ev66 := eval_of e66
        refine ms_val rfl rfl (wanted_on rfl rfl rfl e66) (Value.int .i64 pe) w' ?_ (Below.refl _ _) rfl
        · go_simp
          try rfl
      · intro act_ w' H
        obtain ⟨_, e67, rfl⟩ := H.on 5 rfl (by kernel_rfl)
        have ev67 := eval_of e67
        obtain ⟨_, e68, rfl⟩ := H.on 6 rfl (by kernel_rfl)
        have ev68 := eval_of e68
        obtain ⟨_, e66, rfl⟩ := H.on 4 rfl (by kernel_rfl)
        have ev66 := eval_of e66
        refine ms_val rfl rfl (wanted_on rfl rfl rfl e66) (Value.bool false) w' ?_ (Below.refl _ _) rfl
        · go_simp
          try rfl
      · intro act_ w' H
        obtain ⟨_, e66, rfl⟩ := H.on 4 rfl (by kernel_rfl)
        have ev66 := eval_of e66
        obtain ⟨_, e69, rfl⟩ := H.on 7 rfl (by kernel_rfl)
        have ev69 := eval_of e69
        refine ms_val rfl rfl rfl (Value.bool false) w' ?_ (Below.refl _ _) rfl
        · go_simp
          try rfl
      · intro act_ w' H
        obtain ⟨_, e70, rfl⟩ := H.on 8 rfl (by kernel_rfl)
        have ev70 := eval_of e70
        refine ms_val rfl rfl rfl (Value.bool false) w' ?_ (Below.refl _ _) rfl
        · go_simp
          try rfl
      · intro act_ w' H
        have e16 := H.tmp (t := 16) rfl (by kernel_rfl)
        have ev16 := eval_of e16
        obtain ⟨_, e71, rfl⟩ := H.on 9 rfl (by kernel_rfl)
        have ev71 := eval_of e71
        refine ms_val rfl rfl (wanted_on rfl rfl rfl e71) (Value.agg #[.int .u64 yb, .slice Ay yr.length cy, .bool yl]) w' ?_ (Below.refl _ _) rfl
        exact ex_load_blk w' _ _ rfl g16 ev16 #[.int .u64 yb, .slice Ay yr.length cy, .bool yl] _ _ (blk_below HY.out.k H.below) Try.underlying30 rfl info_rc
      · intro act_ w' H
        obtain ⟨_, e72, rfl⟩ := H.on 10 rfl (by kernel_rfl)
        have ev72 := eval_of e72
        obtain ⟨_, e71, rfl⟩ := H.on 9 rfl (by kernel_rfl)
        have ev71 := eval_of e71
        exact ms_call rfl rfl (wanted_on rfl rfl rfl e71) Try.func12 (by kernel_rfl) rfl #[.agg #[.int .u64 yb, .slice Ay yr.length cy, .bool yl]] rfl (by simp [ev72]) ((recordOf.calls yb Ay yr.length cy yr yl _ rfl (Kd.C_below HY.out.row H.below) HLY.out).mono fun e w1 ⟨he, hb⟩ => ⟨_, he, hb, rfl⟩)
      · intro act_ w' H
        have e18 := H.tmp (t := 18) rfl (by kernel_rfl)
        have ev18 := eval_of e18
        obtain ⟨_, e71, rfl⟩ := H.on 9 rfl (by kernel_rfl)
        have ev71 := eval_of e71
        refine ms_val rfl rfl (wanted_on rfl rfl rfl e71) (Value.agg (RecV.mk yb (strOfNums yr) yl).cells) w' ?_ (Below.refl _ _) rfl
        exact ex_load_blk w' _ _ rfl g18 ev18 (RecV.mk yb (strOfNums yr) yl).cells _ _ (blk_below HK18.out.blk H.below) Try.underlying39 rfl info_R
      · intro act_ w' H
        obtain ⟨_, e73, rfl⟩ := H.on 11 rfl (by kernel_rfl)
        have ev73 := eval_of e73
        obtain ⟨_, e74, rfl⟩ := H.on 12 rfl (by kernel_rfl)
        have ev74 := eval_of e74
        obtain ⟨_, e71, rfl⟩ := H.on 9 rfl (by kernel_rfl)
        have ev71 := eval_of e71
        refine ms_val rfl rfl (wanted_on rfl rfl rfl e71) (Value.bool false) w' ?_ (Below.refl _ _) rfl
        exact ex_binop w' _ _ _ _ _ rfl _ _ ev73 ev74 (guard_R _ _ _ _ _ w') _ (neq_R _ w')
      · intro act_ w' H
        obtain ⟨_, e71, rfl⟩ := H.on 9 rfl (by kernel_rfl)
        have ev71 := eval_of e71
        obtain ⟨_, e75, rfl⟩ := H.on 13 rfl (by kernel_rfl)
        have ev75 := eval_of e75
        refine ms_val rfl rfl rfl (Value.bool false) w' ?_ (Below.refl _ _) rfl
        · go_simp
          try rfl
      · intro act_ w' H
        obtain ⟨_, e76, rfl⟩ := H.on 14 rfl (by kernel_rfl)
        have ev76 := eval_of e76
        refine ms_val rfl rfl rfl (Value.bool false) w' ?_ (Below.refl _ _) rfl
        · go_simp
          try rfl
      · intro act_ w' H
        have e17 := H.tmp (t := 17) rfl (by kernel_rfl)
        have ev17 := eval_of e17
        obtain ⟨_, e77, rfl⟩ := H.on 15 rfl (by kernel_rfl)
        have ev77 := eval_of e77
        refine ms_val rfl rfl (wanted_on rfl rfl rfl e77) (Value.int .i64 ye) w' ?_ (Below.refl _ _) rfl
        · go_simp
          try rfl
      · intro act_ w' H
        have e19 := H.tmp (t := 19) rfl (by kernel_rfl)
        have ev19 := eval_of e19
        obtain ⟨_, e77, rfl⟩ := H.on 15 rfl (by kernel_rfl)
        have ev77 := eval_of e77
        refine ms_val rfl rfl (wanted_on rfl rfl rfl e77) (Value.int .i64 ye) w' ?_ (Below.refl _ _) rfl
        · go_simp
          try rfl
      · intro act_ w' H
        obtain ⟨_, e78, rfl⟩ := H.on 16 rfl (by kernel_rfl)
        have ev78 := eval_of e78
        obtain ⟨_, e79, rfl⟩ := H.on 17 rfl (by kernel_rfl)
        have ev79 := eval_of e79
        obtain ⟨_, e77, rfl⟩ := H.on 15 rfl (by kernel_rfl)
        have ev77 := eval_of e77
        refine ms_val rfl rfl (wanted_on rfl rfl rfl e77) (Value.bool false) w' ?_ (Below.refl _ _) rfl
        · go_simp
          try rfl
      · intro act_ w' H
        obtain ⟨_, e77, rfl⟩ := H.on 15 rfl (by kernel_rfl)
        have ev77 := eval_of e77
        obtain ⟨_, e80, rfl⟩ := H.on 18 rfl (by kernel_rfl)
        have ev80 := eval_of e80
        refine ms_val rfl rfl rfl (Value.bool false) w' ?_ (Below.refl _ _) rfl
        · go_simp
          try rfl
    intro w6 hb6
    rintro _ rfl _ rfl _ rfl _ rfl _ rfl _ rfl _ rfl _ rfl _ rfl _ rfl _ rfl _ rfl _ rfl _ rfl _ rfl _ rfl _ rfl _ rfl _ rfl _ rfl
    simp only [Ends, Act.put, List.setIfInBounds_toArray, List.set_cons_zero, List.set_cons_succ]
    have n0_ := Aside0.mk (HI.out.go hb6)
    have n1_ := Aside0.mk (HY.out.go hb6)
    clear hb6 HI HY HK18
    have HI := n0_
    have HY := n1_
    clear n0_ n1_
    rcases HPE.out with ⟨hp0, hpl, hpu, hpf⟩ | hp1
    · subst hp0
      have HGETP := Aside0.mk (fun (W : World) (h : Kd.C (Kd.int .u8) W Ap P.length P) => by have := record_Get_hand Ap P.length cp P hpu (by rw [hpl]; decide) W rfl h HLP.out; rw [hpf] at this; exact this)
      clear hpl hpu hpf
      go_wp2_with (first | (go_at_call 13; refine (HGETP.out _ HI.out.put).mono ?_; rintro e w9 ⟨Aw, cw, rfl, hlw, hCw, hb⟩; have HLW := Aside0.mk (show R1.length ≤ cw from hlw); have HCW := Aside0.mk (show Kd.C (Kd.int .u8) w9 Aw R1.length R1 from hCw); have n0_ := Aside0.mk (HI.out.go hb); have n1_ := Aside0.mk (HY.out.go hb); clear hb hlw hCw HI HY; have HI := n0_; have HY := n1_; clear n0_ n1_) | ((with_reducible refine gate_dst (N := 20) rfl ?_); refine wl_alloc rfl 30 rfl _ zero_rc ?_; intro g20 hg w7 hblk hb hsz; have HGE := Aside0.mk hg; have HAL := Aside0.mk hb; have HZE := Aside0.mk hblk; clear hg hblk hb hsz) | ((with_reducible refine gate_store (t := 30) (p := 20) rfl ?_); refine wl_store_all rfl rfl 30 _ _ rfl g20 rfl _ _ HZE.out (.agg #[.int .u64 b0, .slice Aw R1.length cw, .bool last]) rfl rfl rc_one info_rc ?_; intro w8 hk8 hg8 hs8; have hbx := grown_below HAL.out hg8 HAL.out.size (by rw [HGE.out]; exact Nat.le_refl _); have HW := Aside0.mk (show IY w8 g20 b0 Aw cw last R1 from ⟨hk8, Kd.C_below HCW.out hbx⟩); have n0_ := Aside0.mk (HI.out.go hbx); have n1_ := Aside0.mk (HY.out.go hbx); clear hk8 hg8 hs8 hbx HAL HGE HZE HCW HI HY; have HI := n0_; have HY := n1_; clear n0_ n1_))
      refine mono_region (T := _) (B := [0, 1, 3, 7, 15, 7, 63, 127, 255]) (n := 9) [(0, 89, VP.is (Value.int .i64 0)), (1, 90, VP.is (Value.bool false)), (2, 91, VP.is (Value.bool false)), (3, 92, VP.is (Value.agg #[.int .u64 b0, .slice Aw R1.length cw, .bool last])), (4, 93, VP.is (Value.agg (RecV.mk b0 (strOfNums R1) last).cells)), (5, 94, VP.is (Value.agg #[.int .u64 b0, .slice Ar R1.length cr, .bool last])), (6, 95, VP.is (Value.agg (RecV.mk b0 (strOfNums R1) last).cells)), (7, 96, VP.is (Value.bool false)), (8, 97, VP.is (Value.bool false))] rfl (by kernel_rfl) (by kernel_rfl) rfl (by kernel_rfl) (by kernel_rfl) (by kernel_rfl) (by kernel_rfl) (by kernel_rfl) ?_ ?_
      · refine ms_cons ?_ <| ms_cons ?_ <| ms_cons ?_ <| ms_cons ?_ <| ms_cons ?_ <| ms_cons ?_ <| ms_cons ?_ <| ms_cons ?_ <| ms_cons ?_ <| ms_nil
        · intro act_ w' H
          have e21 := H.tmp (t := 21) rfl (by kernel_rfl)
          have ev21 := eval_of e21
          refine ms_val rfl rfl rfl (Value.int .i64 0) w' ?_ (Below.refl _ _) rfl
          · go_simp
            try rfl
        · intro act_ w' H
          obtain ⟨_, e89, rfl⟩ := H.on 0 rfl (by kernel_rfl)
          have ev89 := eval_of e89
          refine ms_val rfl rfl rfl (Value.bool false) w' ?_ (Below.refl _ _) rfl
          · go_simp
            try rfl
        · intro act_ w' H
          obtain ⟨_, e90, rfl⟩ := H.on 1 rfl (by kernel_rfl)
          have ev90 := eval_of e90
          refine ms_val rfl rfl rfl (Value.bool false) w' ?_ (Below.refl _ _) rfl
          · go_simp
            try rfl
        · intro act_ w' H
          have e20 := H.tmp (t := 20) rfl (by kernel_rfl)
          have ev20 := eval_of e20
          obtain ⟨_, e91, rfl⟩ := H.on 2 rfl (by kernel_rfl)
          have ev91 := eval_of e91
          refine ms_val rfl rfl (wanted_on rfl rfl rfl e91) (Value.agg #[.int .u64 b0, .slice Aw R1.length cw, .bool last]) w' ?_ (Below.refl _ _) rfl
          exact ex_load_blk w' _ _ rfl g20 ev20 #[.int .u64 b0, .slice Aw R1.length cw, .bool last] _ _ (blk_below HW.out.k H.below) Try.underlying30 rfl info_rc
        · intro act_ w' H
          obtain ⟨_, e92, rfl⟩ := H.on 3 rfl (by kernel_rfl)
          have ev92 := eval_of e92
          obtain ⟨_, e91, rfl⟩ := H.on 2 rfl (by kernel_rfl)
          have ev91 := eval_of e91
          exact ms_call rfl rfl (wanted_on rfl rfl rfl e91) Try.func12 (by kernel_rfl) rfl #[.agg #[.int .u64 b0, .slice Aw R1.length cw, .bool last]] rfl (by simp [ev92]) ((recordOf.calls b0 Aw R1.length cw R1 last _ rfl (Kd.C_below HW.out.row H.below) HLW.out).mono fun e w1 ⟨he, hb⟩ => ⟨_, he, hb, rfl⟩)
        · intro act_ w' H
          have e11 := H.tmp (t := 11) rfl (by kernel_rfl)
          have ev11 := eval_of e11
          obtain ⟨_, e91, rfl⟩ := H.on 2 rfl (by kernel_rfl)
          have ev91 := eval_of e91
          refine ms_val rfl rfl (wanted_on rfl rfl rfl e91) (Value.agg #[.int .u64 b0, .slice Ar R1.length cr, .bool last]) w' ?_ (Below.refl _ _) rfl
          exact ex_load_blk w' _ _ rfl g11 ev11 #[.int .u64 b0, .slice Ar R1.length cr, .bool last] _ _ (blk_below HI.out.k H.below) Try.underlying30 rfl info_rc
        · intro act_ w' H
          obtain ⟨_, e94, rfl⟩ := H.on 5 rfl (by kernel_rfl)
          have ev94 := eval_of e94
          obtain ⟨_, e91, rfl⟩ := H.on 2 rfl (by kernel_rfl)
          have ev91 := eval_of e91
          exact ms_call rfl rfl (wanted_on rfl rfl rfl e91) Try.func12 (by kernel_rfl) rfl #[.agg #[.int .u64 b0, .slice Ar R1.length cr, .bool last]] rfl (by simp [ev94]) ((recordOf.calls b0 Ar R1.length cr R1 last _ rfl (Kd.C_below HI.out.row H.below) HLR.out).mono fun e w1 ⟨he, hb⟩ => ⟨_, he, hb, rfl⟩)
        · intro act_ w' H
          obtain ⟨_, e93, rfl⟩ := H.on 4 rfl (by kernel_rfl)
          have ev93 := eval_of e93
          obtain ⟨_, e95, rfl⟩ := H.on 6 rfl (by kernel_rfl)
          have ev95 := eval_of e95
          obtain ⟨_, e91, rfl⟩ := H.on 2 rfl (by kernel_rfl)
          have ev91 := eval_of e91
          refine ms_val rfl rfl (wanted_on rfl rfl rfl e91) (Value.bool false) w' ?_ (Below.refl _ _) rfl
          exact ex_binop w' _ _ _ _ _ rfl _ _ ev93 ev95 (guard_R _ _ _ _ _ w') _ (neq_R _ w')
        · intro act_ w' H
          obtain ⟨_, e91, rfl⟩ := H.on 2 rfl (by kernel_rfl)
          have ev91 := eval_of e91
          obtain ⟨_, e96, rfl⟩ := H.on 7 rfl (by kernel_rfl)
          have ev96 := eval_of e96
          refine ms_val rfl rfl rfl (Value.bool false) w' ?_ (Below.refl _ _) rfl
          · go_simp
            try rfl
      intro w7 hb7
      rintro _ rfl _ rfl _ rfl _ rfl _ rfl _ rfl _ rfl _ rfl _ rfl
      simp only [Ends, Act.put, List.setIfInBounds_toArray, List.set_cons_zero, List.set_cons_succ]
      have n0_ := Aside0.mk (HI.out.go hb7)
      have n1_ := Aside0.mk (HY.out.go hb7)
      clear hb7 HI HY HW
      have HI := n0_
      have HY := n1_
      clear n0_ n1_
      rcases HYE.out with ⟨hy0, hyl, hye, hyb⟩ | hy11
      · subst hy0
        have HYP := Aside0.mk (fun (W : World) (h : Kd.C (Kd.int .u8) W Ay yr.length yr) => by have := record_Put_hand yb Ay yr.length cy yr yl hyb W rfl h HLY.out; rw [hyl, hye] at this; exact this)
        clear hyl hye hyb
        go_wp2_with (first | ((with_reducible refine gate_op (N := .load 30 (.tmp 16)) rfl ?_); refine wl_load_blk rfl _ _ rfl g16 rfl #[.int .u64 yb, .slice Ay yr.length cy, .bool yl] 30 _ HY.out.k Try.underlying30 rfl info_rc ?_) | (go_at_call 10; refine (HYP.out _ HY.out.row).mono ?_; rintro e w9 ⟨Az, cz, rfl, hlz, hCz, hb⟩; have cv1 := run_string_row _ 9 _ Try.underlying23 Try.underlying5 Try.underlying9 w9 Az cz l hCz; have cv2 := run_string_row _ 9 _ Try.underlying23 Try.underlying5 Try.underlying9 w9 A1 c1 l (Kd.C_below HR.out (HI.out.go hb).below); have n0_ := Aside0.mk (HI.out.go hb); clear hb hlz hCz HI HY; have HI := n0_; clear n0_))
        go_ret
        exact ⟨rfl, HI.out.below⟩
      · subst hy11
        go_wp2
        go_ret
        exact ⟨rfl, HI.out.below⟩
    · subst hp1
      rcases HYE.out with ⟨hy0, hyl, hye, hyb⟩ | hy11
      · subst hy0
        have HYP := Aside0.mk (fun (W : World) (h : Kd.C (Kd.int .u8) W Ay yr.length yr) => by have := record_Put_hand yb Ay yr.length cy yr yl hyb W rfl h HLY.out; rw [hyl, hye] at this; exact this)
        clear hyl hye hyb
        go_wp2_with (first | ((with_reducible refine gate_op (N := .load 30 (.tmp 16)) rfl ?_); refine wl_load_blk rfl _ _ rfl g16 rfl #[.int .u64 yb, .slice Ay yr.length cy, .bool yl] 30 _ HY.out.k Try.underlying30 rfl info_rc ?_) | (go_at_call 10; refine (HYP.out _ HY.out.row).mono ?_; rintro e w9 ⟨Az, cz, rfl, hlz, hCz, hb⟩; have cv1 := run_string_row _ 9 _ Try.underlying23 Try.underlying5 Try.underlying9 w9 Az cz l hCz; have cv2 := run_string_row _ 9 _ Try.underlying23 Try.underlying5 Try.underlying9 w9 A1 c1 l (Kd.C_below HR.out (HI.out.go hb).below); have n0_ := Aside0.mk (HI.out.go hb); clear hb hlz hCz HI HY; have HI := n0_; clear n0_))
        go_ret
        exact ⟨rfl, HI.out.below⟩
      · subst hy11
        go_wp2
        go_ret
        exact ⟨rfl, HI.out.below⟩
end
end Go.Proofs.Ytjpkjakdhbnehaa.Q
