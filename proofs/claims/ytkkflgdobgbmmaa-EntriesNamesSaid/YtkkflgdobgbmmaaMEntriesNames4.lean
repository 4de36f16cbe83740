/- EntriesNames: for every input the statement's function returns true; there is no further condition. Text 5 of 5: this session's texts, and of the words that print.sh has printed those that are needed, laid together by its own program (merge.py). Not trusted: Lean checks them. -/
import Derived.Test.YtkkflgdobgbmmaaMEntriesNames2
import Derived.Test.YtkkflgdobgbmmaaMEntriesNames1
import Derived.Test.YtkkflgdobgbmmaaMEntriesNames3
import Derived.Test.YtkkflgdobgbmmaaRows
import Derived.WalkKit
import Derived.ProofKit
import Derived.OpenShut
import Derived.ShutString
import Derived.ChangeOld
import Derived.Below
import Derived.SizedLaws
section
/- slices.DeleteFunc of entries: its walk. -/
namespace Go.Proofs.Ytkkflgdobgbmmaa.Q
open Go.RowKit Go.Proofs.YtkkflgdobgbmmaaW.PrintWords Go.Proofs.YtkkflgdobgbmmaaW.PrintLast Go.Proofs.YtkkflgdobgbmmaaW.PrintMore
attribute [local go_sem] max2_int min2_int max_two min_two max_three min_three max_four min_four
set_option linter.unusedVariables false
set_option linter.unusedSimpArgs false
def keepE (x : S28) : Bool := !goneE x
theorem zero28 : (Try.prog.info? 28).map (·.zero) = some (some (.agg #[.string ⟨#[]⟩, .int .i64 0])) := by kernel_rfl
theorem infosz28 : (Try.prog.info? 28).map (·.size) = some 2 := by kernel_rfl
theorem st28_one {s : ByteArray} {z : Int} : ∀ u ∈ (#[Value.string s, .int .i64 z] : Array Value).toList, u.oneCell' = true := by
  intro u hu
  simp only [List.mem_cons, List.not_mem_nil, or_false] at hu
  rcases hu with rfl | rfl <;> rfl
/-- The state of the loop: kept so far, and what is to come. -/
structure DI (w w' : World) (base g n cap : Nat) (l0 xs : List S28) (i j : Nat) : Prop where
  lt : i < j
  le : j ≤ n
  len : xs.length = n
  got : xs.take i = (l0.take j).filter keepE
  rest : xs.drop j = l0.drop j
  row : Kd.R k28 28 w' base (fun _ => True) (.slice (some ⟨g, 0, none⟩) n cap) xs
  below : Below base w w'
theorem DI.go {w w1 w2 : World} {base g n cap : Nat} {l0 xs : List S28} {i j : Nat} (h : DI w w1 base g n cap l0 xs i j) (hb : Below w1.heap.size w1 w2) (hbase : base ≤ w1.heap.size) : DI w w2 base g n cap l0 xs i j :=
  ⟨h.lt, h.le, h.len, h.got, h.rest, Kd.R_below h.row hb, h.below.trans (hb.mono hbase)⟩
theorem DI.skip {w w' : World} {base g n cap : Nat} {l0 xs : List S28} {i j : Nat} (h : DI w w' base g n cap l0 xs i j) {x : S28} (hx : l0[j]? = some x) (hn : j < n) (hg : goneE x = true) : DI w w' base g n cap l0 xs i (j + 1) := by
  obtain ⟨hj, hx⟩ := List.getElem?_eq_some_iff.1 hx
  rw [← hx] at hg
  exact ⟨by have := h.lt; omega, by omega, h.len, by rw [h.got, List.take_succ_eq_append_getElem hj, List.filter_append]; simp [keepE, hg], by
    have := congrArg (List.drop 1) h.rest
    rw [List.drop_drop, List.drop_drop] at this
    exact this, h.row, h.below⟩
theorem DI.keep {w w1 w2 : World} {base g n cap : Nat} {l0 xs : List S28} {i j : Nat} {cur : Array Value} (h : DI w w1 base g n cap l0 xs i j) {x : S28} (hx : l0[j]? = some x) (hn : j < n) (hg : goneE x = false) (hblk : w1.heap[g]? = some (.cells cur 28 (0, 0))) (hb1 : base ≤ w1.heap.size)
    (hk : w2.heap[g]? = some (.cells (cur.toList.take (i * 2) ++ (Value.agg #[.string x.f0, .int .i64 x.f1]).cells.toList ++ cur.toList.drop (i * 2 + (Value.agg #[.string x.f0, .int .i64 x.f1]).cells.size)).toArray 28 (0, 0))) (hgr : w1.grownBy w2 (some g)) : DI w w2 base g n cap l0 (xs.set i x) (i + 1) (j + 1) := by
  obtain ⟨hj, rfl⟩ := List.getElem?_eq_some_iff.1 hx
  obtain ⟨_, hbg, hnc, hcm, cur', hb', hs', ht'⟩ := blk28 h.row
  rw [hblk] at hb'
  injection hb' with hb'
  injection hb' with hb'
  subst hb'
  have hlen := h.len
  have hlt := h.lt
  have hi : i < xs.length := by omega
  have hsz : n * 2 ≤ cur.size := by rw [hs']; exact Nat.mul_le_mul_right _ hnc
  refine ⟨by omega, by omega, by rw [List.length_set]; exact hlen, ?_, ?_, ?_, grown_below h.below hgr hb1 hbg⟩
  · rw [List.take_succ_eq_append_getElem (by rw [List.length_set]; omega), List.take_set_of_le (by omega), h.got, List.getElem_set_self, List.take_succ_eq_append_getElem hj, List.filter_append]
    simp [keepE, hg]
  · rw [List.drop_set_of_lt (by omega)]
    have := congrArg (List.drop 1) h.rest
    rw [List.drop_drop, List.drop_drop] at this
    exact this
  · have := own_of_blk (xs := xs.set i l0[j]) hbg (by rw [List.length_set]; omega) hcm hk (by
      simp only [List.size_toArray, List.length_append, List.length_take, List.length_drop, Array.length_toList]
      show min (i * 2) cur.size + 2 + (cur.size - (i * 2 + 2)) = cap * 2
      omega) (by
      rw [List.length_set]
      exact set28 cur.toList xs i hi l0[j] ht')
    rw [List.length_set, hlen] at this
    exact this
set_option maxHeartbeats 4000000 in
set_option maxRecDepth 100000 in
theorem del.calls (v : Value) (l0 : List S28) (base : Nat) (w : World) (hR : Kd.R k28 28 w base (fun _ => True) v l0) (hbase : base ≤ w.heap.size) :
    Calls Try.prog 35 #[v, .func (.func 36) #[] #[]] w fun e w' => ∃ v', e = .returned v' ∧ Kd.R k28 28 w' base (fun _ => True) v' (l0.filter keepE) ∧ Below base w w' := by
  obtain ⟨A0, c0, rfl⟩ := Kd.R_slice hR
  obtain ⟨_, hc0, hC0⟩ := Kd.R_reads' hR
  have HM := Aside0.mk (show l0.length ≤ 9223372036854775807 from hC0.2.1)
  have HF := Aside0.mk (idxList_eq l0 hC0.2.1)
  have HIX := Aside0.mk (fun (r : Int) (hr : findAt goneE 0 l0 = r) => entries_Entry_31_at_entries_List_lit1.calls (l0.length + 1) A0 c0 l0 r w hC0 hc0 (by rw [HF.out, hr]))
  have HR := Aside0.mk hR
  have HBA := Aside0.mk hbase
  clear hC0 hc0 HF hbase
  rcases findAt_spec goneE l0 0 with ⟨h1, h2⟩ | ⟨pre, x, post, h1, h2, h3, h4⟩
  · have hfl : l0.filter keepE = l0 := by
      rw [List.filter_eq_self]
      intro y hy
      simp [keepE, h2 y hy]
    rw [hfl]
    have H1 := Aside0.mk (HIX.out (-1) h1)
    clear HIX h1 h2 hfl hR
    go_enter Try.func35, Try.ntmps35
    go_wp2_with (go_at_call 31; refine H1.out.mono ?_; rintro e w1 ⟨rfl, hb⟩; have HB := Aside0.mk hb; clear hb)
    go_ret
    exact ⟨_, rfl, Kd.R_below HR.out HB.out, HB.out.mono HBA.out⟩
  · rw [Nat.zero_add] at h2
    have H1 := Aside0.mk (HIX.out _ h2)
    obtain ⟨n, hn⟩ : ∃ n, l0.length = n := ⟨_, rfl⟩
    obtain ⟨i0, hi0⟩ : ∃ i0, pre.length = i0 := ⟨_, rfl⟩
    have hlen : n = i0 + 1 + post.length := by rw [← hn, h1, ← hi0, List.length_append, List.length_cons]; omega
    obtain ⟨g, cap, e1, _, _, _⟩ := Kd.R_form hR (by omega)
    injection e1 with e1 _ e3
    subst e1
    subst e3
    have HDI := Aside0.mk (show DI w w base g n c0 l0 l0 i0 (i0 + 1) from ⟨by omega, by omega, hn, by
      have t1 : l0.take i0 = pre := by rw [h1, ← hi0, List.take_left]
      have t2 : l0.take (i0 + 1) = pre ++ [x] := by rw [h1, show i0 + 1 = (pre ++ [x]).length by simp [hi0], show pre ++ x :: post = (pre ++ [x]) ++ post by simp, List.take_left]
      rw [t1, t2, List.filter_append]
      rw [List.filter_eq_self.2 (fun y hy => by simp [keepE, h4 y hy])]
      simp [keepE, h3], rfl, by rw [← hn]; exact HR.out, Below.refl _ _⟩)
    have H2 := Aside0.mk (by have := H1.out; rw [hn, hi0] at this; exact this)
    have HN := Aside0.mk hn
    have HM2 := Aside0.mk (show n ≤ 9223372036854775807 by rw [← hn]; exact HM.out)
    have HPL := Aside0.mk (show i0 < n by omega)
    have HLEN := Aside0.mk hlen
    have e0 : ((i0 : Int) == -1) = false := beq_eq_false_iff_ne.mpr (by omega)
    rw [hn]
    clear HIX H1 HR hR h1 h2 h3 h4 hi0 hlen hn HM
    have hm2 := HM2.out
    have hpl := HPL.out
    go_enter Try.func35, Try.ntmps35
    go_wp2_with (go_at_call 31; refine H2.out.mono ?_; rintro e w1 ⟨rfl, hb⟩; have n0_ := Aside0.mk (HDI.out.go hb HBA.out); have n1_ := Aside0.mk (Nat.le_trans HBA.out hb.size); clear hb HDI HBA; have HDI := n0_; have HBA := n1_; clear n0_ n1_)
    clear H2 e0
    go_loopg [5, 6] post.length (fun gk v5 v6 w' => ∃ (i j : Nat) (xs : List S28), v5 = .int .i64 i ∧ v6 = .int .i64 j ∧ Aside0 (gk + j = n) ∧ Aside0 (base ≤ w'.heap.size) ∧ Aside0 (DI w w' base g n c0 l0 xs i j))
    case atStart => exact ⟨i0, i0 + 1, l0, rfl, by go_num, ⟨by have := HLEN.out; omega⟩, HBA, HDI⟩
    case round =>
      clear HDI HBA
      obtain ⟨i, j, xs, rfl, rfl, HI, HBA, HDI⟩ := hrel
      have hij := HDI.out.lt
      by_cases hj : j < n
      · have hjl : (j : Int) < (n : Int) := by omega
        have hil : (i : Int) < (n : Int) := by omega
        have hj0 : j < l0.length := by rw [HN.out]; exact hj
        obtain ⟨ad, e0, hx0, hx1⟩ := at_T28 (Kd.R_reads' HDI.out.row).2.2 (j : Int) (by omega) (by rw [HDI.out.len]; omega)
        injection e0 with e0
        subst e0
        have hxj : rd_T28 xs (j : Int) = l0[j] := by
          rw [rd28_nat xs j (by rw [HDI.out.len]; exact hj)]
          have h1 := List.drop_eq_getElem_cons (show j < xs.length by rw [HDI.out.len]; exact hj)
          rw [HDI.out.rest, List.drop_eq_getElem_cons hj0] at h1
          injection h1 with h1 _
          exact h1.symm
        have HJ := Aside0.mk hj
        have HJ0 := Aside0.mk hj0
        obtain ⟨x, hx⟩ : ∃ x, l0[j] = x := ⟨_, rfl⟩
        rw [hxj, hx, Int.toNat_natCast, add_at, Nat.zero_add] at hx0 hx1
        obtain ⟨hxn, hbg, hnc, hcm, cur, hblk, hsz, htk⟩ := blk28 HDI.out.row
        have HBK := Aside0.mk hblk
        have HSZ := Aside0.mk (show i * 2 + 2 ≤ cur.size by rw [hsz]; omega)
        obtain ⟨b, hb⟩ : ∃ b, goneE x = b := ⟨_, rfl⟩
        have HB := Aside0.mk hb
        have HC := Aside0.mk (fun (W : World) => show Calls Try.prog 36 #[.agg #[.string x.f0, .int .i64 x.f1]] W fun e w' => e = .returned (.bool b) ∧ Below W.heap.size W w' from entries_List_lit1.calls x.f0 x.f1 b W (by rw [gone_lit, hb]))
        have HX := Aside0.mk (show l0[j]? = some x by rw [List.getElem?_eq_getElem HJ0.out, hx])
        clear HJ0
        have HBW := Aside0.mk (Below.refl wr.heap.size wr)
        clear hxj hblk hsz hnc hb hx hj hj0 hxn hbg hcm htk
        have hj2 := HJ.out
        cases b with
        | true =>
          go_wp2_with (first | ((with_reducible refine gate_dst (N := 7) rfl ?_); refine wl_alloc rfl 28 rfl _ zero28 ?_; intro g7 hg w2 hblk hb hsz; have HG7 := Aside0.mk (show wr.heap.size ≤ g7 by rw [hg]; exact Nat.le_refl _); have HK7 := Aside0.mk (show w2.heap[g7]? = some (.cells #[.string ⟨#[]⟩, .int .i64 0] 28 (0, 0)) from hblk); have n0_ := Aside0.mk hb; clear hg hblk hb hsz HBW; have HBW := n0_; clear n0_) | ((with_reducible refine gate_store (t := 28) (p := 7) rfl ?_); refine wl_store_all rfl rfl 28 _ _ rfl g7 rfl _ _ HK7.out (.agg #[.string x.f0, .int .i64 x.f1]) rfl rfl st28_one infosz28 ?_; intro w3 hk7 hg7 hs7; have n0_ := Aside0.mk (show w3.heap[g7]? = some (.cells #[.string x.f0, .int .i64 x.f1] 28 (0, 0)) from hk7); have n1_ := Aside0.mk (grown_below HBW.out hg7 HBW.out.size HG7.out); clear hk7 hg7 hs7 HK7 HBW; have HK7 := n0_; have HBW := n1_; clear n0_ n1_; have h70 : w3.cell? ⟨g7, 0, none⟩ = some (.string x.f0) := (blk_cell HK7.out 0).trans rfl; have h71 : w3.cell? ⟨g7, 1, none⟩ = some (.int .i64 x.f1) := (blk_cell HK7.out 1).trans rfl) | (go_at_call 36; refine (HC.out _).mono ?_; rintro e w4 ⟨rfl, hb⟩; have n0_ := Aside0.mk (blk_below HK7.out hb); have n1_ := Aside0.mk (HBW.out.trans (hb.mono HBW.out.size)); clear hb HK7 HBW h70 h71; have HK7 := n0_; have HBW := n1_; clear n0_ n1_; have h70 : w4.cell? ⟨g7, 0, none⟩ = some (.string x.f0) := (blk_cell HK7.out 0).trans rfl; have h71 : w4.cell? ⟨g7, 1, none⟩ = some (.int .i64 x.f1) := (blk_cell HK7.out 1).trans rfl))
          go_roundg (gk - 1)
          case measure => have := HI.out; have := HJ.out; omega
          case rel => exact ⟨i, j + 1, xs, rfl, by go_num, ⟨by have := HI.out; have := HJ.out; omega⟩, ⟨Nat.le_trans HBA.out HBW.out.size⟩, ⟨(HDI.out.go HBW.out HBA.out).skip HX.out HJ.out HB.out⟩⟩
        | false =>
          go_wp2_with (first | ((with_reducible refine gate_dst (N := 7) rfl ?_); refine wl_alloc rfl 28 rfl _ zero28 ?_; intro g7 hg w2 hblk hb hsz; have HG7 := Aside0.mk (show wr.heap.size ≤ g7 by rw [hg]; exact Nat.le_refl _); have HK7 := Aside0.mk (show w2.heap[g7]? = some (.cells #[.string ⟨#[]⟩, .int .i64 0] 28 (0, 0)) from hblk); have n0_ := Aside0.mk hb; clear hg hblk hb hsz HBW; have HBW := n0_; clear n0_) | ((with_reducible refine gate_store (t := 28) (p := 7) rfl ?_); refine wl_store_all rfl rfl 28 _ _ rfl g7 rfl _ _ HK7.out (.agg #[.string x.f0, .int .i64 x.f1]) rfl rfl st28_one infosz28 ?_; intro w3 hk7 hg7 hs7; have n0_ := Aside0.mk (show w3.heap[g7]? = some (.cells #[.string x.f0, .int .i64 x.f1] 28 (0, 0)) from hk7); have n1_ := Aside0.mk (grown_below HBW.out hg7 HBW.out.size HG7.out); clear hk7 hg7 hs7 HK7 HBW; have HK7 := n0_; have HBW := n1_; clear n0_ n1_; have h70 : w3.cell? ⟨g7, 0, none⟩ = some (.string x.f0) := (blk_cell HK7.out 0).trans rfl; have h71 : w3.cell? ⟨g7, 1, none⟩ = some (.int .i64 x.f1) := (blk_cell HK7.out 1).trans rfl) | (go_at_call 36; refine (HC.out _).mono ?_; rintro e w4 ⟨rfl, hb⟩; have n0_ := Aside0.mk (blk_below HK7.out hb); have n1_ := Aside0.mk (HBW.out.trans (hb.mono HBW.out.size)); clear hb HK7 HBW h70 h71; have HK7 := n0_; have HBW := n1_; clear n0_ n1_; have h70 : w4.cell? ⟨g7, 0, none⟩ = some (.string x.f0) := (blk_cell HK7.out 0).trans rfl; have h71 : w4.cell? ⟨g7, 1, none⟩ = some (.int .i64 x.f1) := (blk_cell HK7.out 1).trans rfl) | ((with_reducible refine gate_store (t := 28) (p := 33) rfl ?_); refine wl_store_agg rfl rfl 28 _ _ rfl g (i * 2) rfl cur 28 (blk_below HBK.out HBW.out) (.agg #[.string x.f0, .int .i64 x.f1]) rfl HSZ.out st28_one infosz28 ?_; intro w5 hk5 hg5 hs5; have n0_ := Aside0.mk ((HDI.out.go HBW.out HBA.out).keep HX.out HJ.out HB.out (blk_below HBK.out HBW.out) (Nat.le_trans HBA.out HBW.out.size) hk5 hg5); have n1_ := Aside0.mk (Nat.le_trans HBA.out (Nat.le_trans HBW.out.size (Nat.le_of_eq hs5.symm))); clear hk5 hg5 hs5 HDI HBA; have HDI := n0_; have HBA := n1_; clear n0_ n1_))
          go_roundg (gk - 1)
          case measure => have := HI.out; have := HJ.out; omega
          case rel => exact ⟨i + 1, j + 1, xs.set i x, by go_num, by go_num, ⟨by have := HI.out; have := HJ.out; omega⟩, HBA, HDI⟩
      · have hjn : j = n := by have := HDI.out.le; omega
        clear hj
        have hD := HDI.out
        subst hjn
        obtain ⟨hxn, hbg, hnc, hcm, cur, hblk, hsz, htk⟩ := blk28 hD.row
        have hfil : xs.take i = l0.filter keepE := by rw [hD.got, List.take_of_length_le (by rw [HN.out]; exact Nat.le_refl _)]
        have hcut : cur.toList.take (i * 2) = flat28 (xs.take i) := by
          rw [← flat28_take xs i (by omega), ← htk, List.take_take]
          congr 1
          omega
        have HE := Aside0.mk (show ∀ (w2 : World) (cur1 : Array Value), w2.heap[g]? = some (.cells cur1 28 (0, 0)) → cur1.size = cur.size → cur1.toList.take (i * 2) = cur.toList.take (i * 2) → Kd.R k28 28 w2 base (fun _ => True) (.slice (some ⟨g, 0, none⟩) i c0) (l0.filter keepE) from by
          intro w2 cur1 q1 q2 q3
          have hl : (xs.take i).length = i := by rw [List.length_take]; omega
          have := own_of_blk (xs := xs.take i) hbg (by rw [hl]; omega) hcm q1 (by rw [q2, hsz]) (by rw [hl, q3, hcut])
          rw [hl, hfil] at this
          exact this)
        have HBK := Aside0.mk hblk
        have HBL := Aside0.mk hD.below
        have HBG := Aside0.mk hbg
        have HLE := Aside0.mk (show i * 2 + (j - i) * (Value.agg #[.string ⟨#[]⟩, .int .i64 0]).cells.size ≤ cur.size by rw [hsz]; show i * 2 + (j - i) * 2 ≤ c0 * 2; omega)
        have hic : ¬ (c0 = i) := by omega
        clear hD hxn hbg hcm hblk hsz htk hfil hcut HDI
        go_wp2_with (first | ((with_reducible refine gate_builtin (b := .clear) (xs := #[.tmp 38]) rfl ?_); refine wl_clear rfl rfl 42 28 (.tmp 38) rfl Try.underlying42 (.agg #[.string ⟨#[]⟩, .int .i64 0]) zero28 st28_one g (i * 2) (j - i) (c0 - i) rfl cur 28 HBK.out HLE.out ?_; intro w2 cur1 q1 q2 q3 q4; have HR2 := Aside0.mk (HE.out w2 cur1 q1 q2 q3); have n0_ := Aside0.mk (grown_below HBL.out q4 HBA.out HBG.out); clear q1 q2 q3 q4 HBL; have HBL := n0_; clear n0_))
        go_ret
        exact ⟨_, rfl, HR2.out, HBL.out⟩
end Go.Proofs.Ytkkflgdobgbmmaa.Q
end
section
/- entries.List: entries.read, then slices.DeleteFunc. -/
namespace Go.Proofs.Ytkkflgdobgbmmaa.Q
open Go.RowKit Go.Proofs.YtkkflgdobgbmmaaW.PrintWords Go.Proofs.YtkkflgdobgbmmaaW.PrintLast Go.Proofs.YtkkflgdobgbmmaaW.PrintMore Go.Proofs.Ytkkflgdobgbmmaa.Pure
attribute [local go_sem] max2_int min2_int max_two min_two max_three min_three max_four min_four
set_option linter.unusedVariables false
set_option linter.unusedSimpArgs false
/-- What entries.List hands back. -/
def listV (l : List Int) : List S28 × Int := if (readV l).2 = 0 then ((readV l).1.filter keepE, 0) else ([], (readV l).2)
set_option maxRecDepth 100000 in
set_option maxHeartbeats 4000000 in
theorem list.calls (A0 : Option Addr) (c0 : Nat) (l0 : List Int) (w : World) (hr0 : Kd.C (Kd.int .u8) w A0 l0.length l0) (hc0 : l0.length ≤ c0) (hL : l0.length ≤ 140737488351232) (hu : u8s l0) :
    Calls Try.prog 20 #[.slice A0 l0.length c0] w fun e w' => ∃ v0_ : Value, e = .returned (.tuple #[v0_, .int .i64 (listV l0).2]) ∧ Kd.R k28 28 w' w.heap.size (fun _ => True) v0_ (listV l0).1 ∧ Below w.heap.size w w' := by
  have HRD := Aside0.mk (read.calls A0 c0 l0 w hr0 hc0 hL hu)
  unfold listV
  obtain ⟨r, hr⟩ : ∃ r, readV l0 = r := ⟨_, rfl⟩
  rw [hr] at HRD ⊢
  obtain ⟨r1, r2⟩ := r
  obtain ⟨L, hLn⟩ : ∃ L, l0.length = L := ⟨_, rfl⟩
  rw [hLn] at HRD ⊢
  clear hr hr0 hc0 hL hu hLn
  by_cases h : r2 = 0
  · subst h
    rw [if_pos rfl]
    go_enter Try.func20, Try.ntmps20
    go_wp2_with (first | (go_at_call 29; refine HRD.out.mono ?_; rintro e w2 ⟨v, rfl, hv, hb⟩; have HV := Aside0.mk (And.intro hv hb); clear hv hb) | (go_at_call 35; refine (del.calls _ r1 w.heap.size _ HV.out.1 HV.out.2.size).mono ?_; rintro e w3 ⟨v3, rfl, hv3, hb3⟩; have HV3 := Aside0.mk (And.intro hv3 hb3); clear hv3 hb3))
    refine bodyPost_ret (v := .tuple #[v3, .int .i64 0]) (by simp [results, Try.f20, go_sem]) rfl ?_
    exact ⟨_, rfl, HV3.out.1, HV.out.2.trans HV3.out.2⟩
  · rw [if_neg h]
    have hd : (r2 != 0) = true := by simp [h]
    go_enter Try.func20, Try.ntmps20
    go_wp2_with (go_at_call 29; refine HRD.out.mono ?_; rintro e w2 ⟨v, rfl, hv, hb⟩; have HV := Aside0.mk (And.intro hv hb); clear hv hb)
    refine bodyPost_ret (v := .tuple #[.slice none 0 0, .int .i64 r2]) (by simp [results, Try.f20, go_sem]) rfl ?_
    exact ⟨_, rfl, R28_of (World.ownsRow_nil _ _ _ _), HV.out.2⟩
end Go.Proofs.Ytkkflgdobgbmmaa.Q
end
section
namespace Go.Proofs.Ytkkflgdobgbmmaa.Q
open Go.RowKit Go.Proofs.YtkkflgdobgbmmaaW.PrintWords Go.Proofs.YtkkflgdobgbmmaaW.PrintLast Go.Proofs.YtkkflgdobgbmmaaW.PrintMore
attribute [local go_sem] max2_int min2_int max_two min_two max_three min_three max_four min_four   -- for this text's walks alone
set_option linter.unusedVariables false
set_option linter.unusedSimpArgs false

end Go.Proofs.Ytkkflgdobgbmmaa.Q
end
section
namespace Go.Proofs.Ytkkflgdobgbmmaa.Q
open Go.RowKit Go.Proofs.YtkkflgdobgbmmaaW.PrintWords Go.Proofs.YtkkflgdobgbmmaaW.PrintLast Go.Proofs.YtkkflgdobgbmmaaW.PrintMore
attribute [local go_sem] max2_int min2_int max_two min_two max_three min_three max_four min_four   -- for this text's walks alone
set_option linter.unusedVariables false
set_option linter.unusedSimpArgs false

end Go.Proofs.Ytkkflgdobgbmmaa.Q
end
section
/- Directories' bytes: what is read, and what is done, by the program and by the reference. -/
namespace Go.Proofs.Ytkkflgdobgbmmaa.Pure
open Go.RowKit Go.Proofs.Ytkkflgdobgbmmaa.Q Go.Proofs.YtkkflgdobgbmmaaW.PrintWords Go.Proofs.YtkkflgdobgbmmaaW.PrintLast Go.Proofs.YtkkflgdobgbmmaaW.PrintMore
set_option linter.unusedVariables false
set_option linter.unusedSimpArgs false

/-! one piece -/
theorem pcOf_length (l : List Int) (i : Nat) (h : 32 * i + 32 ≤ l.length) : (pcOf l i).length = 32 := by unfold pcOf; rw [List.length_take, List.length_drop]; omega
theorem pc_u8s {l : List Int} (hu : u8s l) (i : Nat) : u8s (pcOf l i) := u8s_take (u8s_drop hu _) _
theorem pc_parts (p : List Int) (hp : p.length = 32) (hu : u8s p) : pcN p = rd p ((0 : Nat) : Int) + 256 * rd p ((1 : Nat) : Int) ∧ pcL p = rd p ((2 : Nat) : Int) ∧ (0 ≤ rd p ((0 : Nat) : Int) ∧ rd p ((0 : Nat) : Int) < 256) ∧ (0 ≤ rd p ((1 : Nat) : Int) ∧ rd p ((1 : Nat) : Int) < 256) ∧ 0 ≤ rd p ((2 : Nat) : Int) ∧ rd p ((2 : Nat) : Int) < 256 := by
  match p, hp, hu with
  | a :: b :: c :: r, _, hu =>
    have ha := hu a (by simp)
    have hb := hu b (by simp)
    have hc := hu c (by simp)
    have e0 : rd (a :: b :: c :: r) ((0 : Nat) : Int) = a := rfl
    have e1 : rd (a :: b :: c :: r) ((1 : Nat) : Int) = b := rfl
    have e2 : rd (a :: b :: c :: r) ((2 : Nat) : Int) = c := rfl
    rw [e0, e1, e2]
    refine ⟨?_, rfl, ha, hb, hc.1, hc.2⟩
    unfold pcN
    show leval [a, b] = _
    simp only [leval]
    omega
theorem pcE_ok (p : List Int) (hp : p.length = 32) (hu : u8s p) (h : pcOk p = true) : EntOk (pcE p) := by
  obtain ⟨e1, e2, h1, h2, h3, h4⟩ := pc_parts p hp hu
  unfold pcOk at h
  rw [Bool.and_eq_true, Bool.and_eq_true, decide_eq_true_eq] at h
  have hk := h.1.1
  have hz : (pcN p = 0) ↔ (pcL p = 0) := by
    have := beq_iff_eq.mp h.1.2
    constructor
    · intro e; rw [decide_eq_true e] at this; exact of_decide_eq_true this.symm
    · intro e; rw [decide_eq_true e] at this; exact of_decide_eq_true this
  have hs : (pcE p).f0.size = (pcL p).toNat := by
    unfold pcE
    rw [str_size, List.length_take, List.length_drop, hp]
    omega
  refine ⟨?_, ?_, ?_, ?_⟩
  · show 0 ≤ pcN p; omega
  · show pcN p < 65536; omega
  · rw [hs]; omega
  · rw [hs]
    show pcN p = 0 ↔ _
    omega
theorem stepE_ok {acc acc' : List S28} {p : List Int} (hp : p.length = 32) (hu : u8s p) (ha : ∀ x ∈ acc, EntOk x) (h : stepE acc p = some acc') : (∀ x ∈ acc', EntOk x) ∧ acc'.length = acc.length + 1 := by
  unfold stepE at h
  split at h
  · rename_i c
    injection h with h
    subst h
    refine ⟨fun x hx => ?_, by rw [List.length_append]; rfl⟩
    rcases List.mem_append.mp hx with hx | hx
    · exact ha x hx
    · rw [List.mem_singleton.mp hx]
      exact pcE_ok p hp hu c.1
  · cases h
theorem fold_ok (l : List Int) (hu : u8s l) : ∀ (ps : List (List Int)) (acc out : List S28), (∀ p ∈ ps, p.length = 32 ∧ u8s p) → (∀ x ∈ acc, EntOk x) → ps.foldlM stepE acc = some out → ∀ x ∈ out, EntOk x
  | [], acc, out, _, ha, h => by injection h with h; subst h; exact ha
  | p :: ps, acc, out, hps, ha, h => by
    rw [List.foldlM_cons] at h
    obtain ⟨c, h1, h2⟩ := Option.bind_eq_some_iff.mp h
    have hp := hps p (List.mem_cons_self ..)
    exact fold_ok l hu ps c out (fun q hq => hps q (List.mem_cons_of_mem _ hq)) (stepE_ok hp.1 hp.2 ha h1).1 h2
theorem chunks_mem (l : List Int) (hu : u8s l) : ∀ p ∈ chunksOf l, p.length = 32 ∧ u8s p := by
  intro p hp
  unfold chunksOf at hp
  obtain ⟨i, hi, rfl⟩ := List.mem_map.mp hp
  have := List.mem_range.mp hi
  exact ⟨pcOf_length l i (by omega), pc_u8s hu i⟩
theorem readV_ok (l : List Int) (hu : u8s l) : (∀ x ∈ (readV l).1, EntOk x) ∧ 32 * (readV l).1.length ≤ l.length := by
  unfold readV
  split
  · unfold readM
    split
    · rename_i out h
      refine ⟨fold_ok l hu _ [] out (chunks_mem l hu) (fun x hx => by cases hx) h, ?_⟩
      have := readGo_length _ _ h
      have hcl : (chunksOf l).length = l.length / 32 := by unfold chunksOf; rw [List.length_map, List.length_range]
      show 32 * out.length ≤ _
      omega
    · exact ⟨fun x hx => (by cases hx), Nat.zero_le _⟩
  · exact ⟨fun x hx => (by cases hx), Nat.zero_le _⟩
theorem eread_eq (l : List Int) (hu : u8s l) (hl : l.length ≤ 1000000) : entries_read.f l = some (readV l) := by unfold entries_read.f; rw [if_pos ⟨by omega, hu⟩]
theorem eat_eq (l : List S28) (nm : ByteArray) : entries_at.f l nm = some (findAt (hitE nm) 0 l) := rfl

end Go.Proofs.Ytkkflgdobgbmmaa.Pure
end
section
/- What is done with directories' bytes: by the program and by the reference, in one form. -/
namespace Go.Proofs.Ytkkflgdobgbmmaa.Pure
open Go.RowKit Go.Proofs.Ytkkflgdobgbmmaa.Q Go.Proofs.YtkkflgdobgbmmaaW.PrintWords Go.Proofs.YtkkflgdobgbmmaaW.PrintLast Go.Proofs.YtkkflgdobgbmmaaW.PrintMore
set_option linter.unusedVariables false
set_option linter.unusedSimpArgs false

theorem findAt_bd (p : S28 → Bool) : ∀ (l : List S28) (i : Nat), findAt p i l = -1 ∨ ((i : Int) ≤ findAt p i l ∧ findAt p i l < (i : Int) + l.length)
  | [], i => Or.inl rfl
  | x :: l, i => by
    rw [findAt, List.length_cons]
    by_cases h : p x = true
    · rw [if_pos h]; right; omega
    · rw [if_neg h]
      rcases findAt_bd p l (i + 1) with h | h
      · exact Or.inl h
      · right; omega
/-! Find -/
def findV (l : List Int) (nm : ByteArray) : Int × Int :=
  if (readV l).2 ≠ 0 then (0, (readV l).2) else if findAt (hitE nm) 0 (readV l).1 < 0 then (0, 21) else ((rd_T28 (readV l).1 (findAt (hitE nm) 0 (readV l).1)).f1, 0)
theorem found_eq (l : List Int) (nm : ByteArray) (hu : u8s l) (hl : l.length ≤ 1000000) : entries_found.f l nm = some (if (readV l).2 ≠ 0 then ([], 0, (readV l).2) else if findAt (hitE nm) 0 (readV l).1 < 0 then ([], 0, 21) else ((readV l).1, findAt (hitE nm) 0 (readV l).1, 0)) := by
  unfold entries_found.f
  rw [eread_eq l hu hl, Option.bind_some]
  by_cases h : (readV l).2 = 0
  · rw [if_pos h, eat_eq, Option.bind_some, if_neg (fun e : (readV l).2 ≠ 0 => e h)]
    by_cases h2 : findAt (hitE nm) 0 (readV l).1 < 0
    · rw [if_pos h2, if_pos h2]
    · rw [if_neg h2, if_neg h2]
  · rw [if_neg h, if_pos h]
theorem find_eq (l : List Int) (nm : ByteArray) (hu : u8s l) (hl : l.length ≤ 1000000) : entries_Find.f l nm = some (findV l nm) := by
  unfold entries_Find.f findV
  rw [found_eq l nm hu hl, Option.bind_some]
  by_cases h : (readV l).2 = 0
  · rw [if_neg (fun e : (readV l).2 ≠ 0 => e h), if_neg (fun e : (readV l).2 ≠ 0 => e h)]
    have hb := findAt_bd (hitE nm) (readV l).1 0
    by_cases h2 : findAt (hitE nm) 0 (readV l).1 < 0
    · rw [if_pos h2, if_pos h2, if_neg (by decide)]
    · rw [if_neg h2, if_neg h2]
      show (if (0 : Int) = 0 then (if 0 ≤ findAt (hitE nm) 0 (readV l).1 then (if findAt (hitE nm) 0 (readV l).1 < ((readV l).1.length : Int) then _ else none) else none) else _) = _
      rw [if_pos rfl, if_pos (by omega), if_pos (by omega)]
  · rw [if_pos h, if_pos h]
    show (if (readV l).2 = 0 then _ else _) = _
    rw [if_neg h]
/-! Insert -/
def freeAt (l : List S28) : Int := findAt (fun x => x.f1 == 0) 0 l
def putFree (l : List S28) (x : S28) : List S28 := if freeAt l < 0 then l ++ [x] else l.set (freeAt l).toNat x
def insV (l : List Int) (nm : ByteArray) (n : Int) : List Int × Int :=
  if ckV nm ≠ 0 then ([], ckV nm) else if ¬ (1 ≤ n ∧ n < 65536) then ([], 1) else if (readV l).2 ≠ 0 then ([], (readV l).2) else
    if 0 ≤ findAt (hitE nm) 0 (readV l).1 then ([], 22) else (bytesL (putFree (readV l).1 ⟨nm, n⟩), 0)
theorem number_eq (n : Int) : entries_number.f n = some (decide (1 ≤ n ∧ n < 65536)) := by
  unfold entries_number.f
  by_cases h : n ≥ 1
  · rw [if_pos h]; congr 1; simp; omega
  · rw [if_neg h]; congr 1; symm; simp; omega
theorem free_loop (l : List S28) (hl : l.length ≤ 1000000) (d : Nat) : ∀ (k i : Nat), l.length - i = d → i ≤ l.length → d < k →
    entries_Entry_31_at_entries_Insert_lit1.l0 k l (l.length : Int) i = some (findAt (fun x => x.f1 == 0) i (l.drop i)) := by
  induction d with
  | zero =>
    intro k i hd hi hk
    obtain ⟨k, rfl⟩ : ∃ m, k = m + 1 := ⟨k - 1, by omega⟩
    simp only [entries_Entry_31_at_entries_Insert_lit1.l0]
    rw [if_neg (by omega), List.drop_eq_nil_of_le (by omega), findAt]
  | succ d ih =>
    intro k i hd hi hk
    obtain ⟨k, rfl⟩ : ∃ m, k = m + 1 := ⟨k - 1, by omega⟩
    have hil : i < l.length := by omega
    simp only [entries_Entry_31_at_entries_Insert_lit1.l0]
    rw [if_pos (by omega), if_pos (by omega), if_pos (by omega), rd28 l i hil, wrap64_id (by omega) (by omega), List.drop_eq_getElem_cons hil, findAt]
    show (if (l[i].f1 == 0) = true then _ else _) = _
    by_cases c : (l[i].f1 == 0) = true
    · rw [if_pos c, if_pos c]
    · rw [if_neg c, if_neg c]
      exact ih k (i + 1) (by omega) (by omega) (by omega)
theorem free_eq (k : Nat) (l : List S28) (hl : l.length ≤ 1000000) (hk : l.length < k) : entries_Entry_31_at_entries_Insert_lit1.f k l = some (freeAt l) := by
  unfold entries_Entry_31_at_entries_Insert_lit1.f
  exact free_loop l hl l.length k 0 (by omega) (by omega) hk
def Small (l : List S28) : Prop := ∀ x ∈ l, 0 ≤ x.f1 ∧ x.f1 < 65536 ∧ x.f0.size ≤ 24
theorem small_of {l : List S28} (h : ∀ x ∈ l, EntOk x) : Small l := fun x hx => ⟨(h x hx).lo, (h x hx).hi, (h x hx).nm⟩
theorem small_set {l : List S28} (h : Small l) (i : Nat) {x : S28} (hx : 0 ≤ x.f1 ∧ x.f1 < 65536 ∧ x.f0.size ≤ 24) : Small (l.set i x) := fun y hy => by
  rcases List.mem_or_eq_of_mem_set hy with hy | rfl
  · exact h y hy
  · exact hx
theorem small_append {l : List S28} (h : Small l) {x : S28} (hx : 0 ≤ x.f1 ∧ x.f1 < 65536 ∧ x.f0.size ≤ 24) : Small (l ++ [x]) := fun y hy => by
  rcases List.mem_append.mp hy with hy | hy
  · exact h y hy
  · rw [List.mem_singleton.mp hy]; exact hx
theorem insert_eq (k : Nat) (l : List Int) (nm : ByteArray) (n : Int) (hu : u8s l) (hl : l.length ≤ 1000000) (hk : l.length + 200 ≤ k) : entries_Insert.f k l nm n = some (insV l nm n) := by
  unfold entries_Insert.f insV
  rw [check_eq, Option.bind_some]
  by_cases h1 : ckV nm = 0
  · have hnm := ckV_zero h1
    rw [if_pos h1, if_neg (fun e : ckV nm ≠ 0 => e h1), number_eq, Option.bind_some]
    by_cases h2 : 1 ≤ n ∧ n < 65536
    · rw [if_pos (decide_eq_true h2), if_neg (fun e : ¬ (1 ≤ n ∧ n < 65536) => e h2), eread_eq l hu hl, Option.bind_some]
      by_cases h3 : (readV l).2 = 0
      · have hok := readV_ok l hu
        have hsm := small_of hok.1
        rw [if_pos h3, if_neg (fun e : (readV l).2 ≠ 0 => e h3), eat_eq, Option.bind_some]
        by_cases h4 : 0 ≤ findAt (hitE nm) 0 (readV l).1
        · rw [if_pos h4, if_pos h4]
        · rw [if_neg h4, if_neg h4, free_eq k _ (by omega) (by omega), Option.bind_some]
          have hb := findAt_bd (fun x => x.f1 == 0) (readV l).1 0
          unfold putFree
          by_cases h5 : freeAt (readV l).1 < 0
          · rw [if_pos h5, if_pos h5, if_pos (by omega), bytes_eq k _ (by rw [List.length_append]; show _ + 1 ≤ _; omega) (by rw [List.length_append]; show _ + 1 < _; omega) (small_append hsm ⟨by show 0 ≤ n; omega, by show n < _; omega, hnm.2.1⟩), Option.bind_some]
          · rw [if_neg h5, if_neg h5, if_pos (by omega), if_pos (by unfold freeAt at h5 ⊢; omega), bytes_eq k _ (by rw [List.length_set]; omega) (by rw [List.length_set]; omega) (small_set hsm _ ⟨by show 0 ≤ n; omega, by show n < _; omega, hnm.2.1⟩), Option.bind_some]
      · rw [if_neg h3, if_pos h3]
    · rw [if_neg (by rw [decide_eq_false h2]; decide), if_pos h2]
  · rw [if_neg h1, if_pos h1]
/-! Remove -/
/-- The last free ones are cut off. -/
def trim (l : List S28) : List S28 := (l.reverse.dropWhile fun x => x.f1 == 0).reverse
theorem trim_snoc (l : List S28) (x : S28) : trim (l ++ [x]) = if x.f1 = 0 then trim l else l ++ [x] := by
  unfold trim
  rw [List.reverse_append, List.reverse_singleton, List.singleton_append, List.dropWhile_cons]
  by_cases h : x.f1 = 0
  · rw [if_pos (beq_iff_eq.mpr h), if_pos h]
  · rw [if_neg (fun e => h (beq_iff_eq.mp e)), if_neg h, List.reverse_cons, List.reverse_reverse]
theorem trim_take (l : List S28) (i : Nat) (h : i < l.length) : trim (l.take (i + 1)) = if l[i].f1 = 0 then trim (l.take i) else l.take (i + 1) := by
  rw [List.take_succ_eq_append_getElem h, trim_snoc]
def remV (l : List Int) (nm : ByteArray) : List Int × Int :=
  if ckV nm ≠ 0 then ([], ckV nm) else if (readV l).2 ≠ 0 then ([], (readV l).2) else
    if findAt (hitE nm) 0 (readV l).1 < 0 then ([], 21) else (bytesL (trim ((readV l).1.set (findAt (hitE nm) 0 (readV l).1).toNat ⟨⟨#[]⟩, 0⟩)), 0)
theorem rem_loop (l : List S28) (hl : l.length ≤ 100000) (hs : Small l) : ∀ (n k : Nat), n ≤ l.length → n + l.length + 100 < k → entries_Remove.l0 k (l.take n) = some (bytesL (trim (l.take n)), 0) := by
  intro n
  induction n with
  | zero =>
    intro k hn hk
    obtain ⟨k, rfl⟩ : ∃ m, k = m + 1 := ⟨k - 1, by omega⟩
    simp only [entries_Remove.l0]
    rw [List.take_zero, if_neg (by simp), bytes_eq k [] (by simp) (by simp; omega) (fun x hx => by cases hx), Option.bind_some]
    rfl
  | succ n ih =>
    intro k hn hk
    obtain ⟨k, rfl⟩ : ∃ m, k = m + 1 := ⟨k - 1, by omega⟩
    have hlen : (l.take (n + 1)).length = n + 1 := by rw [List.length_take]; omega
    simp only [entries_Remove.l0]
    rw [hlen, if_pos (by omega), wrap64_id (by omega) (by omega), if_pos (by omega), if_pos (by omega), show ((n + 1 : Nat) : Int) - 1 = (n : Int) by omega, rd28 _ n (by omega), List.getElem_take, Int.toNat_natCast, List.take_take, Nat.min_eq_left (by omega), trim_take l n (by omega)]
    by_cases c : (l[n]'(by omega)).f1 = 0
    · rw [if_pos c, if_pos c, if_pos (by omega)]
      exact ih k (by omega) (by omega)
    · rw [if_neg c, if_neg c, bytes_eq k _ (by omega) (by omega) (fun x hx => hs x (List.mem_of_mem_take hx)), Option.bind_some]
theorem remove_eq (k : Nat) (l : List Int) (nm : ByteArray) (hu : u8s l) (hl : l.length ≤ 100000) (hk : 2 * l.length + 200 ≤ k) : entries_Remove.f k l nm = some (remV l nm) := by
  unfold entries_Remove.f remV
  rw [check_eq, Option.bind_some]
  by_cases h1 : ckV nm = 0
  · rw [if_pos h1, if_neg (fun e : ckV nm ≠ 0 => e h1), found_eq l nm hu (by omega), Option.bind_some]
    by_cases h3 : (readV l).2 = 0
    · have hok := readV_ok l hu
      have hsm := small_of hok.1
      have hb := findAt_bd (hitE nm) (readV l).1 0
      rw [if_neg (fun e : (readV l).2 ≠ 0 => e h3), if_neg (fun e : (readV l).2 ≠ 0 => e h3)]
      by_cases h4 : findAt (hitE nm) 0 (readV l).1 < 0
      · rw [if_pos h4, if_pos h4]
        rfl
      · rw [if_neg h4, if_neg h4]
        show (if (0 : Int) = 0 then (if 0 ≤ findAt (hitE nm) 0 (readV l).1 then (if findAt (hitE nm) 0 (readV l).1 < ((readV l).1.length : Int) then entries_Remove.l0 k ((readV l).1.set (findAt (hitE nm) 0 (readV l).1).toNat ⟨⟨#[]⟩, 0⟩) else none) else none) else _) = _
        rw [if_pos rfl, if_pos (by omega), if_pos (by omega)]
        have hx : Small ((readV l).1.set (findAt (hitE nm) 0 (readV l).1).toNat ⟨⟨#[]⟩, 0⟩) := small_set hsm _ ⟨Int.le_refl _, by decide, Nat.zero_le _⟩
        have hlen : ((readV l).1.set (findAt (hitE nm) 0 (readV l).1).toNat ⟨⟨#[]⟩, 0⟩).length = (readV l).1.length := List.length_set
        have := rem_loop _ (by rw [hlen]; omega) hx _ k (Nat.le_refl _) (by rw [hlen]; omega)
        rw [List.take_length] at this
        exact this
    · rw [if_pos h3, if_pos h3]
      show (if (readV l).2 = 0 then _ else _) = _
      rw [if_neg h3]
  · rw [if_neg h1, if_pos h1]
theorem new_eq (n : Int) (h0 : 0 ≤ n) (h1 : n < 65536) : entries_New.f n = some (pieceOf ⟨⟨#[46, 46]⟩, n⟩) := by
  unfold entries_New.f
  rw [epiece_eq _ n h0 h1 (by decide), Option.bind_some]
  rfl
/-! the example -/
theorem awake22_ok (k : Nat) (hk : 1000 ≤ k) : reliquarylaw22_awake.f k = some true := by
  unfold reliquarylaw22_awake.f
  have hu0 : u8s [] := fun x hx => by cases hx
  have e1 : (insV [] ⟨#[97]⟩ 5) = (bytesL [⟨⟨#[97]⟩, 5⟩], 0) := by decide +kernel
  have hu1 := bytesL_u8s [⟨⟨#[97]⟩, 5⟩]
  have hl1 := bytesL_length [⟨⟨#[97]⟩, 5⟩]
  have e2 : findV (bytesL [⟨⟨#[97]⟩, 5⟩]) ⟨#[97]⟩ = (5, 0) := by decide +kernel
  have e3 : remV (bytesL [⟨⟨#[97]⟩, 5⟩]) ⟨#[97]⟩ = ([], 0) := by decide +kernel
  have e4 : findV (bytesL [⟨⟨#[46, 46]⟩, 7⟩]) ⟨#[46, 46]⟩ = (7, 0) := by decide +kernel
  have e5 : ckV ⟨#[46, 46]⟩ = 26 := by decide +kernel
  have hl2 := bytesL_length [⟨⟨#[46, 46]⟩, 7⟩]
  rw [insert_eq k [] _ _ hu0 (by simp) (by simp; omega), Option.bind_some, e1]
  show ((entries_Find.f (bytesL [⟨⟨#[97]⟩, 5⟩]) (⟨#[97]⟩ : ByteArray)).bind _) = _
  rw [find_eq _ _ hu1 (by rw [hl1]; decide), Option.bind_some, e2]
  show ((entries_Remove.f k (bytesL [⟨⟨#[97]⟩, 5⟩]) (⟨#[97]⟩ : ByteArray)).bind _) = _
  rw [remove_eq k _ _ hu1 (by rw [hl1]; decide) (by rw [hl1]; show 2 * (32 * 1) + 200 ≤ k; omega), Option.bind_some, e3, new_eq 7 (by decide) (by decide), Option.bind_some, ← bytesL_one, find_eq _ _ (bytesL_u8s _) (by rw [hl2]; decide), Option.bind_some, e4, check_eq, e5, Option.bind_some]
  have r0 : rd (bytesL [⟨⟨#[97]⟩, 5⟩]) 0 = 5 := by decide +kernel
  have r2 : rd (bytesL [⟨⟨#[97]⟩, 5⟩]) 2 = 1 := by decide +kernel
  have r3 : rd (bytesL [⟨⟨#[97]⟩, 5⟩]) 3 = 97 := by decide +kernel
  simp only [hl1, r0, r2, r3]
  rfl
end Go.Proofs.Ytkkflgdobgbmmaa.Pure
end
section
/- EntriesNames: the law, over what the walk computes. -/
namespace Go.Proofs.Ytkkflgdobgbmmaa.Pure
open Go.RowKit Go.Proofs.Ytkkflgdobgbmmaa.Q Go.Proofs.YtkkflgdobgbmmaaW.PrintWords Go.Proofs.YtkkflgdobgbmmaaW.PrintLast Go.Proofs.YtkkflgdobgbmmaaW.PrintMore
set_option linter.unusedVariables false
set_option linter.unusedSimpArgs false
theorem names_loop (c d at_ : Int) (n : Nat) (hn : n ≤ 1000) (q : Nat) : ∀ (k i : Nat) (acc : List Int), n - i = q → i ≤ n → acc.length = i → q + 100 < k →
    reliquarylaw22_EntriesNames.l0 k c d at_ n acc i = some true := by
  induction q with
  | zero =>
    intro k i acc hd hi ha hk
    obtain ⟨k, rfl⟩ : ∃ m, k = m + 1 := ⟨k - 1, by omega⟩
    rw [reliquarylaw22_EntriesNames.l0, if_neg (by omega), check_eq, Option.bind_some, refcheck_eq k (by omega), Option.bind_some, beq_self_eq_true]
  | succ q ih =>
    intro k i acc hd hi ha hk
    obtain ⟨k, rfl⟩ : ∃ m, k = m + 1 := ⟨k - 1, by omega⟩
    have e : (i : Int) + 1 = ((i + 1 : Nat) : Int) := by omega
    rw [reliquarylaw22_EntriesNames.l0, if_pos (by omega), wrap64_id (n := (i : Int) + 1) (by omega) (by omega), e]
    by_cases h : (i : Int) = Int.tmod (wrap64 at_) 30
    · rw [if_pos h, if_pos (by omega)]
      exact ih k (i + 1) _ (by omega) (by omega) (by rw [List.length_append, ha]; rfl) (by omega)
    · rw [if_neg h, if_pos (by omega)]
      exact ih k (i + 1) _ (by omega) (by omega) (by rw [List.length_append, ha]; rfl) (by omega)
theorem EntriesNames : reliquarylaw22_EntriesNames.Pure := by
  intro n c d at_ h1 h2 h3 h4
  have hw := wf_u8 h1
  refine ⟨2000, ?_⟩
  unfold reliquarylaw22_EntriesNames.f
  rw [awake22_ok 2000 (by decide), Option.bind_some, if_pos rfl, Int.tmod_eq_emod_of_nonneg hw.1, wrap64_id (by omega) (by omega)]
  obtain ⟨m, hm⟩ := Int.eq_ofNat_of_zero_le (show 0 ≤ n % 30 by omega)
  rw [hm]
  exact names_loop c d at_ m (by omega) m 2000 0 [] (by omega) (by omega) rfl (by omega)
end Go.Proofs.Ytkkflgdobgbmmaa.Pure
end
section
namespace Go.Proofs.Ytkkflgdobgbmmaa.entriesNames
open Go.ChangeShapes Go.WideShapes Go.ChangeAt Go.RowKit
open Go.ChangeMaps (open_string shut_string)
set_option linter.unusedVariables false
theorem own : ownKnob Try.prog.godebug = none := by kernel_rfl
set_option maxRecDepth 100000 in
theorem lifted (os : Os) (started : os.Started) (H : Type) (enc : TypeId × Value → H) :
    ReturnsInHanded {} Try.checked os 3 .any (Rows.entriesNamesSpec.pre6 enc Try.prog Try.f3 Rows.entriesNamesRow.domain false) (Rows.entriesNamesSpec.post enc Try.prog Try.f3 false true false false) := by
  refine returnsInHanded_of_change_sized (C := Try.checked) own started (by kernel_rfl) Try.func3
    (ChangeSpec.witness6 (enc := enc) (C := Try.checked) false ⟨#[], #[.int .u8 0, .int .u8 0, .int .u8 0, .int .u8 0], []⟩ 8 (by kernel_rfl) (by kernel_rfl) (by kernel_rfl) (by kernel_rfl)) ?_
  intro W base args ds gs before hval0 hW hcnd hsz0 _
  have hsz : (DataW.weightsEach Try.prog (Try.f3.params.toList ++ Rows.entriesNamesSpec.plain.varTypes Try.prog) (ds ++ gs)).all (· ≤ reachBytes) = true := hsz0
  have hval : ∀ (j : Nat) t v, Try.f3.params[j]? = some t → args[j]? = some v → Value.okWide Try.prog W .any base t v := hval0
  have hW' := hW
  obtain ⟨p, q, hA0, hV, rfl, hfz, hnd⟩ := hW
  have hA : DataW.TrodAll enc Try.prog W 0 (fun _ => true) true Try.f3.params.toList args.toList ds p := hA0
  rw [Try.params3] at hA hval hsz
  obtain ⟨v0, vs0, d0, ds0, p0, q0, hargs, rfl, rfl, h0, r0⟩ := trodAll_cons hA
  obtain ⟨v1, vs1, d1, ds1, p1, q1, rfl, rfl, rfl, h1, r1⟩ := trodAll_cons r0
  obtain ⟨v2, vs2, d2, ds2, p2, q2, rfl, rfl, rfl, h2, r2⟩ := trodAll_cons r1
  obtain ⟨v3, vs3, d3, ds3, p3, q3, rfl, rfl, rfl, h3, r3⟩ := trodAll_cons r2
  obtain ⟨rfl, rfl, rfl⟩ := trodAll_nil r3
  obtain rfl : args = #[v0, v1, v2, v3] := by cases args; simp_all
  obtain ⟨rfl, rfl⟩ := trodVars_none hV
  obtain ⟨a0, rfl, rfl, rfl, w0⟩ := open_int Try.underlying5 (hval 0 5 v0 rfl rfl) h0
  obtain ⟨a1, rfl, rfl, rfl, w1⟩ := open_int Try.underlying5 (hval 1 5 v1 rfl rfl) h1
  obtain ⟨a2, rfl, rfl, rfl, w2⟩ := open_int Try.underlying5 (hval 2 5 v2 rfl rfl) h2
  obtain ⟨a3, rfl, rfl, rfl, w3⟩ := open_int Try.underlying5 (hval 3 5 v3 rfl rfl) h3
  clear hA0 hval0 hsz0 hsz
  refine (Q.reliquarylaw22_EntriesNames.walk Pure.EntriesNames a0 a1 a2 a3 W w0 w1 w2 w3).mono fun e W' ⟨he, bel⟩ => ?_
  subst he
  exact ⟨_, rfl, _, _, _, [], _, [], hW', trodAll_mk1 (shut_bool Try.underlying4 _), (trodAll_cons_mk (shut_int Try.underlying5 w0) (trodAll_cons_mk (shut_int Try.underlying5 w1) (trodAll_cons_mk (shut_int Try.underlying5 w2) (trodAll_cons_mk (shut_int Try.underlying5 w3) trodAll_mk0)))), rfl, bel.frame _, fun h => by cases h⟩
theorem over : Rows.entriesNamesRow.holds Try.pinned (OpenSpec.ofChange Rows.entriesNamesSpec) :=
  OpenClaim.holds_of_wide 3 Try.f3 rfl rfl rfl rfl rfl rfl rfl ⟨rfl, rfl, rfl, rfl, rfl⟩ rfl rfl rfl rfl rfl (by kernel_rfl) Try.func3 (by kernel_rfl)
    (of_decide_eq_true (by kernel_rfl)) (by unfold Func.isWrapper; first | (rw [if_pos (by decide +kernel)]; kernel_rfl) | (rw [if_neg (by decide +kernel)]; exact ⟨rfl, rfl⟩))
    (fun os started H enc _ => lifted os started H enc)
theorem proved : Rows.EntriesNamesSaid := over
#print axioms proved
end Go.Proofs.Ytkkflgdobgbmmaa.entriesNames
namespace Go.Proofs.Ytkkflgdobgbmmaa
/-- The row, under a short name, for the claim. -/
theorem entriesNames_holds : Rows.EntriesNamesSaid := entriesNames.proved
end Go.Proofs.Ytkkflgdobgbmmaa
end
