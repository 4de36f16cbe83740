/- EntriesKeep: for every input the statement's function returns true; there is no further condition. Text 3 of 7: this session's texts, and of the words that print.sh has printed those that are needed, laid together by its own program (merge.py). Not trusted: Lean checks them. -/
import Derived.Test.YtkkflgdobgbmmaaMEntriesKeep1
import Derived.RangeFuncNested
import Derived.RangeFuncBound
import Derived.RangeFuncCalls
import Derived.RangeFuncLeaves
import Derived.Shelf.RegionOpen
import Derived.WalkKit
import Derived.OwnWalkIn
import Derived.TacticsInMore
import Derived.LoopNIn
import Derived.LoopIn
import Derived.Maps.OwnIn
import Derived.StringKeys
import Derived.Maps.AppendAt
import Derived.RangeFuncWrites
section
/- slices.Chunk at pieces of 32: its two functions, and what the iterator hands its loop. -/
namespace Go.Proofs.Ytkkflgdobgbmmaa.Q
open Go.RowKit Go.Shelf Go.Proofs.YtkkflgdobgbmmaaW.PrintWords Go.Proofs.YtkkflgdobgbmmaaW.PrintLast Go.Proofs.YtkkflgdobgbmmaaW.PrintMore Go.Proofs.Ytkkflgdobgbmmaa.Pure
attribute [local go_sem] max2_int min2_int max_two min_two max_three min_three max_four min_four
attribute [local go_sem] Oper.semAt_some
set_option linter.unusedVariables false
set_option linter.unusedSimpArgs false
/-- Piece k of the row at A. -/
def chV (A : Option Addr) (k : Nat) : Value := .slice (A.map (·.add (32 * k))) 32 32
/-- The two boxes lie as they lay. -/
def KpC (B1 B2 : Nat) (W W' : World) : Prop := W'.cell? ⟨B1, 0, none⟩ = W.cell? ⟨B1, 0, none⟩ ∧ W'.cell? ⟨B2, 0, none⟩ = W.cell? ⟨B2, 0, none⟩
theorem KpC.t {B1 B2 : Nat} {A B C : World} (h : KpC B1 B2 A B) (k : KpC B1 B2 B C) : KpC B1 B2 A C := ⟨k.1.trans h.1, k.2.trans h.2⟩
theorem KpC.b {B1 B2 : Nat} {w : World} (h1 : B1 < w.heap.size) (h2 : B2 < w.heap.size) (W : World) (l : Nat) (o o' : Obj) (hl : w.heap.size ≤ l) (h : W.heap[l]? = some o) (hc : o.isCells = false) (hw : o.isWalk = false) : KpC B1 B2 W (W.putObj l o') :=
  have hb := belowK_b (Nat.le_refl _) W l o o' hl h hc hw
  ⟨hb.cell (p := ⟨B1, 0, none⟩) h1, hb.cell (p := ⟨B2, 0, none⟩) h2⟩
def upF (m k : Nat) : List (Fin m) := (List.finRange m).take k
theorem upF_succ {m k : Nat} (h : k < m) : upF m (k + 1) = upF m k ++ [⟨k, h⟩] := by
  unfold upF
  rw [List.take_add_one]
  simp [h]
theorem upF_length {m k : Nat} (h : k ≤ m) : (upF m k).length = k := by
  unfold upF
  simp [h]
theorem upF_all (m : Nat) : upF m m = List.finRange m := by
  unfold upF
  rw [List.take_of_length_le (by simp)]
theorem lt_cell {W : World} {p : Addr} {v : Value} (h : W.cell? p = some v) : p.block < W.heap.size := by
  rcases Nat.lt_or_ge p.block W.heap.size with hl | hl
  · exact hl
  · have : W.heap[p.block]? = none := Array.getElem?_eq_none hl
    simp [World.cell?, this] at h
section
variable {P : Program}
theorem run_chunk1 (t : TypeId) (ht : P.underlying t = some (.slice (P.elem t))) (hz : ∀ w, (sizeOf (P.elem t)).run P w = .ok 1 w) (A : Option Addr) (L c k : Nat) (z : Int) (hzk : z = ((32 * k : Nat) : Int)) (hk : 32 * k + 32 ≤ L) :
    ∃ (A' : Option Addr) (q c' : Nat), (∀ w, (Instr.slice t (.slice A L c) (some (.int .i64 z)) none none).run P w = .ok (.slice A' q c') w) ∧ min (32 : Int) (q : Int) = 32 := by
  subst hzk
  refine ⟨if c = 32 * k then A else A.map (·.add (32 * k * 1)), L - 32 * k, c - 32 * k, fun w => ?_, by omega⟩
  rw [run_slice_l w t A L c ht .i64 _ (by omega) (by omega), hz]
  simp only [Result.andThen, sliced, Int.toNat_natCast]
theorem run_chunk2 (t : TypeId) (ht : P.underlying t = some (.slice (P.elem t))) (hz : ∀ w, (sizeOf (P.elem t)).run P w = .ok 1 w) (A : Option Addr) (L c k : Nat) (z y : Int) (hzk : z = ((32 * k : Nat) : Int)) (hy : y = ((32 * k + 32 : Nat) : Int)) (hk : 32 * k + 32 ≤ c) (w : World) :
    (Instr.slice t (.slice A L c) (some (.int .i64 z)) (some (.int .i64 y)) (some (.int .i64 y))).run P w = .ok (chV A k) w := by
  subst hzk hy
  rw [run_slice_lhm w t A L c ht .i64 .i64 .i64 _ _ _ (by omega) (by omega) (by omega) (by omega), hz]
  simp only [Result.andThen, sliced, Int.toNat_natCast]
  rw [if_neg (by omega), Nat.mul_one, show 32 * k + 32 - 32 * k = 32 by omega]
  rfl
end
set_option maxRecDepth 100000 in
set_option maxHeartbeats 4000000 in
theorem chunk1_in (n : Nat) (hn : 1 ≤ n) (l B1 B2 m L : Nat) (A : Option Addr) (c : Nat) (hL : 32 * m = L) (hc : L ≤ c) (hm : L ≤ 140737488351232) (J Jx : List (Fin m) → World → Prop)
    (hY : ∀ pre (x : Fin m) W, J pre W → pre.length < m → YieldAt Fence.wide (n - 1) Try.prog l #[chV A x.1] W fun e W' =>
      (e = .returned (.bool true) ∧ J (pre ++ [x]) W' ∧ KpC B1 B2 W W') ∨ (e = .returned (.bool false) ∧ Jx (pre ++ [x]) W'))
    (hJd : ∀ pre W W', J pre W → Below W.heap.size W W' → J pre W') (W : World) (hB1 : W.cell? ⟨B1, 0, none⟩ = some (.slice A L c)) (hB2 : W.cell? ⟨B2, 0, none⟩ = some (.int .i64 32)) (h0 : J [] W) :
    CallsIn Fence.wide n Try.prog 50 #[.func (.yield l) #[] #[], .pointer (some ⟨B1, 0, none⟩), .pointer (some ⟨B2, 0, none⟩)] W fun e W' => (∃ v, e = .returned v) ∧
      ((∃ ys, ys = List.finRange m ∧ J ys W') ∨ (∃ pre, (∃ k, k ≤ m ∧ pre = upF m k) ∧ Jx pre W')) := by
  refine callsIn_of_wp Try.func50 rfl trivial ?_ rfl
  simp only [Try.ntmps50, List.size_toArray, List.length_cons, List.length_nil, Nat.reduceAdd, Nat.reduceSub, Array.replicate_succ, Array.replicate_zero, List.push_toArray, List.append_toArray, List.nil_append, List.cons_append]
  gi_wp2
  gi_loopw [4] (fun i wr => ∃ (k : Nat) (z : Int), k ≤ m ∧ z = ((32 * k : Nat) : Int) ∧ i = .int .i64 z ∧ J (upF m k) wr ∧ wr.cell? ⟨B1, 0, none⟩ = some (.slice A L c) ∧ wr.cell? ⟨B2, 0, none⟩ = some (.int .i64 32))
    (fun i _ => m - (intOf i).toNat / 32)
  case atStart => exact ⟨0, 0, Nat.zero_le _, rfl, rfl, h0, hB1, hB2⟩
  case round =>
    obtain ⟨k, z, hk, hzk, rfl, hJs, hb1, hb2⟩ := hrel
    have HY := Aside0.mk hY
    have HJD := Aside0.mk hJd
    have HZK := Aside0.mk hzk
    have HLM := Aside0.mk (And.intro hL hm)
    by_cases hlt : k < m
    · have hd1 : decide (z < (L : Int)) = true := decide_eq_true (by omega)
      have hlL : 32 * k + 32 ≤ L := by omega
      obtain ⟨A1, q, c1, hs1, hmin⟩ := run_chunk1 (P := Try.prog) 23 Try.underlying23 (by intro w; exact Try.sizeOf5 w) A L c k z hzk hlL
      have hs2 := run_chunk2 (P := Try.prog) 23 Try.underlying23 (by intro w; exact Try.sizeOf5 w) A L c k z (z + 32) hzk (by omega) (by omega)
      have hwr : wrap64 (z + 32) = z + 32 := wrap64_id (by omega) (by omega)
      have hl1 := lt_cell hb1
      have hl2 := lt_cell hb2
      have HC1 := Aside0.mk (And.intro hb1 hl1)
      have HC2 := Aside0.mk (And.intro hb2 hl2)
      have HS1 := Aside0.mk hs1
      have HMN := Aside0.mk hmin
      have HK := Aside0.mk hk
      clear hs1 hmin hl1 hl2 hY hJd hzk hL hm hlL hk hc
      gi_wp2
      refine wpIn_wide.2 ?_
      refine mono_region (T := _) (B := [0, 0, 0, 6, 14, 31, 63]) (n := 7) [(0, 13, VP.is (Value.int .i64 32)), (1, 14, VP.is (Value.slice A L c)), (2, 15, VP.is (Value.int .i64 z)), (3, 16, VP.is (Value.slice A1 q c1)), (4, 17, VP.is (Value.int .i64 (q : Int))), (5, 18, VP.is (Value.int .i64 32)), (6, 5, VP.is (Value.int .i64 32))] rfl (by kernel_rfl) (by kernel_rfl) rfl (by kernel_rfl) (by kernel_rfl) (by kernel_rfl) (by kernel_rfl) (by kernel_rfl) ?_ ?_
      · refine ms_cons ?_ <| ms_cons ?_ <| ms_cons ?_ <| ms_cons ?_ <| ms_cons ?_ <| ms_cons ?_ <| ms_cons ?_ <| ms_nil
        · intro act_ w' H
          have e2 := H.tmp (t := 2) rfl (by kernel_rfl)
          have ev2 := eval_of e2
          have hcell := (H.below.cell (p := ⟨B2, 0, none⟩) HC2.out.2).trans HC2.out.1
          refine ms_val rfl rfl rfl (Value.int .i64 32) w' ?_ (Below.refl _ _) rfl
          · go_simp
            try rfl
        · intro act_ w' H
          have e1 := H.tmp (t := 1) rfl (by kernel_rfl)
          have ev1 := eval_of e1
          have hcell := (H.below.cell (p := ⟨B1, 0, none⟩) HC1.out.2).trans HC1.out.1
          refine ms_val rfl rfl rfl (Value.slice A L c) w' ?_ (Below.refl _ _) rfl
          · go_simp
            try rfl
        · intro act_ w' H
          have e4 := H.tmp (t := 4) rfl (by kernel_rfl)
          have ev4 := eval_of e4
          refine ms_val rfl rfl rfl (Value.int .i64 z) w' ?_ (Below.refl _ _) rfl
          · go_simp
            try rfl
        · intro act_ w' H
          obtain ⟨_, e14, rfl⟩ := H.on 1 rfl (by kernel_rfl)
          have ev14 := eval_of e14
          obtain ⟨_, e15, rfl⟩ := H.on 2 rfl (by kernel_rfl)
          have ev15 := eval_of e15
          have hs1 := HS1.out
          refine ms_val rfl rfl rfl (Value.slice A1 q c1) w' ?_ (Below.refl _ _) rfl
          · go_simp
            try rfl
        · intro act_ w' H
          obtain ⟨_, e16, rfl⟩ := H.on 3 rfl (by kernel_rfl)
          have ev16 := eval_of e16
          refine ms_val rfl rfl rfl (Value.int .i64 (q : Int)) w' ?_ (Below.refl _ _) rfl
          · go_simp
            try rfl
        · intro act_ w' H
          obtain ⟨_, e13, rfl⟩ := H.on 0 rfl (by kernel_rfl)
          have ev13 := eval_of e13
          obtain ⟨_, e17, rfl⟩ := H.on 4 rfl (by kernel_rfl)
          have ev17 := eval_of e17
          have hmin := HMN.out
          refine ms_val rfl rfl rfl (Value.int .i64 32) w' ?_ (Below.refl _ _) rfl
          · go_simp
            intro hq_
            omega
        · intro act_ w' H
          obtain ⟨_, e18, rfl⟩ := H.on 5 rfl (by kernel_rfl)
          have ev18 := eval_of e18
          refine ms_val rfl rfl rfl (Value.int .i64 32) w' ?_ (Below.refl _ _) rfl
          · go_simp
            try rfl
      intro w3 hb3
      rintro _ rfl _ rfl _ rfl _ rfl _ rfl _ rfl _ rfl
      simp only [Ends, Act.put, List.setIfInBounds_toArray, List.set_cons_zero, List.set_cons_succ]
      have hJ3 := HJD.out _ _ _ hJs hb3
      have hb1' := (hb3.cell (p := ⟨B1, 0, none⟩) HC1.out.2).trans HC1.out.1
      have hb2' := (hb3.cell (p := ⟨B2, 0, none⟩) HC2.out.2).trans HC2.out.1
      clear hJs hb3 hb1 hb2 HC1 HC2
      have HLT := Aside0.mk hlt
      obtain ⟨fn, tmps, assign, body, hy, hR⟩ := HY.out _ ⟨k, hlt⟩ w3 hJ3 (by rw [upF_length HK.out]; exact hlt)
      dsimp only at hy
      gi_wp2
      refine hR.mono ?_
      rintro e W3 (⟨rfl, hJ4, hk4⟩ | ⟨rfl, hJx4⟩)
      · have hb14 := hk4.1.trans hb1'
        have hb24 := hk4.2.trans hb2'
        gi_wp2
        go_roundw
        case rel => exact ⟨k + 1, z + 32, HLT.out, by have := HZK.out; omega, by rw [hwr], by rw [upF_succ HLT.out]; exact hJ4, hb14, hb24⟩
        case measure =>
          have := HZK.out
          have := HLT.out
          simp only [intOf, hwr]
          omega
      · gi_wp2
        refine bodyPost_ret (results_none rfl _ _ _) rfl ?_
        exact ⟨⟨_, rfl⟩, .inr ⟨_, ⟨k + 1, HLT.out, (upF_succ HLT.out).symm⟩, hJx4⟩⟩
    · obtain rfl : k = m := by omega
      have hd1 : decide (z < (L : Int)) = false := decide_eq_false (by omega)
      gi_wp2
      go_end0
      exact ⟨⟨_, rfl⟩, .inl ⟨_, rfl, by rw [← upF_all]; exact hJs⟩⟩
set_option maxHeartbeats 1000000 in
/-- slices.Chunk: the slice and the length are boxed; the function value captures the boxes. -/
theorem chunk.calls (A : Option Addr) (L c : Nat) (w : World) :
    Calls Try.prog 39 #[.slice A L c, .int .i64 32] w fun e w' => e = .returned (.func (.func 50) #[] #[.pointer (some ⟨w.heap.size, 0, none⟩), .pointer (some ⟨w.heap.size + 1, 0, none⟩)]) ∧ w' = (w.alloc (.cells #[.slice A L c] 23)).alloc (.cells #[.int .i64 32] 3) := by
  go_enter Try.func39, Try.ntmps39
  go_wp2
  go_ret
  exact ⟨rfl, rfl⟩
theorem chunk_stops (n : Nat) (hn : 1 ≤ n) (B1 B2 m L : Nat) (A : Option Addr) (c : Nat) (hL : 32 * m = L) (hc : L ≤ c) (hm : L ≤ 140737488351232) (w : World) (hB1 : B1 < w.heap.size) (hB2 : B2 < w.heap.size)
    (h1 : w.cell? ⟨B1, 0, none⟩ = some (.slice A L c)) (h2 : w.cell? ⟨B2, 0, none⟩ = some (.int .i64 32)) :
    SeqStopsK Fence.wide n Try.prog 50 #[.pointer (some ⟨B1, 0, none⟩), .pointer (some ⟨B2, 0, none⟩)] (fun x : Fin m => #[chV A x.1]) (KpC B1 B2) (fun ys => ys = List.finRange m) (fun pre => pre <+: List.finRange m) m w := fun l J Jx W hW hJ _ hY h0 => by
  have hJd : ∀ pre W W', J pre W → Below W.heap.size W W' → J pre W' := fun pre W W' h hb => hJ pre W W' none h ⟨hb.os, hb.tape, hb.output, hb.size, fun i hi _ => hb.block i hi⟩ (fun r e => by cases e)
  refine (chunk1_in n hn l B1 B2 m L A c hL hc hm J Jx hY hJd W ((hW.cell (p := ⟨B1, 0, none⟩) hB1).trans h1) ((hW.cell (p := ⟨B2, 0, none⟩) hB2).trans h2) h0).mono ?_
  rintro e W' ⟨he, ⟨ys, rfl, hj⟩ | ⟨pre, ⟨k, hk, rfl⟩, hj⟩⟩
  · exact ⟨he, .inl ⟨_, rfl, hj⟩⟩
  · exact ⟨he, .inr ⟨_, List.take_prefix _ _, hj⟩⟩
end Go.Proofs.Ytkkflgdobgbmmaa.Q
end
section
/- entries.at: slices.IndexFunc at a closure that has captured a name. -/
namespace Go.Proofs.Ytkkflgdobgbmmaa.Q
open Go.RowKit Go.Proofs.YtkkflgdobgbmmaaW.PrintWords Go.Proofs.YtkkflgdobgbmmaaW.PrintLast Go.Proofs.YtkkflgdobgbmmaaW.PrintMore
attribute [local go_sem] max2_int min2_int max_two min_two max_three min_three max_four min_four
set_option linter.unusedVariables false
set_option linter.unusedSimpArgs false
def hitE (name : ByteArray) (x : S28) : Bool := if x.f1 = 0 then false else x.f0.toList == name.toList
def findAt (p : S28 → Bool) : Nat → List S28 → Int
  | _, [] => -1
  | i, x :: l => if p x = true then (i : Int) else findAt p (i + 1) l
set_option maxHeartbeats 2000000 in
theorem at1.calls (x : S28) (name : ByteArray) (g : Nat) (w : World) (hg : w.cell? ⟨g, 0, none⟩ = some (.string name)) :
    Calls Try.prog 42 #[.agg #[.string x.f0, .int .i64 x.f1], .pointer (some ⟨g, 0, none⟩)] w fun e w' => e = .returned (.bool (hitE name x)) ∧ Below w.heap.size w w' := by
  have HG := Aside0.mk hg
  have HLT := Aside0.mk (World.block_lt_of_cell? w _ hg)
  clear hg
  unfold hitE
  by_cases c : x.f1 = 0
  · rw [if_pos c]
    have e1 : (x.f1 != 0) = false := by rw [c]; rfl
    go_enter Try.func42, Try.ntmps42
    go_wp2_with (first | ((with_reducible refine gate_op (N := .box 28 (.tmp 0)) rfl ?_); refine wl_box rfl 28 _ rfl (.agg #[.string x.f0, .int .i64 x.f1]) rfl ?_; intro g1 hg w1 hblk hb hsz; have HB := Aside0.mk hb; have h0 : w1.cell? ⟨g1, 0, none⟩ = some (.string x.f0) := (blk_cell hblk 0).trans rfl; have h1 : w1.cell? ⟨g1, 1, none⟩ = some (.int .i64 x.f1) := (blk_cell hblk 1).trans rfl; clear hg hblk hb hsz))
    go_ret
    exact ⟨rfl, HB.out⟩
  · rw [if_neg c]
    have e1 : (x.f1 != 0) = true := bne_iff_ne.mpr c
    go_enter Try.func42, Try.ntmps42
    go_wp2_with (first | ((with_reducible refine gate_op (N := .box 28 (.tmp 0)) rfl ?_); refine wl_box rfl 28 _ rfl (.agg #[.string x.f0, .int .i64 x.f1]) rfl ?_; intro g1 hg w1 hblk hb hsz; have HB := Aside0.mk hb; have h0 : w1.cell? ⟨g1, 0, none⟩ = some (.string x.f0) := (blk_cell hblk 0).trans rfl; have h1 : w1.cell? ⟨g1, 1, none⟩ = some (.int .i64 x.f1) := (blk_cell hblk 1).trans rfl; have h2 := (hb.cell HLT.out).trans HG.out; clear hg hblk hb hsz))
    go_ret
    exact ⟨rfl, HB.out⟩
theorem rd28_nat (l : List S28) (i : Nat) (h : i < l.length) : rd_T28 l (i : Int) = l[i] := by simp [rd_T28, List.getD_eq_getElem?_getD, List.getElem?_eq_getElem h]
set_option maxHeartbeats 4000000 in
theorem idx.calls (A0 : Option Addr) (c0 : Nat) (l0 : List S28) (name : ByteArray) (g : Nat) (w : World) (hr0 : Kd.C k28 w A0 l0.length l0) (hc0 : l0.length ≤ c0) (hg : w.cell? ⟨g, 0, none⟩ = some (.string name)) :
    Calls Try.prog 31 #[.slice A0 l0.length c0, .func (.func 42) #[] #[.pointer (some ⟨g, 0, none⟩)]] w fun e w' => e = .returned (.int .i64 (findAt (hitE name) 0 l0)) ∧ Below w.heap.size w w' := by
  obtain ⟨n, hn⟩ : ∃ n, l0.length = n := ⟨_, rfl⟩
  obtain ⟨r, hr⟩ : ∃ r, findAt (hitE name) 0 l0 = r := ⟨_, rfl⟩
  have HR0 := Aside0.mk hr0
  have HG := Aside0.mk hg
  have HLT := Aside0.mk (World.block_lt_of_cell? w _ hg)
  have HN := Aside0.mk hn
  have HM := Aside0.mk (show n ≤ 9223372036854775807 by rw [← hn]; exact hr0.2.1)
  have HRR := Aside0.mk hr
  have HB := Aside0.mk (Below.refl w.heap.size w)
  rw [hn, hr]
  clear hr0 hc0 hg hn hr
  go_enter Try.func31, Try.ntmps31
  go_wp2
  go_loopg [8] n (fun gk v8 w' => ∃ i : Nat, v8 = .int .i64 i ∧ Aside0 (gk + i = n ∧ findAt (hitE name) i (l0.drop i) = r) ∧ Aside0 (Below w.heap.size w w'))
  case atStart => exact ⟨0, rfl, ⟨by omega, by rw [List.drop_zero]; exact HRR.out⟩, HB⟩
  case round =>
    clear HB
    obtain ⟨i, rfl, HI, HB⟩ := hrel
    by_cases hi : i < n
    · have hil : (i : Int) < (n : Int) := by omega
      have hil2 : i < l0.length := by rw [HN.out]; exact hi
      obtain ⟨ad, e0, hx0, hx1⟩ := at_T28 HR0.out (i : Int) (by omega) (by rw [HN.out]; omega)
      subst e0
      obtain ⟨x, hx⟩ : ∃ x, rd_T28 l0 (i : Int) = x := ⟨_, rfl⟩
      have hxe : l0[i] = x := by rw [← rd28_nat l0 i hil2]; exact hx
      rw [hx, Int.toNat_natCast] at hx0 hx1
      replace hx0 := (HB.out.cell (World.block_lt_of_cell? w _ hx0)).trans hx0
      replace hx1 := (HB.out.cell (World.block_lt_of_cell? w _ hx1)).trans hx1
      obtain ⟨b, hb⟩ : ∃ b, hitE name x = b := ⟨_, rfl⟩
      have HBB := Aside0.mk hb
      have HST := Aside0.mk (show (if b = true then (i : Int) else findAt (hitE name) (i + 1) (l0.drop (i + 1))) = r from by
        have := HI.out.2
        rw [List.drop_eq_getElem_cons hil2, findAt, hxe, hb] at this
        exact this)
      have HLI := Aside0.mk hi
      have HM2 := HM.out
      clear hx hxe hb hi hil2
      cases b with
      | true =>
        have hr := HST.out
        rw [if_pos rfl] at hr
        subst hr
        go_wp2_with (go_at_call 42; refine (show Calls _ _ _ _ (fun e w' => e = .returned (.bool true) ∧ _) from by have h_ := at1.calls x name g _ ((HB.out.cell HLT.out).trans HG.out); rw [HBB.out] at h_; exact h_).mono ?_; rintro e w3 ⟨rfl, hb⟩; have n0_ := Aside0.mk (HB.out.trans (hb.mono HB.out.size)); clear hb HB; have HB := n0_; clear n0_)
        go_ret
        exact ⟨rfl, HB.out⟩
      | false =>
        have HR := Aside0.mk (show findAt (hitE name) (i + 1) (l0.drop (i + 1)) = r from HST.out)
        have HLI2 := HLI.out
        go_wp2_with (go_at_call 42; refine (show Calls _ _ _ _ (fun e w' => e = .returned (.bool false) ∧ _) from by have h_ := at1.calls x name g _ ((HB.out.cell HLT.out).trans HG.out); rw [HBB.out] at h_; exact h_).mono ?_; rintro e w3 ⟨rfl, hb⟩; have n0_ := Aside0.mk (HB.out.trans (hb.mono HB.out.size)); clear hb HB; have HB := n0_; clear n0_)
        go_roundg (gk - 1)
        case measure => have := HI.out.1; omega
        case rel => exact ⟨i + 1, by go_num, ⟨by have := HI.out.1; omega, HR.out⟩, HB⟩
    · have hni : i = n := by have := HI.out.1; omega
      subst hni
      have hr := HI.out.2
      rw [List.drop_eq_nil_of_le (by rw [HN.out]; exact Nat.le_refl _)] at hr
      have hr' : (-1 : Int) = r := hr
      clear hr
      subst hr'
      go_wp2
      go_ret
      exact ⟨rfl, HB.out⟩
theorem at.calls (A0 : Option Addr) (c0 : Nat) (l0 : List S28) (name : ByteArray) (w : World) (hr0 : Kd.C k28 w A0 l0.length l0) (hc0 : l0.length ≤ c0) :
    Calls Try.prog 30 #[.slice A0 l0.length c0, .string name] w fun e w' => e = .returned (.int .i64 (findAt (hitE name) 0 l0)) ∧ Below w.heap.size w w' := by
  have HR0 := Aside0.mk hr0
  have HC0 := Aside0.mk hc0
  clear hr0 hc0
  go_enter Try.func30, Try.ntmps30
  go_wp2_with (first | ((with_reducible refine gate_op (N := .box 9 (.tmp 1)) rfl ?_); refine wl_box rfl 9 _ rfl (.string name) rfl ?_; intro g1 hg w1 hblk hb hsz; have HB := Aside0.mk hb; have HG := Aside0.mk (show w1.cell? ⟨g1, 0, none⟩ = some (.string name) from (blk_cell hblk 0).trans rfl); clear hg hblk hb hsz) | (go_at_call 31; refine (idx.calls A0 c0 l0 name g1 _ (Kd.C_below HR0.out HB.out) HC0.out HG.out).mono ?_; rintro e w3 ⟨rfl, hb⟩; have n0_ := Aside0.mk (HB.out.trans (hb.mono HB.out.size)); clear hb HB; have HB := n0_; clear n0_))
  go_ret
  exact ⟨rfl, HB.out⟩
end Go.Proofs.Ytkkflgdobgbmmaa.Q
end
section
namespace Go.Proofs.Ytkkflgdobgbmmaa.Q
open Go.RowKit Go.Proofs.YtkkflgdobgbmmaaW.PrintWords Go.Proofs.YtkkflgdobgbmmaaW.PrintLast Go.Proofs.YtkkflgdobgbmmaaW.PrintMore
attribute [local go_sem] max2_int min2_int max_two min_two max_three min_three max_four min_four   -- for this text's walks alone
set_option linter.unusedVariables false
set_option linter.unusedSimpArgs false

/-! ### entries_List_lit1: function 36 -/
def entries_List_lit1.f (a0_0 : ByteArray) (a0_1 : Int) : Option (Bool) := if a0_1 = 0 then (some true) else (some (a0_0.toList == ([46, 46] : List UInt8)))
set_option maxHeartbeats 8000000 in
set_option maxRecDepth 100000 in
theorem entries_List_lit1.calls (a0_0 : ByteArray) (a0_1 : Int) (r : Bool) (w : World) (h : entries_List_lit1.f a0_0 a0_1 = some r) :
    Calls Try.prog 36 #[.agg #[.string a0_0, .int .i64 a0_1]] w fun e w' => e = .returned (.bool r) ∧ Below w.heap.size w w' := by
  have hu28 := Try.underlying28
  have HB := Aside0.mk (Below.refl w.heap.size w)
  have H : (if a0_1 = 0 then (some true) else (some (a0_0.toList == ([46, 46] : List UInt8)))) = some r := h
  clear h
  by_cases c2 : a0_1 = 0
  · rw [if_pos c2] at H
    have c2b0 : (a0_1 == 0) = true := beq_iff_eq.mpr c2
    have c2b1 : (a0_1 != 0) = false := bne_eq_false_iff_eq.mpr c2
    clear c2
    obtain rfl := Option.some.inj H
    go_enter Try.func36, Try.ntmps36
    go_wp2_with (first | ((with_reducible refine gate_dst (N := 1) rfl ?_); refine box_event ?hg (N := 1) ?hd (cs := #[.string a0_0, .int .i64 a0_1]) (t := 28) ?hr ?_; (case hd => rfl); (case hg => rfl); (case hr => first | (go_simp; done) | (go_simp; rfl)); intro gb306 hg w3 hbox hb; have n0_ := Aside0.mk (below_step (by repeat (first | (with_reducible first | exact HB.out | apply below_alloc | apply pw_below_drewN | apply below_drew1) | exact HB.out)) hb); have n1_ := Aside0.mk (hbox); have n2_ := Aside0.mk ((by rw [hg]; exact (below_size (by repeat (first | (with_reducible first | exact HB.out | apply below_alloc | apply pw_below_drewN | apply below_drew1) | exact HB.out))) : w.heap.size ≤ gb306)); have n3_ := Aside0.mk ((by rw [hg]; exact (below_size (by repeat (first | (with_reducible first | exact HB.out | apply below_alloc | apply pw_below_drewN | apply below_drew1) | exact HB.out))) : w.heap.size ≤ gb306)); clear HB; have HB := n0_; have BK306 := n1_; have GW306 := n2_; have GE306 := n3_; clear n0_ n1_ n2_ n3_; clear hb hbox hg; have hcz4_0 : w3.cell? ⟨gb306, 0, none⟩ = some (.string a0_0) := (blk_cell BK306.out 0).trans rfl; have hcz4_1 : w3.cell? ⟨gb306, 1, none⟩ = some (.int .i64 a0_1) := (blk_cell BK306.out 1).trans rfl; have hfz4_0 := blk_frozen BK306.out 0; have hfz4_1 := blk_frozen BK306.out 1))
    go_ret
    exact ⟨by first | rfl | (simp [errW_none, errW_some] <;> rfl) | (simp [*, errW_none, errW_some] <;> rfl), by repeat (first | (with_reducible first | exact HB.out | apply below_alloc | apply pw_below_drewN | apply below_drew1 | refine below_set ?_ GE306.out) | exact HB.out)⟩
  · rw [if_neg c2] at H
    have c2b0 : (a0_1 == 0) = false := beq_eq_false_iff_ne.mpr c2
    have c2b1 : (a0_1 != 0) = true := bne_iff_ne.mpr c2
    obtain rfl := Option.some.inj H
    go_enter Try.func36, Try.ntmps36
    go_wp2_with (first | ((with_reducible refine gate_dst (N := 1) rfl ?_); refine box_event ?hg (N := 1) ?hd (cs := #[.string a0_0, .int .i64 a0_1]) (t := 28) ?hr ?_; (case hd => rfl); (case hg => rfl); (case hr => first | (go_simp; done) | (go_simp; rfl)); intro gb306 hg w5 hbox hb; have n0_ := Aside0.mk (below_step (by repeat (first | (with_reducible first | exact HB.out | apply below_alloc | apply pw_below_drewN | apply below_drew1) | exact HB.out)) hb); have n1_ := Aside0.mk (hbox); have n2_ := Aside0.mk ((by rw [hg]; exact (below_size (by repeat (first | (with_reducible first | exact HB.out | apply below_alloc | apply pw_below_drewN | apply below_drew1) | exact HB.out))) : w.heap.size ≤ gb306)); have n3_ := Aside0.mk ((by rw [hg]; exact (below_size (by repeat (first | (with_reducible first | exact HB.out | apply below_alloc | apply pw_below_drewN | apply below_drew1) | exact HB.out))) : w.heap.size ≤ gb306)); clear HB; have HB := n0_; have BK306 := n1_; have GW306 := n2_; have GE306 := n3_; clear n0_ n1_ n2_ n3_; clear hb hbox hg; have hcz6_0 : w5.cell? ⟨gb306, 0, none⟩ = some (.string a0_0) := (blk_cell BK306.out 0).trans rfl; have hcz6_1 : w5.cell? ⟨gb306, 1, none⟩ = some (.int .i64 a0_1) := (blk_cell BK306.out 1).trans rfl; have hfz6_0 := blk_frozen BK306.out 0; have hfz6_1 := blk_frozen BK306.out 1))
    go_ret
    exact ⟨by first | rfl | (simp [errW_none, errW_some] <;> rfl) | (simp [*, errW_none, errW_some] <;> rfl), by repeat (first | (with_reducible first | exact HB.out | apply below_alloc | apply pw_below_drewN | apply below_drew1 | refine below_set ?_ GE306.out) | exact HB.out)⟩

end Go.Proofs.Ytkkflgdobgbmmaa.Q
end
section
namespace Go.Proofs.Ytkkflgdobgbmmaa.Q
open Go.RowKit Go.Proofs.YtkkflgdobgbmmaaW.PrintWords Go.Proofs.YtkkflgdobgbmmaaW.PrintLast Go.Proofs.YtkkflgdobgbmmaaW.PrintMore
attribute [local go_sem] max2_int min2_int max_two min_two max_three min_three max_four min_four   -- for this text's walks alone
set_option linter.unusedVariables false
set_option linter.unusedSimpArgs false

/-! ### entries_Entry_31_at_entries_List_lit1: function 79 -/
def entries_Entry_31_at_entries_List_lit1.l0 : Nat → List (S28) → Int → Int → Option (Int)
  | 0, _, _, _ => none
  | k + 1, x0, x7, x8 => if x8 < x7 then (if 0 ≤ x8 then (if x8 < (x0.length : Int) then ((entries_List_lit1.f ((rd_T28 x0 x8).f0) ((rd_T28 x0 x8).f1)).bind fun t308 => (if t308 = true then (some x8) else (entries_Entry_31_at_entries_List_lit1.l0 k x0 x7 (wrap64 (x8 + 1))))) else (none)) else (none)) else (some (-1))
def entries_Entry_31_at_entries_List_lit1.f (k : Nat) (l0 : List (S28)) : Option (Int) := entries_Entry_31_at_entries_List_lit1.l0 k l0 (l0.length : Int) 0
set_option maxHeartbeats 8000000 in
set_option maxRecDepth 100000 in
theorem entries_Entry_31_at_entries_List_lit1.calls (k : Nat) (A0 : Option Addr) (c0 : Nat) (l0 : List (S28)) (r : Int) (w : World) (hr0 : Kd.C k28 w A0 l0.length l0) (hc0 : l0.length ≤ c0) (h : entries_Entry_31_at_entries_List_lit1.f k l0 = some r) :
    Calls Try.prog 31 #[.slice A0 l0.length c0, .func (.func 36) #[] #[]] w fun e w' => e = .returned (.int .i64 r) ∧ Below w.heap.size w w' := by
  have hu28 := Try.underlying28
  have HR0 := Aside0.mk hr0
  have HC0 := Aside0.mk hc0
  clear hr0 hc0
  have HB := Aside0.mk (Below.refl w.heap.size w)
  have H : (entries_Entry_31_at_entries_List_lit1.l0 k l0 (l0.length : Int) 0) = some r := h
  clear h
  have H' := Aside0.mk H
  clear H
  go_enter Try.func31, Try.ntmps31
  go_wp2
  go_loopg [8] k (fun kq v8 w' => ∃ (x8_1 : Int), v8 = .int .i64 x8_1 ∧ Aside0 (entries_Entry_31_at_entries_List_lit1.l0 kq l0 (l0.length : Int) x8_1 = some r) ∧ Aside0 (kq ≤ k) ∧ Aside0 (Below w.heap.size w w'))
  case atStart => exact ⟨(0), (by first | rfl | (simp; done) | (simp [*]; done)), H', ⟨Nat.le_refl _⟩, ⟨by repeat (first | (with_reducible first | exact HB.out | apply below_alloc | apply pw_below_drewN | apply below_drew1) | exact HB.out)⟩⟩
  case round =>
    clear H'
    obtain ⟨x8_1, rfl, HA, HK1, HB⟩ := hrel
    cases gk with
    | zero => exact absurd HA.out (by simp [entries_Entry_31_at_entries_List_lit1.l0])
    | succ k1 =>
      have H := HA.out
      clear HA
      simp only [entries_Entry_31_at_entries_List_lit1.l0] at H
      by_cases c2 : x8_1 < (l0.length : Int)
      · rw [if_pos c2] at H
        have c2b0 : decide (x8_1 < (l0.length : Int)) = true := decide_eq_true c2
        clear c2
        by_cases c3 : 0 ≤ x8_1
        · rw [if_pos c3] at H
          have c3b0 : decide (0 ≤ x8_1) = true := decide_eq_true c3
          clear c3
          by_cases c4 : x8_1 < (l0.length : Int)
          · rw [if_pos c4] at H
            have c4b0 : decide (x8_1 < (l0.length : Int)) = true := decide_eq_true c4
            clear c4
            replace H := Option.bind_eq_some_iff.mp H
            obtain ⟨t308, A50, H⟩ := H
            replace H : (if t308 = true then (some x8_1) else (entries_Entry_31_at_entries_List_lit1.l0 k1 l0 (l0.length : Int) (wrap64 (x8_1 + 1)))) = some r := H
            have A5 := Aside0.mk A50
            clear A50
            by_cases c6 : t308 = true
            · subst c6
              have H1 : (some x8_1) = some r := by rw [if_pos rfl] at H; exact H
              clear H
              have H := H1
              clear H1
              obtain rfl := Option.some.inj H
              have p307 : 0 ≤ (x8_1 : Int) := of_decide_eq_true (by first | (with_reducible assumption) | assumption)
              have q307 : x8_1 < (l0.length : Int) := of_decide_eq_true (by first | (with_reducible assumption) | assumption)
              obtain ⟨ad307, e307, hx307_0, hx307_1⟩ := at_T28 HR0.out x8_1 p307 q307
              cases e307
              replace hx307_0 := (HB.out.cell (World.block_lt_of_cell? w _ hx307_0)).trans hx307_0
              replace hx307_1 := (HB.out.cell (World.block_lt_of_cell? w _ hx307_1)).trans hx307_1
              replace p307 := eq_true p307
              replace q307 := eq_true q307
              go_wp2_with (first | (go_at_call 36; (with_reducible refine (entries_List_lit1.calls ((rd_T28 l0 x8_1).f0) ((rd_T28 l0 x8_1).f1) true _ A5.out).mono ?_); rintro e w7 ⟨rfl, hb⟩; have n0_ := Aside0.mk (below_step (by repeat (first | (with_reducible first | exact HB.out | apply below_alloc | apply pw_below_drewN | apply below_drew1) | exact HB.out)) hb); clear HB; have HB := n0_; clear n0_; (try clear hb); (try clear hb2); (try clear hk); (try clear hi)))
              go_ret
              exact ⟨by first | rfl | (simp [errW_none, errW_some] <;> rfl) | (simp [*, errW_none, errW_some] <;> rfl), by repeat (first | (with_reducible first | exact HB.out | apply below_alloc | apply pw_below_drewN | apply below_drew1) | exact HB.out)⟩
            · replace c6 := Bool.eq_false_iff.mpr c6
              subst c6
              have H1 : (entries_Entry_31_at_entries_List_lit1.l0 k1 l0 (l0.length : Int) (wrap64 (x8_1 + 1))) = some r := by rw [if_neg (show ¬ (false = true) by decide)] at H; exact H
              clear H
              have H := H1
              clear H1
              have H' := Aside0.mk H
              clear H
              have p307 : 0 ≤ (x8_1 : Int) := of_decide_eq_true (by first | (with_reducible assumption) | assumption)
              have q307 : x8_1 < (l0.length : Int) := of_decide_eq_true (by first | (with_reducible assumption) | assumption)
              obtain ⟨ad307, e307, hx307_0, hx307_1⟩ := at_T28 HR0.out x8_1 p307 q307
              cases e307
              replace hx307_0 := (HB.out.cell (World.block_lt_of_cell? w _ hx307_0)).trans hx307_0
              replace hx307_1 := (HB.out.cell (World.block_lt_of_cell? w _ hx307_1)).trans hx307_1
              replace p307 := eq_true p307
              replace q307 := eq_true q307
              go_wp2_with (first | (go_at_call 36; (with_reducible refine (entries_List_lit1.calls ((rd_T28 l0 x8_1).f0) ((rd_T28 l0 x8_1).f1) false _ A5.out).mono ?_); rintro e w8 ⟨rfl, hb⟩; have n0_ := Aside0.mk (below_step (by repeat (first | (with_reducible first | exact HB.out | apply below_alloc | apply pw_below_drewN | apply below_drew1) | exact HB.out)) hb); clear HB; have HB := n0_; clear n0_; (try clear hb); (try clear hb2); (try clear hk); (try clear hi)))
              go_roundg k1
              case measure => have := HK1.out; omega
              case rel => exact ⟨(wrap64 (x8_1 + 1)), (by first | rfl | (simp; done) | (simp [*]; done)), H', ⟨by have := HK1.out; omega⟩, ⟨by repeat (first | (with_reducible first | exact HB.out | apply below_alloc | apply pw_below_drewN | apply below_drew1) | exact HB.out)⟩⟩
          · rw [if_neg c4] at H
            exact absurd H (by simp)
        · rw [if_neg c3] at H
          exact absurd H (by simp)
      · rw [if_neg c2] at H
        have c2b0 : decide (x8_1 < (l0.length : Int)) = false := decide_eq_false c2
        clear c2
        obtain rfl := Option.some.inj H
        go_wp2
        go_ret
        exact ⟨by first | rfl | (simp [errW_none, errW_some] <;> rfl) | (simp [*, errW_none, errW_some] <;> rfl), by repeat (first | (with_reducible first | exact HB.out | apply below_alloc | apply pw_below_drewN | apply below_drew1) | exact HB.out)⟩

end Go.Proofs.Ytkkflgdobgbmmaa.Q
end
section
/- slices.DeleteFunc of entries, and entries.List behind entries.read. -/
namespace Go.Proofs.Ytkkflgdobgbmmaa.Q
open Go.RowKit Go.Proofs.YtkkflgdobgbmmaaW.PrintWords Go.Proofs.YtkkflgdobgbmmaaW.PrintLast Go.Proofs.YtkkflgdobgbmmaaW.PrintMore
attribute [local go_sem] max2_int min2_int max_two min_two max_three min_three max_four min_four
set_option linter.unusedVariables false
set_option linter.unusedSimpArgs false
/-! entries' cells -/
def flat28 (xs : List S28) : List Value := xs.flatMap fun x => [.string x.f0, .int .i64 x.f1]
theorem flat28_length (xs : List S28) : (flat28 xs).length = xs.length * 2 := by
  induction xs with
  | nil => rfl
  | cons x xs ih => unfold flat28 at ih ⊢; rw [List.flatMap_cons, List.length_append, ih, List.length_cons]; simp; omega
theorem flat28_append (xs ys : List S28) : flat28 (xs ++ ys) = flat28 xs ++ flat28 ys := List.flatMap_append
theorem flat28_one (x : S28) : flat28 [x] = [.string x.f0, .int .i64 x.f1] := by simp [flat28]
theorem flat28_take (xs : List S28) (i : Nat) (hi : i ≤ xs.length) : (flat28 xs).take (i * 2) = flat28 (xs.take i) := by
  conv => lhs; rw [← List.take_append_drop i xs, flat28_append]
  rw [List.take_append_of_le_length (by rw [flat28_length, List.length_take]; omega), List.take_of_length_le (by rw [flat28_length, List.length_take]; omega)]
theorem flat28_drop (xs : List S28) (i : Nat) (hi : i ≤ xs.length) : (flat28 xs).drop (i * 2) = flat28 (xs.drop i) := by
  conv => lhs; rw [← List.take_append_drop i xs, flat28_append]
  rw [List.drop_append_of_le_length (by rw [flat28_length, List.length_take]; omega), List.drop_of_length_le (by rw [flat28_length, List.length_take]; omega), List.nil_append]
theorem own28 {w : World} {base e : Nat} {ok : Nat → Prop} {v : Value} {xs : List S28} (h : Kd.R k28 e w base ok v xs) : w.ownsRow base e 2 v xs.length (flat28 xs) := by
  obtain ⟨_, inner, ho, hr⟩ := h
  have : inner = flat28 xs := by
    have hl : inner.length = xs.length * 2 := ho.1
    clear ho
    induction xs generalizing inner with
    | nil => exact List.eq_nil_of_length_eq_zero (by simpa using hl)
    | cons x xs ih =>
      have h0 := k28_openM (hr.2 0 x rfl)
      rw [Nat.zero_mul, List.drop_zero] at h0
      have h0' : inner.take 2 = [.string x.f0, .int .i64 x.f1] := h0
      rw [List.length_cons] at hl
      have h1 := ih (inner.drop 2) ⟨by rw [List.length_drop, hl]; show (xs.length + 1) * 2 - 2 = xs.length * 2; omega, fun j p hj => by
        have := hr.2 (j + 1) p (by simpa using hj)
        rw [List.drop_drop, show 2 + j * k28.sz = (j + 1) * k28.sz by show 2 + j * 2 = (j + 1) * 2; omega]
        exact this⟩ (by rw [List.length_drop, hl]; omega)
      rw [← List.take_append_drop 2 inner, h0', h1]
      rfl
  rw [← this]
  exact ho
theorem R28_of {w : World} {base e : Nat} {v : Value} {xs : List S28} (ho : w.ownsRow base e 2 v xs.length (flat28 xs)) : Kd.R k28 e w base (fun _ => True) v xs := by
  refine ⟨fun _ _ => trivial, flat28 xs, ho, ⟨flat28_length xs, fun j p hj => ?_⟩⟩
  have hjl := (List.getElem?_eq_some_iff.1 hj).1
  have e1 : (flat28 xs).drop (j * 2) = flat28 (xs.drop j) := flat28_drop xs j (by omega)
  have e2 : xs.drop j = p :: xs.drop (j + 1) := by rw [List.drop_eq_getElem_cons hjl]; congr 1; exact (List.getElem?_eq_some_iff.1 hj).2
  have e3 : ((flat28 xs).drop (j * k28.sz)).take k28.sz = [.string p.f0, .int .i64 p.f1] := by
    show ((flat28 xs).drop (j * 2)).take 2 = _
    rw [e1, e2]
    rfl
  rw [e3]
  exact k28_mkM _ _ _ _
/-- The block of an own row of entries. -/
theorem blk28 {w : World} {base e g n cap : Nat} {ok : Nat → Prop} {xs : List S28} (h : Kd.R k28 e w base ok (.slice (some ⟨g, 0, none⟩) n cap) xs) : n = xs.length ∧ base ≤ g ∧ n ≤ cap ∧ cap ≤ maxLen ∧ ∃ cur, w.heap[g]? = some (.cells cur e (0, 0)) ∧ cur.size = cap * 2 ∧ cur.toList.take (xs.length * 2) = flat28 xs := by
  have hn := (Kd.R_reads' h).1
  obtain ⟨_, h2⟩ := own28 h
  rcases h2 with ⟨h3, _⟩ | ⟨g', cap', cur, h3, h4, h5, h6, h7, h8, h9⟩
  · cases h3
  · injection h3 with h3a h3b h3c
    injection h3a with h3a
    injection h3a with h3a
    subst h3a
    subst h3c
    exact ⟨hn, h4, by omega, h7, cur, h5, h8, h9⟩
theorem own_of_blk {w : World} {base e g cap : Nat} {xs : List S28} {cur : Array Value} (h1 : base ≤ g) (h2 : xs.length ≤ cap) (h3 : cap ≤ maxLen) (h4 : w.heap[g]? = some (.cells cur e (0, 0))) (h5 : cur.size = cap * 2) (h6 : cur.toList.take (xs.length * 2) = flat28 xs) : Kd.R k28 e w base (fun _ => True) (.slice (some ⟨g, 0, none⟩) xs.length cap) xs :=
  R28_of ⟨flat28_length xs, .inr ⟨g, cap, cur, rfl, h1, h4, h2, h3, h5, h6⟩⟩
theorem set28 (cur : List Value) (xs : List S28) (i : Nat) (hi : i < xs.length) (x : S28) (h : cur.take (xs.length * 2) = flat28 xs) : (cur.take (i * 2) ++ [Value.string x.f0, Value.int .i64 x.f1] ++ cur.drop (i * 2 + 2)).take (xs.length * 2) = flat28 (xs.set i x) := by
  have hl : xs.length * 2 ≤ cur.length := by
    have := congrArg List.length h
    rw [flat28_length, List.length_take] at this
    omega
  have e1 : cur.take (i * 2) = flat28 (xs.take i) := by
    rw [← flat28_take xs i (by omega), ← h, List.take_take]
    congr 1
    omega
  have e2 : (cur.drop (i * 2 + 2)).take (xs.length * 2 - (i * 2 + 2)) = flat28 (xs.drop (i + 1)) := by
    rw [← flat28_drop xs (i + 1) (by omega), ← h, List.drop_take, show (i + 1) * 2 = i * 2 + 2 by omega]
  rw [List.set_eq_take_append_cons_drop, if_pos hi, List.append_assoc, List.take_append, List.take_append, flat28_append, ← e1, List.take_of_length_le (by rw [List.length_take]; omega)]
  congr 1
  have hl1 : (cur.take (i * 2)).length = i * 2 := by rw [List.length_take]; omega
  rw [hl1, show x :: xs.drop (i + 1) = [x] ++ xs.drop (i + 1) from rfl, flat28_append, flat28_one, ← e2, List.take_of_length_le (by simp; omega)]
  congr 2
section
variable {P : Program} {ops : Array Oper} {rest : List Oper} {o : Oper} {a : Act} {Q : Exit → Act → World → Prop}
theorem zeroCells_one {z : Array Value} (hz : ∀ u ∈ z.toList, u.oneCell' = true) (n : Nat) : ∀ u ∈ (Builtin.zeroCells z n).toList, u.oneCell' = true := by
  intro u hu
  simp only [Builtin.zeroCells, Array.toList_map, List.mem_map] at hu
  obtain ⟨i, hi, rfl⟩ := hu
  have hlt : i < n * z.size := by simpa using hi
  have hz0 : 0 < z.size := by
    rcases Nat.eq_zero_or_pos z.size with h | h
    · rw [h, Nat.mul_zero] at hlt; omega
    · exact h
  have hm := Nat.mod_lt i hz0
  rw [getElem!_pos z (i % z.size) hm]
  exact hz _ (by simp)
/-- 'clear(row[i:])'. -/
theorem wl_clear {W : World} (hgd : o.guard = none) (hdst : o.dst = none) (t e : TypeId) (x : Operand) (ho : o.op = .call { callee := .builtin .clear, args := #[x], argTypes := #[t] }) (ht : P.underlying t = some (.slice e)) (z : Value) (hz : (P.info? e).map (·.zero) = some (some z)) (h1 : ∀ u ∈ z.cells.toList, u.oneCell' = true)
    (g off n c : Nat) (hx : a.eval x = .slice (some ⟨g, off, none⟩) n c) (cur : Array Value) (t' : TypeId) (hg : W.heap[g]? = some (.cells cur t' (0, 0))) (hle : off + n * z.cells.size ≤ cur.size)
    (h : ∀ w1 (cur1 : Array Value), w1.heap[g]? = some (.cells cur1 t' (0, 0)) → cur1.size = cur.size → cur1.toList.take off = cur.toList.take off → W.grownBy w1 (some g) → wpList P ops Q rest a w1) : wpList P ops Q (o :: rest) a W := by
  have key : ∃ w1 cur1, (Builtin.clear_ #[t] o.type #[.slice (some ⟨g, off, none⟩) n c]).run P W = .ok (.tuple #[]) w1 ∧ w1.heap[g]? = some (.cells cur1 t' (0, 0)) ∧ cur1.size = cur.size ∧ cur1.toList.take off = cur.toList.take off ∧ W.grownBy w1 (some g) := by
    by_cases hn : n = 0
    · subst hn
      exact ⟨W, cur, by simp [Builtin.clear_, run_underlying ht], hg, rfl, rfl, ⟨rfl, rfl, rfl, Nat.le_refl _, fun _ _ _ => rfl⟩⟩
    · obtain ⟨m, rfl⟩ : ∃ m, n = m + 1 := ⟨n - 1, by omega⟩
      have hzv : ∀ w, (zeroValue e).run P w = .ok z w := by
        intro w
        cases hq : P.info? e with
        | none => simp [hq] at hz
        | some i =>
          have hz' : i.zero = some z := by simpa [hq] using hz
          simp [zeroValue, typeInfo, hq, hz']
      have hst := run_storeCells_at P g off t' (Builtin.zeroCells z.cells (m + 1)).toList 0 cur W hg (by rw [Array.length_toList, size_zeroCells]; omega) (zeroCells_one h1 _)
      simp only [Nat.add_zero] at hst
      refine ⟨W.setRow g (cur.toList.take off ++ (Builtin.zeroCells z.cells (m + 1)).toList ++ cur.toList.drop (off + (Builtin.zeroCells z.cells (m + 1)).toList.length)).toArray, _, by simp [Builtin.clear_, run_underlying ht, hzv, hst], setRow_heap W g cur _ t' _ hg, ?_, ?_, ⟨rfl, rfl, rfl, by simp [World.setRow], fun q hq hne => setRow_other W g q _ (fun e => hne (by rw [e]))⟩⟩
      · simp only [List.size_toArray, List.length_append, List.length_take, List.length_drop, Array.length_toList, size_zeroCells]
        omega
      · rw [List.append_assoc, List.take_append_of_le_length (by rw [List.length_take, Array.length_toList]; omega), List.take_take]
        congr 1
        omega
  obtain ⟨w1, cur1, hr, k1, k2, k3, k4⟩ := key
  refine wpList_plain hgd fun K hK => ?_
  unfold Oper.wp execOp
  simp only [ho, resolve, invoke, builtin, Sem.run_bind, Sem.run_pure, Result.andThen_ok, List.map_toArray, List.map_cons, List.map_nil, hx, hr]
  show K (a.put o.dst (.tuple #[])) w1
  rw [hdst]
  exact hK _ _ (h w1 cur1 k1 k2 k3 k4)
end
/-! which entries go -/
def goneE (x : S28) : Bool := if x.f1 = 0 then true else x.f0.toList == ([46, 46] : List UInt8)
theorem gone_lit (x : S28) : entries_List_lit1.f x.f0 x.f1 = some (goneE x) := by
  unfold entries_List_lit1.f goneE
  by_cases h : x.f1 = 0
  · rw [if_pos h, if_pos h]
  · rw [if_neg h, if_neg h]
theorem findAt_spec (p : S28 → Bool) : ∀ (l : List S28) (i : Nat), (findAt p i l = -1 ∧ ∀ x ∈ l, p x = false) ∨ ∃ pre x post, l = pre ++ x :: post ∧ findAt p i l = ((i + pre.length : Nat) : Int) ∧ p x = true ∧ ∀ y ∈ pre, p y = false
  | [], i => .inl ⟨rfl, fun x hx => by cases hx⟩
  | x :: l, i => by
    by_cases h : p x = true
    · exact .inr ⟨[], x, l, rfl, by rw [findAt, if_pos h]; rfl, h, fun y hy => by cases hy⟩
    · have e : findAt p i (x :: l) = findAt p (i + 1) l := by rw [findAt, if_neg h]
      rw [e]
      rcases findAt_spec p l (i + 1) with ⟨h1, h2⟩ | ⟨pre, y, post, h1, h2, h3, h4⟩
      · refine .inl ⟨h1, fun z hz => ?_⟩
        rcases List.mem_cons.1 hz with rfl | hz
        · exact Bool.eq_false_iff.mpr h
        · exact h2 z hz
      · refine .inr ⟨x :: pre, y, post, by rw [h1]; rfl, by rw [h2, List.length_cons]; congr 1; omega, h3, fun z hz => ?_⟩
        rcases List.mem_cons.1 hz with rfl | hz
        · exact Bool.eq_false_iff.mpr h
        · exact h4 z hz
theorem idxList_loop (l : List S28) (hl : l.length ≤ 9223372036854775807) (d : Nat) : ∀ (k i : Nat), l.length - i = d → i ≤ l.length → d < k → entries_Entry_31_at_entries_List_lit1.l0 k l (l.length : Int) i = some (findAt goneE i (l.drop i)) := by
  induction d with
  | zero =>
    intro k i hd hi hk
    obtain ⟨k, rfl⟩ : ∃ m, k = m + 1 := ⟨k - 1, by omega⟩
    simp only [entries_Entry_31_at_entries_List_lit1.l0]
    rw [if_neg (by omega), List.drop_eq_nil_of_le (by omega)]
    rfl
  | succ d ih =>
    intro k i hd hi hk
    obtain ⟨k, rfl⟩ : ∃ m, k = m + 1 := ⟨k - 1, by omega⟩
    have hil : i < l.length := by omega
    simp only [entries_Entry_31_at_entries_List_lit1.l0]
    rw [if_pos (by omega), if_pos (by omega), if_pos (by omega), rd28_nat l i hil, gone_lit, Option.bind_some, List.drop_eq_getElem_cons hil, findAt]
    by_cases h : goneE l[i] = true
    · rw [if_pos h, if_pos h]
    · rw [if_neg h, if_neg h, show wrap64 ((i : Int) + 1) = ((i + 1 : Nat) : Int) by unfold wrap64; omega]
      exact ih k (i + 1) (by omega) (by omega) (by omega)
theorem idxList_eq (l : List S28) (hl : l.length ≤ 9223372036854775807) : entries_Entry_31_at_entries_List_lit1.f (l.length + 1) l = some (findAt goneE 0 l) := by
  unfold entries_Entry_31_at_entries_List_lit1.f
  have := idxList_loop l hl l.length (l.length + 1) 0 (by omega) (by omega) (by omega)
  rwa [List.drop_zero] at this
end Go.Proofs.Ytkkflgdobgbmmaa.Q
end
section
/- entries.read: the pieces, one by one. -/
namespace Go.Proofs.Ytkkflgdobgbmmaa.Q
open Go.RowKit Go.Shelf Go.Proofs.YtkkflgdobgbmmaaW.PrintWords Go.Proofs.YtkkflgdobgbmmaaW.PrintLast Go.Proofs.YtkkflgdobgbmmaaW.PrintMore Go.Proofs.Ytkkflgdobgbmmaa.Pure
attribute [local go_sem] max2_int min2_int max_two min_two max_three min_three max_four min_four
attribute [local go_sem] Oper.semAt_some
set_option linter.unusedVariables false
set_option linter.unusedSimpArgs false
/-! the map -/
def seenD : List (List UInt8) → DataW Unit
  | [] => .map []
  | s :: ns => (seenD ns).put (.string s) (.lit (.bool true))
theorem seenD_map : ∀ ns, Maps.IsMap (seenD ns)
  | [] => Maps.isMap_empty
  | _ :: ns => (seenD_map ns).put _ _
theorem seenD_at (s : List UInt8) : ∀ ns, (seenD ns).atKey (.string s) (.lit (.bool false)) = .lit (.bool (ns.any (· == s)))
  | [] => rfl
  | x :: ns => by
    have ih := seenD_at s ns
    by_cases h : x = s
    · subst h
      show ((seenD ns).put (.string x) (.lit (.bool true))).atKey (.string x) _ = _
      rw [Maps.atKey_put_same (seenD_map ns) (show WideAt.IsKeyLit (.string x) from trivial)]
      simp
    · show ((seenD ns).put (.string x) (.lit (.bool true))).atKey (.string s) _ = _
      rw [Maps.atKey_put_other (fun e => h (by injection e with e; exact e.symm)), ih, List.any_cons, beq_eq_false_iff_ne.mpr h, Bool.false_or]
theorem look_seen {W : World} {b n : Nat} {ns : List (List UInt8)} (h : W.ownsMap Try.prog 9 (plainElem (H := Unit) Try.prog 4) b n (seenD ns)) (s : ByteArray) (hs : s.size ≤ maxLen) :
    (Instr.lookup 72 (.map (some b)) (.string s) false).run Try.prog W = .ok (.bool (ns.any (· == s.data.toList))) W := by
  obtain ⟨v, ps, hr, hv⟩ := h.lookup (Maps.string_keyed Try.underlying9) Try.underlying72 (Try.zeroValue4 W) (plainElem_bool Try.underlying4 false) (WideMaps.keyOf_string_mk Try.underlying9 hs)
  rw [seenD_at] at hv
  have : v = .bool (ns.any (· == s.data.toList)) := by
    unfold plainElem at hv
    rw [Try.underlying4] at hv
    cases v <;> simp at hv
    rw [hv.1]
  rw [hr, this]
/-! what lies while the loop goes -/
structure RI (N cnt : Nat) (bv : Value) (w : World) (acc : List S28) (W : World) : Prop where
  b2 : Boxed W N 42 (.slice none 0 0)
  b3 : Boxed W (N + 1) 24 (.int .i64 0)
  b4 : ∃ v, Boxed W (N + 2) 42 v ∧ W.ownsRow N 28 2 v acc.length (flat28 acc) ∧ True
  b5 : Boxed W (N + 4) 72 (.map (some (N + 3)))
  b6 : Boxed W (N + 5) 23 bv
  b7 : Boxed W (N + 6) 3 (.int .i64 32)
  mp : W.ownsMap Try.prog 9 (plainElem (H := Unit) Try.prog 4) (N + 3) cnt (seenD (acc.map fun e => e.f0.data.toList).reverse)
  below : Below N w W
  sz : N + 7 ≤ W.heap.size
theorem RI.kept {N cnt : Nat} {bv : Value} {w : World} {acc : List S28} {W W' : World} {row : Option Nat} (h : RI N cnt bv w acc W) (hg : W.grownBy W' row) (hr : ∀ r, row = some r → N + 7 ≤ r ∧ ∃ o : Obj, W.heap[r]? = some o ∧ o.isCells = false) : RI N cnt bv w acc W' where
  b2 := h.b2.kept hg (fun e => by have := (hr _ e.symm).1; omega)
  b3 := h.b3.kept hg (fun e => by have := (hr _ e.symm).1; omega)
  b4 := holdsRow_own N (N + 2) 42 28 2 (fun s : List S28 => s.length) flat28 (fun _ _ => True) acc W W' row h.b4 hg (fun r e => (hr r e).2)
  b5 := h.b5.kept hg (fun e => by have := (hr _ e.symm).1; omega)
  b6 := h.b6.kept hg (fun e => by have := (hr _ e.symm).1; omega)
  b7 := h.b7.kept hg (fun e => by have := (hr _ e.symm).1; omega)
  mp := h.mp.kept hg (fun e => by have := (hr _ e.symm).1; omega)
  below := h.below.trans ((Below.refl N W).grown hg (by have := h.sz; omega) (fun k e => by have := (hr _ e).1; omega))
  sz := Nat.le_trans h.sz hg.size
theorem grown_of_below {W W' : World} (hb : Below W.heap.size W W') : W.grownBy W' none := ⟨hb.os, hb.tape, hb.output, hb.size, fun i hi _ => hb.block i hi⟩
theorem RI.go {N cnt : Nat} {bv : Value} {w : World} {acc : List S28} {W W' : World} (h : RI N cnt bv w acc W) (hb : Below W.heap.size W W') : RI N cnt bv w acc W' := h.kept (grown_of_below hb) (fun r e => by cases e)
/-- What a round keeps. -/
def Stp (N : Nat) (W W' : World) : Prop := KeepsFrom (N + 7) W W' ∧ KpC (N + 5) (N + 6) W W'
theorem Stp.refl (N : Nat) (W : World) : Stp N W W := ⟨KeepsFrom.refl _ _, rfl, rfl⟩
theorem Stp.t {N : Nat} {A B C : World} (h : Stp N A B) (k : Stp N B C) : Stp N A C := ⟨h.1.trans k.1, h.2.t k.2⟩
theorem Stp.go {N : Nat} {W W' : World} (hs : N + 7 ≤ W.heap.size) (hb : Below W.heap.size W W') : Stp N W W' :=
  ⟨KeepsFrom.of_grownBy (grown_of_below hb) (fun j e => by cases e), hb.cell (p := ⟨N + 5, 0, none⟩) (by show N + 5 < _; omega), hb.cell (p := ⟨N + 6, 0, none⟩) (by show N + 6 < _; omega)⟩
/-- Where a round fails: both results are stored. -/
theorem RI.fail {N cnt : Nat} {bv : Value} {w W W' : World} {acc : List S28} (h : RI N cnt bv w acc W') (hk : KeepsFrom (N + 7) W W') :
    KeepsFrom (N + 7) W ((W'.setCell ⟨N, 0, none⟩ (.slice none 0 0)).setCell ⟨N + 1, 0, none⟩ (.int .i64 11)) ∧ Boxed ((W'.setCell ⟨N, 0, none⟩ (.slice none 0 0)).setCell ⟨N + 1, 0, none⟩ (.int .i64 11)) N 42 (.slice none 0 0) ∧ Boxed ((W'.setCell ⟨N, 0, none⟩ (.slice none 0 0)).setCell ⟨N + 1, 0, none⟩ (.int .i64 11)) (N + 1) 24 (.int .i64 11) ∧ Below N w ((W'.setCell ⟨N, 0, none⟩ (.slice none 0 0)).setCell ⟨N + 1, 0, none⟩ (.int .i64 11)) ∧ N + 7 ≤ ((W'.setCell ⟨N, 0, none⟩ (.slice none 0 0)).setCell ⟨N + 1, 0, none⟩ (.int .i64 11)).heap.size :=
  ⟨hk.trans (((KeepsOthers.setCell _ _ _).from _).trans ((KeepsOthers.setCell _ _ _).from _)),
    (h.b2.set _).other (by omega) _, (h.b3.other (by omega) _).set _,
    (h.below.setCell (p := ⟨N, 0, none⟩) (Nat.le_refl _) _).setCell (p := ⟨N + 1, 0, none⟩) (Nat.le_succ _) _,
    Nat.le_trans h.sz (Nat.le_trans (((KeepsOthers.setCell W' ⟨N, 0, none⟩ (.slice none 0 0)).from 0).size) (((KeepsOthers.setCell _ ⟨N + 1, 0, none⟩ (.int .i64 11)).from 0).size))⟩
theorem map_not_row {W : World} {b : Nat} {es : Array MapEntry} {ck : Nat} (h : W.heap[b]? = some (.map es ck)) {base size k : Nat} {e : TypeId} {v : Value} {xs : List Value} (hr : W.ownsRow base e size v k xs) : some b ≠ v.ownBlock := by
  rcases hr.2 with ⟨rfl, _⟩ | ⟨g, cap, cur, rfl, _, hgb, _⟩
  · simp [Value.ownBlock]
  · intro e'
    obtain rfl : b = g := by simpa [Value.ownBlock] using e'
    rw [h] at hgb
    cases hgb
/-- Where a round goes on: the name is put down, the entry is appended. -/
theorem RI.more {N cnt : Nat} {bv : Value} {w W w6 w7 : World} {acc : List S28} {nm : ByteArray} {n : Int} {v v' : Value} {tmp : Obj} (h : RI N cnt bv w acc W)
    (hown : w6.ownsMap Try.prog 9 (plainElem (H := Unit) Try.prog 4) (N + 3) (cnt + 1) ((seenD (acc.map fun e => e.f0.data.toList).reverse).put (.string nm.data.toList) (.lit (.bool true))))
    (hg6 : W.grownBy w6 (some (N + 3))) (hv : Boxed w6 (N + 2) 42 v) (hrow : w6.ownsRow N 28 2 v acc.length (flat28 acc))
    (hown' : w7.ownsRow N 28 2 v' (acc.length + 1) (flat28 acc ++ [.string nm, .int .i64 n])) (hg7 : (w6.alloc tmp).grownBy w7 v.ownBlock) :
    RI N (cnt + 1) bv w (acc ++ [⟨nm, n⟩]) (w7.setCell ⟨N + 2, 0, none⟩ v') ∧ KeepsFrom (N + 7) W (w7.setCell ⟨N + 2, 0, none⟩ v') := by
  have hs6 : N + 7 ≤ w6.heap.size := Nat.le_trans h.sz hg6.size
  obtain ⟨hv1, hv2, hr2, hk2, hb2⟩ := hv.appended (by decide) hrow (by omega) (by omega) hown' hg7
  have box : ∀ {B t u}, Boxed W B t u → B ≠ N + 3 → B ≠ N + 2 → t ≠ 28 → Boxed (w7.setCell ⟨N + 2, 0, none⟩ v') B t u := fun {B t u} hb h3 h2 ht => by
    have b1 := hb.kept hg6 (fun e => h3 (by injection e))
    exact ((b1.alloc tmp).kept hg7 (b1.not_row ht hrow)).other h2 _
  have hg8 := grownBy_setCell' w7 (N + 2) v'
  refine ⟨⟨box h.b2 (by omega) (by omega) (by decide), box h.b3 (by omega) (by omega) (by decide), ⟨v', hv2, ?_, trivial⟩, box h.b5 (by omega) (by omega) (by decide), box h.b6 (by omega) (by omega) (by decide), box h.b7 (by omega) (by omega) (by decide), ?_, ?_, ?_⟩, ?_⟩
  · rw [flat28_append, flat28_one, List.length_append]
    exact hr2
  · rw [List.map_append, List.map_singleton, List.reverse_append]
    have hm6 := hown
    obtain ⟨es, ck, hh, _⟩ := hm6
    exact ((hown.alloc tmp).kept hg7 (map_not_row hh hrow)).kept hg8 (fun e => by injection e with e; omega)
  · exact (h.below.trans ((Below.refl N W).grown hg6 (by have := h.sz; omega) (fun k e => by cases e; omega))).trans hb2
  · exact Nat.le_trans hs6 hb2.size
  · exact (KeepsFrom.of_grownBy hg6 (fun j e => by cases e; omega)).trans (hk2.from _)
/-! what is read -/
def pcOf (l : List Int) (k : Nat) : List Int := (l.drop (32 * k)).take 32
def pcN (p : List Int) : Int := leval (p.take 2)
def pcL (p : List Int) : Int := p.getD 2 0
def pcE (p : List Int) : S28 := ⟨strOfNums ((p.drop 3).take (pcL p).toNat), pcN p⟩
def pcOk (p : List Int) : Bool := decide (pcL p ≤ 24) && (decide (pcN p = 0) == decide (pcL p = 0)) && (p == pieceL (bytesOf (pcE p).f0) (pcN p))
def stepE (acc : List S28) (p : List Int) : Option (List S28) := if pcOk p = true ∧ (pcN p ≠ 0 → (acc.map fun e => e.f0.data.toList).any (· == (pcE p).f0.data.toList) = false) then some (acc ++ [pcE p]) else none
def readGo (ps : List (List Int)) : Option (List S28) := ps.foldlM stepE []
theorem readGo_snoc (ps : List (List Int)) (p : List Int) : readGo (ps ++ [p]) = (readGo ps).bind fun acc => stepE acc p := by
  unfold readGo
  rw [List.foldlM_append]
  simp
theorem foldE_length : ∀ (ps : List (List Int)) (a b : List S28), ps.foldlM stepE a = some b → b.length = a.length + ps.length
  | [], a, b, h => by injection h with h; subst h; rfl
  | p :: ps, a, b, h => by
    rw [List.foldlM_cons] at h
    obtain ⟨c, h1, h2⟩ := Option.bind_eq_some_iff.mp h
    have ih := foldE_length ps c b h2
    unfold stepE at h1
    split at h1
    · injection h1 with h1
      subst h1
      rw [List.length_append] at ih
      simp at ih ⊢
      omega
    · cases h1
theorem readGo_length (ps : List (List Int)) (b : List S28) (h : readGo ps = some b) : b.length = ps.length := by
  have := foldE_length ps [] b h
  simpa using this
theorem readGo_prefix {ps qs : List (List Int)} (h : ps <+: qs) (hn : readGo ps = none) : readGo qs = none := by
  obtain ⟨r, rfl⟩ := h
  unfold readGo at hn ⊢
  rw [List.foldlM_append, hn]
  rfl
def chunksOf (l : List Int) : List (List Int) := (List.range (l.length / 32)).map (pcOf l)
/-- What is read. -/
def readM (l : List Int) : List S28 × Int :=
  match readGo (chunksOf l) with
  | some out => (out, 0)
  | none => ([], 11)
theorem chunks_fin (l : List Int) (m : Nat) (h : 32 * m = l.length) : (List.finRange m).map (fun x => pcOf l x.1) = chunksOf l := by
  unfold chunksOf
  rw [show l.length / 32 = m by omega]
  apply List.ext_getElem <;> simp
theorem ent_info : (Try.prog.info? 28).map (fun i => (i.zero, i.size, i.bytes)) = some (some (.agg #[.string ⟨#[]⟩, .int .i64 0]), 2, 24) := by kernel_rfl
theorem ent_new (W : World) (s : ByteArray) (n : Int) : ∀ j u, [Value.string s, Value.int .i64 n][j]? = some u → (W.alloc (.cells #[.string s, .int .i64 n] 28)).cell? ((⟨W.heap.size, 0, none⟩ : Addr).add j) = some u := by
  intro j u hj
  have h := World.alloc_heap_new W (.cells #[.string s, .int .i64 n] 28)
  match j, hj with
  | 0, hj => injection hj with hj; subst hj; unfold World.cell?; show (match (W.alloc (.cells #[.string s, .int .i64 n] 28)).heap[W.heap.size]? with | some (.cells c _ _) => c[0 + 0]? | _ => none) = _; rw [h]; rfl
  | 1, hj => injection hj with hj; subst hj; unfold World.cell?; show (match (W.alloc (.cells #[.string s, .int .i64 n] 28)).heap[W.heap.size]? with | some (.cells c _ _) => c[0 + 1]? | _ => none) = _; rw [h]; rfl
theorem ent_cell (W : World) (s : ByteArray) (n : Int) : (W.alloc (.cells #[.string s, .int .i64 n] 28)).cell? ⟨W.heap.size, 0, none⟩ = some (.string s) ∧ (W.alloc (.cells #[.string s, .int .i64 n] 28)).cell? ⟨W.heap.size, 1, none⟩ = some (.int .i64 n) := by
  have h := World.alloc_heap_new W (.cells #[.string s, .int .i64 n] 28)
  constructor
  · unfold World.cell?
    simp only [h]
    rfl
  · unfold World.cell?
    simp only [h]
    rfl
theorem C_sub {W : World} {A : Option Addr} {n : Nat} {xs : List Int} (h : Kd.C (Kd.int .u8) W A n xs) (k len : Nat) (hk : k + len ≤ n) : Kd.C (Kd.int .u8) W (A.map (·.add k)) len ((xs.drop k).take len) := by
  refine ⟨by rw [List.length_take, List.length_drop, h.1]; omega, by have := h.2.1; omega, fun h0 => ?_⟩
  obtain ⟨ad, e, hc⟩ := h.2.2 (by omega)
  refine ⟨ad.add k, by rw [e]; rfl, fun j p hj => ?_⟩
  have hj2 : xs[k + j]? = some p := by
    rw [List.getElem?_take] at hj
    split at hj
    · rwa [List.getElem?_drop] at hj
    · cases hj
  obtain ⟨c, h1, h2, h3⟩ := hc (k + j) p hj2
  refine ⟨c, h1, h2, fun i u hi => ?_⟩
  have h4 := h3 i u hi
  rw [show (ad.add k).add (j * (Kd.int .u8).sz + i) = ad.add ((k + j) * (Kd.int .u8).sz + i) from by
    rw [Addr.add_add]
    congr 1
    show k + (j * 1 + i) = (k + j) * 1 + i
    omega]
  exact h4
set_option maxRecDepth 100000 in
set_option maxHeartbeats 8000000 in
theorem read.in (A0 : Option Addr) (c0 m : Nat) (l0 : List Int) (w : World) (hr0 : Kd.C (Kd.int .u8) w A0 l0.length l0) (hc0 : l0.length ≤ c0) (hm : 32 * m = l0.length) (hL : l0.length ≤ 140737488351232) (hu : u8s l0) :
    CallsIn Fence.wide 5 Try.prog 29 #[.slice A0 l0.length c0] w fun e w' => ∃ v0_ : Value, e = .returned (.tuple #[v0_, .int .i64 (readM l0).2]) ∧ Kd.R k28 28 w' w.heap.size (fun _ => True) v0_ (readM l0).1 ∧ Below w.heap.size w w' := by
  have h1 : 1 ≤ 5 := by decide
  have hmm := @run_makeMap Try.prog
  have hrem : Int.tmod (l0.length : Int) 32 = 0 := by rw [Int.tmod_eq_emod_of_nonneg (by omega)]; omega
  have HR0 := Aside0.mk hr0
  have HU := Aside0.mk hu
  clear hr0 hu
  refine callsIn_of_wp_marks Try.func29 rfl trivial ?_ rfl
  simp only [Try.ntmps29, List.size_toArray, List.length_cons, List.length_nil, Nat.reduceAdd, Nat.reduceSub, Array.replicate_succ, Array.replicate_zero, List.push_toArray, List.append_toArray, List.nil_append, List.cons_append]
  gi_wp2_with (refine ⟨trivial, ?_⟩; gi_at_call 39; refine (callsIn_wide.2 (chunk.calls A0 l0.length c0 _)).mono ?_; rintro e w' ⟨rfl, rfl⟩)
  obtain ⟨WL, hWL⟩ : ∃ WL, (((((((w.alloc (.cells #[.slice none 0 0] 42)).alloc (.cells #[.int .i64 0] 24)).alloc (.cells #[.slice none 0 0] 42)).alloc (.map #[] 0)).alloc (.cells #[.map (some (w.heap.size + 1 + 1 + 1))] 72)).alloc (.cells #[.slice A0 l0.length c0] 23)).alloc (.cells #[.int .i64 32] 3)) = WL := ⟨_, rfl⟩
  rw [hWL]
  simp only [Nat.add_assoc, Nat.reduceAdd] at hWL ⊢
  obtain ⟨N, hN⟩ : ∃ N, w.heap.size = N := ⟨_, rfl⟩
  have hsz : WL.heap.size = N + 7 := by rw [← hWL, ← hN]; simp
  have hB0 : Below N w WL := by
    rw [← hWL, ← hN]
    exact ((((((((Below.refl _ w).alloc (Nat.le_refl _) _).alloc (by simp) _).alloc (by simp; omega) _).alloc (by simp; omega) _).alloc (by simp; omega) _).alloc (by simp; omega) _).alloc (by simp; omega) _)
  have hR0 : RI N 0 (.slice A0 l0.length c0) w [] WL := by
    refine ⟨?_, ?_, ⟨.slice none 0 0, ?_, World.ownsRow_nil _ _ _ _, trivial⟩, ?_, ?_, ?_, ?_, hB0, by omega⟩
    · rw [← hWL, ← hN]
      exact ((((((Boxed.new w _ _).alloc _).alloc _).alloc _).alloc _).alloc _).alloc _
    · rw [← hWL, ← hN]
      have := Boxed.new (w.alloc (.cells #[.slice none 0 0] 42)) 24 (.int .i64 0)
      rw [World.size_alloc] at this
      exact ((((this.alloc _).alloc _).alloc _).alloc _).alloc _
    · rw [← hWL, ← hN]
      have := Boxed.new ((w.alloc (.cells #[.slice none 0 0] 42)).alloc (.cells #[.int .i64 0] 24)) 42 (.slice none 0 0)
      simp only [World.size_alloc] at this
      exact (((this.alloc _).alloc _).alloc _).alloc _
    · rw [← hWL, ← hN]
      have := Boxed.new ((((w.alloc (.cells #[.slice none 0 0] 42)).alloc (.cells #[.int .i64 0] 24)).alloc (.cells #[.slice none 0 0] 42)).alloc (.map #[] 0)) 72 (.map (some (w.heap.size + 3)))
      simp only [World.size_alloc] at this
      exact (this.alloc _).alloc _
    · rw [← hWL, ← hN]
      have := Boxed.new (((((w.alloc (.cells #[.slice none 0 0] 42)).alloc (.cells #[.int .i64 0] 24)).alloc (.cells #[.slice none 0 0] 42)).alloc (.map #[] 0)).alloc (.cells #[.map (some (w.heap.size + 3))] 72)) 23 (.slice A0 l0.length c0)
      simp only [World.size_alloc] at this
      exact this.alloc _
    · rw [← hWL, ← hN]
      have := Boxed.new ((((((w.alloc (.cells #[.slice none 0 0] 42)).alloc (.cells #[.int .i64 0] 24)).alloc (.cells #[.slice none 0 0] 42)).alloc (.map #[] 0)).alloc (.cells #[.map (some (w.heap.size + 3))] 72)).alloc (.cells #[.slice A0 l0.length c0] 23)) 3 (.int .i64 32)
      simp only [World.size_alloc] at this
      exact this
    · rw [← hWL, ← hN]
      have := World.ownsMap_made (((w.alloc (.cells #[.slice none 0 0] 42)).alloc (.cells #[.int .i64 0] 24)).alloc (.cells #[.slice none 0 0] 42)) Try.prog 9 (plainElem (H := Unit) Try.prog 4)
      simp only [World.size_alloc] at this
      exact ((this.alloc _).alloc _).alloc _
  have hc5 := hR0.b6.cell
  have hc6 := hR0.b7.cell
  have HBB := Aside0.mk hB0
  clear hWL hmm hrem
  rw [hN]
  refine wpIn_rangeFunc_ownG rfl h1 (gf := 50) (lb := #[.pointer (some ⟨N + 5, 0, none⟩), .pointer (some ⟨N + 6, 0, none⟩)]) rfl trivial (enters_of Try.func50 (by kernel_rfl) rfl)
    (chunk_stops 4 (by decide) (N + 5) (N + 6) m l0.length A0 c0 hm hc0 hL WL (by omega) (by omega) hc5 hc6) (fun h k => h.t k) (fun W l o o' hl h hc hw => KpC.b (w := WL) (by omega) (by omega) W l o o' hl h hc hw) (Below.refl _ _) (fun _ => rfl)
    (fun pre W => ∃ acc, readGo (pre.map fun x => pcOf l0 x.1) = some acc ∧ RI N pre.length (.slice A0 l0.length c0) w acc W)
    (fun c pre W => c = .ret ∧ readGo (pre.map fun x => pcOf l0 x.1) = none ∧ Boxed W N 42 (.slice none 0 0) ∧ Boxed W (N + 1) 24 (.int .i64 11) ∧ Below N w W ∧ N + 7 ≤ W.heap.size)
    (fun s A B row ⟨acc, h1, h2⟩ hg hr => ⟨acc, h1, h2.kept hg (fun r e => by have := hr r e; rw [hsz] at this; exact this)⟩)
    (fun c s A B row ⟨h1, h2, h3, h4, h5, h6⟩ hg hr => ⟨h1, h2, h3.kept hg (fun e => by have := (hr _ e.symm).1; omega), h4.kept hg (fun e => by have := (hr _ e.symm).1; omega), h5.trans ((Below.refl N A).grown hg (by omega) (fun k e => by have := (hr _ e).1; omega)), Nat.le_trans h6 hg.size⟩)
    ⟨[], rfl, hR0⟩ ?a1 ?assign ?body ?done ?stop
  case assign =>
    intro l x W K hK
    gi_wp2
    exact hK
  case body =>
    rintro l pre x W ⟨acc, hgo, hI⟩ hlt
    have hx := x.2
    obtain ⟨k, hk⟩ : ∃ k, x.1 = k := ⟨_, rfl⟩
    have hkm : 32 * k + 32 ≤ l0.length := by omega
    have hC0 := C_sub HR0.out (32 * k) 32 hkm
    obtain ⟨ad, hA, -⟩ := HR0.out.2.2 (by omega)
    subst hA
    obtain ⟨B, hB⟩ : ∃ B, ad.add (32 * k) = B := ⟨_, rfl⟩
    have hch : chV (some ad) x.1 = .slice (some B) 32 32 := by rw [hk, ← hB]; rfl
    have hC1 : Kd.C (Kd.int .u8) w (some B) 32 (pcOf l0 k) := by rw [← hB]; exact hC0
    have hpl : (pcOf l0 k).length = 32 := hC1.1
    have hpu : u8s (pcOf l0 k) := fun x hx => HU.out x (List.mem_of_mem_drop (List.mem_of_mem_take hx))
    obtain ⟨p, hp⟩ : ∃ p, pcOf l0 k = p := ⟨_, rfl⟩
    rw [hp] at hC1 hpl hpu
    have hCW : Kd.C (Kd.int .u8) W (some B) 32 p := Kd.C_below hC1 (by rw [hN]; exact hI.below)
    have hmap : (pre ++ [x]).map (fun x => pcOf l0 x.1) = pre.map (fun x => pcOf l0 x.1) ++ [p] := by rw [List.map_append, List.map_singleton, hk, hp]
    have hlen1 : (pre ++ [x]).length = pre.length + 1 := by simp
    have HPL := Aside0.mk hpl
    have HPU := Aside0.mk hpu
    -- the numbers of the piece
    obtain ⟨g, hg⟩ : ∃ g, pcL p = g := ⟨_, rfl⟩
    obtain ⟨n, hn⟩ : ∃ n, pcN p = n := ⟨_, rfl⟩
    have hp2 : p[2]? = some g := by
      rw [← hg]
      unfold pcL
      rw [List.getD_eq_getElem?_getD, List.getElem?_eq_getElem (by omega), Option.getD_some]
    have hg0 : 0 ≤ g ∧ g ≤ 255 := by
      have := hpu g (List.mem_of_getElem? hp2)
      omega
    have hn0 : 0 ≤ n ∧ n < 65536 := by
      have h := leval_range (p.take 2) (fun x hx => hpu x (List.mem_of_mem_take hx))
      rw [List.length_take, hpl] at h
      have h2 : pcN p = leval (p.take 2) := rfl
      rw [hn] at h2
      rw [← h2] at h
      exact ⟨h.1, by have := h.2; simpa using this⟩
    have HGET := Aside0.mk (fun (W : World) (h : Kd.C (Kd.int .u8) W (some B) 32 p) => show Calls Try.prog 40 #[.slice (some B) 32 32, .int .i64 0, .int .i64 2] W fun e w' => e = .returned (.tuple #[.int .u64 n, .int .i64 0]) ∧ Drawn0 W w' from by
      have := word_Get.calls (some B) 32 p 0 2 n 0 W (by rw [hpl]; exact h) (by rw [hpl]; exact Nat.le_refl _) (by
        rw [word_Get_eq p 0 2 hpu (by rw [hpl]; decide) (by decide)]
        unfold getV insideV cutV
        rw [hpl, ← hn]
        rfl)
      rw [hpl] at this
      exact this)
    have hcell : W.cell? ⟨B.block, B.off + 2, none⟩ = some (.int .u8 g) := by
      obtain ⟨ad', e, hc⟩ := hCW.2.2 (by decide)
      injection e with e
      subst e
      obtain ⟨c, h1, h2, h3⟩ := hc 2 g hp2
      have h2' : c = [.int .u8 g] := h2
      subst h2'
      exact h3 0 _ rfl
    have HCW := Aside0.mk hCW
    have HI := Aside0.mk hI
    have HGO := Aside0.mk hgo
    have HMAP := Aside0.mk hmap
    have HLEN := Aside0.mk hlen1
    have HG := Aside0.mk hg
    have HN := Aside0.mk hn
    have HPC := Aside0.mk hp
    rw [hch]
    have hwg : wrap64 g = g := wrap64_id (by omega) (by omega)
    have HCELL := Aside0.mk hcell
    have hwn : wrap64 n = n := wrap64_id (by omega) (by omega)
    obtain ⟨nm, hnm⟩ : ∃ nm, strOfNums ((p.drop 3).take g.toNat) = nm := ⟨_, rfl⟩
    obtain ⟨q, hq⟩ : ∃ q, pieceL (bytesOf nm) n = q := ⟨_, rfl⟩
    obtain ⟨r, hr⟩ : ∃ r, decide (p = q) = r := ⟨_, rfl⟩
    obtain ⟨sn, hsn⟩ : ∃ sn, (acc.map fun e => e.f0.data.toList).reverse.any (· == nm.data.toList) = sn := ⟨_, rfl⟩
    have hE : pcE p = ⟨nm, n⟩ := by unfold pcE; rw [hg, hn, hnm]
    have HF1 := Aside0.mk (show (24 < g ∨ (decide (n = 0) == decide (g = 0)) = false ∨ r = false ∨ (n ≠ 0 ∧ sn = true)) → (some acc).bind (fun acc => stepE acc p) = none from fun h => by
      show stepE acc p = none
      unfold stepE
      rw [if_neg]
      intro ⟨h1, h2⟩
      unfold pcOk at h1
      rw [hE, hg, hn, hq, Bool.and_eq_true, Bool.and_eq_true] at h1
      rw [hE, hn] at h2
      rcases h with h | h | h | h
      · have := of_decide_eq_true h1.1.1
        omega
      · rw [h] at h1
        exact absurd h1.1.2 (by decide)
      · rw [h] at hr
        exact absurd (eq_of_beq h1.2) (of_decide_eq_false hr)
      · have h3 := h2 h.1
        rw [← List.any_reverse] at h3
        rw [h.2] at hsn
        exact absurd (hsn.symm.trans h3) (by decide))
    have HS1 := Aside0.mk (show ¬ 24 < g → (decide (n = 0) == decide (g = 0)) = true → r = true → (n = 0 ∨ sn = false) → (some acc).bind (fun acc => stepE acc p) = some (acc ++ [⟨nm, n⟩]) from fun h1 h2 h3 h4 => by
      show stepE acc p = _
      unfold stepE
      rw [if_pos, hE]
      refine ⟨?_, fun h5 => ?_⟩
      · unfold pcOk
        rw [hE, hg, hn, hq, Bool.and_eq_true, Bool.and_eq_true]
        rw [h3] at hr
        exact ⟨⟨decide_eq_true (by omega), h2⟩, beq_iff_eq.mpr (of_decide_eq_true hr)⟩
      · rw [hE, ← List.any_reverse]
        rcases h4 with h4 | h4
        · rw [hn] at h5
          exact absurd h4 h5
        · rw [← h4]
          exact hsn)
    have hns : nm.size ≤ 32 := by
      rw [← hnm, strOfNums_size, List.length_take, List.length_drop]
      omega
    have HNS := Aside0.mk (show nm.size ≤ maxLen from by unfold maxLen; omega)
    have HQL := Aside0.mk (show ¬ 24 < g → q.length = 32 from fun _ => by rw [← hq]; unfold pieceL; rw [padV_length]; rfl)
    have HPIE := Aside0.mk (fun (W : World) (h24 : ¬ 24 < g) => show Calls Try.prog 37 #[.agg #[.string nm, .int .i64 n]] W fun e w' => ∃ v0_ : Value, e = .returned (v0_) ∧ Kd.R (Kd.int .u8) 5 w' W.heap.size (fun _ => True) v0_ q ∧ Below W.heap.size W w' from by
      rw [← hq]
      exact piece.calls nm n hn0.1 (by omega) (by omega) W)
    have HEQ := Aside0.mk (fun (W : World) (A1 : Option Addr) (c1 : Nat) (h24 : ¬ 24 < g) (h1 : Kd.C (Kd.int .u8) W (some B) 32 p) (h2 : Kd.C (Kd.int .u8) W A1 32 q) (h3 : 32 ≤ c1) => show Calls Try.prog 41 #[.slice (some B) 32 32, .slice A1 32 c1] W fun e w' => e = .returned (.bool r) ∧ Drawn0 W w' from by
      have hql := HQL.out h24
      have := slices_Equal_byte_byte.calls 40 (some B) 32 p A1 c1 q r W (by rw [HPL.out]; exact h1) (by rw [HPL.out]; exact Nat.le_refl _) (by rw [hql]; exact h2) (by rw [hql]; exact h3) (by rw [slices_Equal_eq 40 p q (by rw [HPL.out]; decide) (by rw [HPL.out]; decide), hr])
      rw [HPL.out, hql] at this
      exact this)
    have HCV := Aside0.mk (fun (W : World) (h24 : ¬ 24 < g) (h : Kd.C (Kd.int .u8) W (some B) 32 p) => show (Go.convert 23 9 (.slice (some ⟨B.block, B.off + 3, none⟩) g.toNat 29)).run Try.prog W = .ok (.string nm) W from by
      have h5 := C_sub h 3 g.toNat (by omega)
      have h6 : ((p.drop 3).take g.toNat).length = g.toNat := h5.1
      have := run_string_row (P := Try.prog) 23 9 5 Try.underlying23 Try.underlying5 Try.underlying9 W (some (B.add 3)) 29 ((p.drop 3).take g.toNat) (by rw [h6]; exact h5)
      rw [h6, hnm] at this
      exact this)
    have HSL := Aside0.mk (fun (h24 : ¬ 24 < g) (W : World) => show (Instr.slice 23 (.slice (some B) 32 32) (some (.int .i64 3)) (some (.int .i64 (3 + g))) none).run Try.prog W = .ok (.slice (some ⟨B.block, B.off + 3, none⟩) g.toNat 29) W from by
      rw [run_slice_lh W 23 (some B) 32 32 Try.underlying23 .i64 .i64 3 (3 + g) (by decide) (by omega) (by omega)]
      rw [show (sizeOf (Try.prog.elem 23)).run Try.prog W = .ok 1 W from Try.sizeOf5 W]
      simp only [Result.andThen, sliced]
      rw [if_neg (by decide), show (3 + g).toNat = 3 + g.toNat by omega]
      show Result.ok (Value.slice (some ⟨B.block, B.off + 3 * 1, none⟩) (3 + g.toNat - 3) (32 - 3)) W = _
      rw [Nat.add_sub_cancel_left])
    have HSN := Aside0.mk hsn
    have HLA := Aside0.mk (show acc.length + 1 ≤ 4398046511104 ∧ pre.length + 1 ≤ 4398046511104 from by have := readGo_length _ _ hgo; rw [List.length_map] at this; omega)
    obtain ⟨i0, hi0, hi1, hi2, hi3⟩ := info_parts ent_info
    have HIN := Aside0.mk (And.intro hi0 (And.intro hi1 (And.intro hi2 hi3)))
    clear hi0 hi1 hi2 hi3
    clear hcell hr hsn hq hE hgo hlt hpl hpu hp2 hns
    by_cases hg24 : 24 < g
    · have d1 : decide (24 < g) = true := decide_eq_true hg24
      gi_wp2_with (refine ⟨trivial, ?_⟩; gi_at_call 40; refine (CallsIn.inRound l (callsIn_wide.2 (HGET.out _ HCW.out))).mono ?_; rintro e w2 ⟨rfl, hd⟩; have HI2 := Aside0.mk (HI.out.go hd.below); have HD2 := Aside0.mk hd.below; have r2 := HI2.out.b2.cell; have r3 := HI2.out.b3.cell; have z2 := HI2.out.b2.frozen; have z3 := HI2.out.b3.frozen; have hcell2 : w2.cell? ⟨B.block, B.off + 2, none⟩ = some (.int .u8 g) := (hd.below.cell (lt_cell HCELL.out)).trans HCELL.out; clear hd)
      have hf := HI2.out.fail (KeepsFrom.of_grownBy (grown_of_below HD2.out) (fun j e => by cases e))
      rw [← hsz] at hf
      exact ⟨hf.1, rfl, by rw [HMAP.out, readGo_snoc, HGO.out]; exact HF1.out (.inl hg24), hf.2.1, hf.2.2.1, hf.2.2.2.1, by rw [← hsz]; exact hf.2.2.2.2⟩
    · have d1 : decide (24 < g) = false := decide_eq_false hg24
      have hsl := HSL.out hg24
      have hw3 : wrap64 (3 + g) = 3 + g := wrap64_id (by omega) (by omega)
      by_cases hn00 : n = 0 <;> by_cases hg00 : g = 0
      · have d2 : (n == 0) = true := beq_iff_eq.mpr hn00
        have d3 : (g == 0) = true := beq_iff_eq.mpr hg00
        have d4 : (n != 0) = false := by rw [bne, d2]; rfl
        have HN0 := Aside0.mk hn00
        clear hn00
        have HG0 := Aside0.mk hg00
        clear hg00
        cases r
        · gi_wp2_with (first | (refine ⟨trivial, ?_⟩; gi_at_call 40; refine (CallsIn.inRound l (callsIn_wide.2 (HGET.out _ HCW.out))).mono ?_; rintro e w2 ⟨rfl, hd⟩; have HI2 := Aside0.mk (HI.out.go hd.below); have HD2 := Aside0.mk hd.below; have r2 := HI2.out.b2.cell; have r3 := HI2.out.b3.cell; have z2 := HI2.out.b2.frozen; have z3 := HI2.out.b3.frozen; have hcell2 : w2.cell? ⟨B.block, B.off + 2, none⟩ = some (.int .u8 g) := (hd.below.cell (lt_cell HCELL.out)).trans HCELL.out; have cv := HCV.out w2 hg24 (Kd.C_below HCW.out hd.below); clear hd) | (refine ⟨trivial, ?_⟩; gi_at_call 37; refine (CallsIn.inRound l (callsIn_wide.2 (HPIE.out _ hg24))).mono ?_; clear r2 r3 z2 z3 hcell2 cv; rintro e w4 ⟨v4, rfl, hv4, hb4⟩; obtain ⟨A4, c4, rfl, hl4, hC4⟩ := Kd.R_reads hv4; rw [HQL.out hg24] at hl4 hC4 ⊢; have HC4 := Aside0.mk (And.intro hl4 hC4); have HD4 := Aside0.mk (HD2.out.trans (((Below.refl _ w2).alloc (Nat.le_refl _) (.cells #[.string nm, .int .i64 n] 28) |>.trans (hb4.mono (by simp))).mono HD2.out.size)); have e0 := ((hb4.cell (p := ⟨w2.heap.size, 0, none⟩) (by simp)).trans (ent_cell w2 nm n).1); have e1 := ((hb4.cell (p := ⟨w2.heap.size, 1, none⟩) (by simp)).trans (ent_cell w2 nm n).2); clear hv4 hb4 hl4 hC4) | (refine ⟨trivial, ?_⟩; gi_at_call 41; refine (CallsIn.inRound l (callsIn_wide.2 (HEQ.out _ A4 c4 hg24 (Kd.C_below HCW.out HD4.out) HC4.out.2 HC4.out.1))).mono ?_; rintro e w5 ⟨rfl, hd5⟩; have HD5 := Aside0.mk (HD4.out.trans (hd5.below.mono HD4.out.size)); have HI5 := Aside0.mk (HI.out.go HD5.out); have r2 := HI5.out.b2.cell; have r3 := HI5.out.b3.cell; have z2 := HI5.out.b2.frozen; have z3 := HI5.out.b3.frozen; have f0 := (hd5.below.cell (lt_cell e0)).trans e0; have f1 := (hd5.below.cell (lt_cell e1)).trans e1; clear e0 e1 hd5; have r5 := HI5.out.b5.cell; have lk := look_seen HI5.out.mp nm HNS.out; rw [HSN.out] at lk))
          have hf := HI5.out.fail (KeepsFrom.of_grownBy (grown_of_below HD5.out) (fun j e => by cases e))
          rw [← hsz] at hf
          exact ⟨hf.1, rfl, by rw [HMAP.out, readGo_snoc, HGO.out]; exact HF1.out (.inr (.inr (.inl (by simp)))), hf.2.1, hf.2.2.1, hf.2.2.2.1, by rw [← hsz]; exact hf.2.2.2.2⟩
        · gi_wp2_with (first | (refine ⟨trivial, ?_⟩; gi_at_call 40; refine (CallsIn.inRound l (callsIn_wide.2 (HGET.out _ HCW.out))).mono ?_; rintro e w2 ⟨rfl, hd⟩; have HI2 := Aside0.mk (HI.out.go hd.below); have HD2 := Aside0.mk hd.below; have r2 := HI2.out.b2.cell; have r3 := HI2.out.b3.cell; have z2 := HI2.out.b2.frozen; have z3 := HI2.out.b3.frozen; have hcell2 : w2.cell? ⟨B.block, B.off + 2, none⟩ = some (.int .u8 g) := (hd.below.cell (lt_cell HCELL.out)).trans HCELL.out; have cv := HCV.out w2 hg24 (Kd.C_below HCW.out hd.below); clear hd) | (refine ⟨trivial, ?_⟩; gi_at_call 37; refine (CallsIn.inRound l (callsIn_wide.2 (HPIE.out _ hg24))).mono ?_; clear r2 r3 z2 z3 hcell2 cv; rintro e w4 ⟨v4, rfl, hv4, hb4⟩; obtain ⟨A4, c4, rfl, hl4, hC4⟩ := Kd.R_reads hv4; rw [HQL.out hg24] at hl4 hC4 ⊢; have HC4 := Aside0.mk (And.intro hl4 hC4); have HD4 := Aside0.mk (HD2.out.trans (((Below.refl _ w2).alloc (Nat.le_refl _) (.cells #[.string nm, .int .i64 n] 28) |>.trans (hb4.mono (by simp))).mono HD2.out.size)); have e0 := ((hb4.cell (p := ⟨w2.heap.size, 0, none⟩) (by simp)).trans (ent_cell w2 nm n).1); have e1 := ((hb4.cell (p := ⟨w2.heap.size, 1, none⟩) (by simp)).trans (ent_cell w2 nm n).2); clear hv4 hb4 hl4 hC4) | (refine ⟨trivial, ?_⟩; gi_at_call 41; refine (CallsIn.inRound l (callsIn_wide.2 (HEQ.out _ A4 c4 hg24 (Kd.C_below HCW.out HD4.out) HC4.out.2 HC4.out.1))).mono ?_; rintro e w5 ⟨rfl, hd5⟩; have HD5 := Aside0.mk (HD4.out.trans (hd5.below.mono HD4.out.size)); have HI5 := Aside0.mk (HI.out.go HD5.out); have r2 := HI5.out.b2.cell; have r3 := HI5.out.b3.cell; have z2 := HI5.out.b2.frozen; have z3 := HI5.out.b3.frozen; have f0 := (hd5.below.cell (lt_cell e0)).trans e0; have f1 := (hd5.below.cell (lt_cell e1)).trans e1; clear e0 e1 hd5; have r5 := HI5.out.b5.cell; have lk := look_seen HI5.out.mp nm HNS.out; rw [HSN.out] at lk) | (gi_at_mapUpdate; refine wpListIn_mapUpdate_own _ rfl _ _ _ 72 rfl 9 4 (Maps.string_keyed Try.underlying9) Try.underlying72 _ (N + 3) pre.length _ rfl HI5.out.mp (by have := HLA.out.2; unfold maxLen; omega) _ _ _ rfl rfl (WideMaps.keyOf_string_mk Try.underlying9 HNS.out) _ [] (plainElem_bool Try.underlying4 true) ?_; clear r2 r3 z2 z3 r5 lk; intro w6 hown6 hg6; obtain ⟨v5, hv6, hrow6, _⟩ := holdsRow_own N (N + 2) 42 28 2 (fun s : List S28 => s.length) flat28 (fun _ _ => True) acc _ _ _ HI5.out.b4 hg6 (fun r e => by cases e; obtain ⟨es, ck, hh, _⟩ := HI5.out.mp; exact ⟨_, hh, rfl⟩); have g0 := hg6.cell f0 (by have := HI2.out.sz; intro e; injection e with e; have e2 : w2.heap.size = N + 3 := e; omega); have g1 := hg6.cell f1 (by have := HI2.out.sz; intro e; injection e with e; have e2 : w2.heap.size = N + 3 := e; omega); have HU6 := Aside0.mk (And.intro hown6 (And.intro hg6 (And.intro hv6 hrow6))); clear f0 f1 hown6 hg6 hrow6; have c6 := hv6.cell; clear hv6) | (gi_at_builtin; refine wpListIn_append_own _ rfl _ _ 42 rfl N 28 i0 _ 2 24 Try.underlying42 HIN.out.1 HIN.out.2.1 HIN.out.2.2.1 HIN.out.2.2.2 rfl (by decide) v5 acc.length (flat28 acc) rfl (HU6.out.2.2.2.alloc _) ⟨w6.heap.size, 0, none⟩ 1 1 [.string nm, .int .i64 n] rfl rfl (ent_new _ _ _) (by simp [Value.oneCell']) (by have := HLA.out.1; unfold maxLen; omega) (by have := HLA.out.1; omega) (by have := HU6.out.2.2.1.lt; simp; omega) ?_; clear g0 g1 c6; intro v' w7 hown7 hg7 _; obtain ⟨g', cap', rfl⟩ := ownsRow_succ hown7; have HM := Aside0.mk (RI.more HI5.out HU6.out.1 HU6.out.2.1 HU6.out.2.2.1 HU6.out.2.2.2 hown7 hg7); have hv7 := (HU6.out.2.2.1.alloc _).kept hg7 (HU6.out.2.2.1.not_row (by decide) HU6.out.2.2.2); clear hown7 hg7; have c7 := hv7.cell; have y7 := hv7.frozen; clear hv7))
          have HM1 := HM.out.1
          have HK := (KeepsFrom.of_grownBy (grown_of_below HD5.out) (fun j e => by cases e)).trans HM.out.2
          rw [← hsz] at HK
          refine ⟨HK, ⟨HM1.b6.cell.trans HI.out.b6.cell.symm, HM1.b7.cell.trans HI.out.b7.cell.symm⟩, _, ?_, by rw [HLEN.out]; exact HM1⟩
          rw [HMAP.out, readGo_snoc, HGO.out]
          exact HS1.out hg24 (by rw [decide_eq_true HN0.out, decide_eq_true HG0.out]; decide) (by simp) (.inl HN0.out)
      · have d2 : (n == 0) = true := beq_iff_eq.mpr hn00
        have d3 : (g == 0) = false := beq_eq_false_iff_ne.mpr hg00
        have d4 : (n != 0) = false := by rw [bne, d2]; rfl
        have HN0 := Aside0.mk hn00
        clear hn00
        have HG0 := Aside0.mk hg00
        clear hg00
        gi_wp2_with (refine ⟨trivial, ?_⟩; gi_at_call 40; refine (CallsIn.inRound l (callsIn_wide.2 (HGET.out _ HCW.out))).mono ?_; rintro e w2 ⟨rfl, hd⟩; have HI2 := Aside0.mk (HI.out.go hd.below); have HD2 := Aside0.mk hd.below; have r2 := HI2.out.b2.cell; have r3 := HI2.out.b3.cell; have z2 := HI2.out.b2.frozen; have z3 := HI2.out.b3.frozen; have hcell2 : w2.cell? ⟨B.block, B.off + 2, none⟩ = some (.int .u8 g) := (hd.below.cell (lt_cell HCELL.out)).trans HCELL.out; have cv := HCV.out w2 hg24 (Kd.C_below HCW.out hd.below); clear hd)
        have hf := HI2.out.fail (KeepsFrom.of_grownBy (grown_of_below HD2.out) (fun j e => by cases e))
        rw [← hsz] at hf
        exact ⟨hf.1, rfl, by rw [HMAP.out, readGo_snoc, HGO.out]; exact HF1.out (.inr (.inl (by rw [decide_eq_true HN0.out, decide_eq_false HG0.out]; decide))), hf.2.1, hf.2.2.1, hf.2.2.2.1, by rw [← hsz]; exact hf.2.2.2.2⟩
      · have d2 : (n == 0) = false := beq_eq_false_iff_ne.mpr hn00
        have d3 : (g == 0) = true := beq_iff_eq.mpr hg00
        have d4 : (n != 0) = true := by rw [bne, d2]; rfl
        have HN0 := Aside0.mk hn00
        clear hn00
        have HG0 := Aside0.mk hg00
        clear hg00
        gi_wp2_with (refine ⟨trivial, ?_⟩; gi_at_call 40; refine (CallsIn.inRound l (callsIn_wide.2 (HGET.out _ HCW.out))).mono ?_; rintro e w2 ⟨rfl, hd⟩; have HI2 := Aside0.mk (HI.out.go hd.below); have HD2 := Aside0.mk hd.below; have r2 := HI2.out.b2.cell; have r3 := HI2.out.b3.cell; have z2 := HI2.out.b2.frozen; have z3 := HI2.out.b3.frozen; have hcell2 : w2.cell? ⟨B.block, B.off + 2, none⟩ = some (.int .u8 g) := (hd.below.cell (lt_cell HCELL.out)).trans HCELL.out; have cv := HCV.out w2 hg24 (Kd.C_below HCW.out hd.below); clear hd)
        have hf := HI2.out.fail (KeepsFrom.of_grownBy (grown_of_below HD2.out) (fun j e => by cases e))
        rw [← hsz] at hf
        exact ⟨hf.1, rfl, by rw [HMAP.out, readGo_snoc, HGO.out]; exact HF1.out (.inr (.inl (by rw [decide_eq_false HN0.out, decide_eq_true HG0.out]; decide))), hf.2.1, hf.2.2.1, hf.2.2.2.1, by rw [← hsz]; exact hf.2.2.2.2⟩
      · have d2 : (n == 0) = false := beq_eq_false_iff_ne.mpr hn00
        have d3 : (g == 0) = false := beq_eq_false_iff_ne.mpr hg00
        have d4 : (n != 0) = true := by rw [bne, d2]; rfl
        have HN0 := Aside0.mk hn00
        clear hn00
        have HG0 := Aside0.mk hg00
        clear hg00
        cases r
        · gi_wp2_with (first | (refine ⟨trivial, ?_⟩; gi_at_call 40; refine (CallsIn.inRound l (callsIn_wide.2 (HGET.out _ HCW.out))).mono ?_; rintro e w2 ⟨rfl, hd⟩; have HI2 := Aside0.mk (HI.out.go hd.below); have HD2 := Aside0.mk hd.below; have r2 := HI2.out.b2.cell; have r3 := HI2.out.b3.cell; have z2 := HI2.out.b2.frozen; have z3 := HI2.out.b3.frozen; have hcell2 : w2.cell? ⟨B.block, B.off + 2, none⟩ = some (.int .u8 g) := (hd.below.cell (lt_cell HCELL.out)).trans HCELL.out; have cv := HCV.out w2 hg24 (Kd.C_below HCW.out hd.below); clear hd) | (refine ⟨trivial, ?_⟩; gi_at_call 37; refine (CallsIn.inRound l (callsIn_wide.2 (HPIE.out _ hg24))).mono ?_; clear r2 r3 z2 z3 hcell2 cv; rintro e w4 ⟨v4, rfl, hv4, hb4⟩; obtain ⟨A4, c4, rfl, hl4, hC4⟩ := Kd.R_reads hv4; rw [HQL.out hg24] at hl4 hC4 ⊢; have HC4 := Aside0.mk (And.intro hl4 hC4); have HD4 := Aside0.mk (HD2.out.trans (((Below.refl _ w2).alloc (Nat.le_refl _) (.cells #[.string nm, .int .i64 n] 28) |>.trans (hb4.mono (by simp))).mono HD2.out.size)); have e0 := ((hb4.cell (p := ⟨w2.heap.size, 0, none⟩) (by simp)).trans (ent_cell w2 nm n).1); have e1 := ((hb4.cell (p := ⟨w2.heap.size, 1, none⟩) (by simp)).trans (ent_cell w2 nm n).2); clear hv4 hb4 hl4 hC4) | (refine ⟨trivial, ?_⟩; gi_at_call 41; refine (CallsIn.inRound l (callsIn_wide.2 (HEQ.out _ A4 c4 hg24 (Kd.C_below HCW.out HD4.out) HC4.out.2 HC4.out.1))).mono ?_; rintro e w5 ⟨rfl, hd5⟩; have HD5 := Aside0.mk (HD4.out.trans (hd5.below.mono HD4.out.size)); have HI5 := Aside0.mk (HI.out.go HD5.out); have r2 := HI5.out.b2.cell; have r3 := HI5.out.b3.cell; have z2 := HI5.out.b2.frozen; have z3 := HI5.out.b3.frozen; have f0 := (hd5.below.cell (lt_cell e0)).trans e0; have f1 := (hd5.below.cell (lt_cell e1)).trans e1; clear e0 e1 hd5; have r5 := HI5.out.b5.cell; have lk := look_seen HI5.out.mp nm HNS.out; rw [HSN.out] at lk))
          have hf := HI5.out.fail (KeepsFrom.of_grownBy (grown_of_below HD5.out) (fun j e => by cases e))
          rw [← hsz] at hf
          exact ⟨hf.1, rfl, by rw [HMAP.out, readGo_snoc, HGO.out]; exact HF1.out (.inr (.inr (.inl (by simp)))), hf.2.1, hf.2.2.1, hf.2.2.2.1, by rw [← hsz]; exact hf.2.2.2.2⟩
        · cases sn
          · gi_wp2_with (first | (refine ⟨trivial, ?_⟩; gi_at_call 40; refine (CallsIn.inRound l (callsIn_wide.2 (HGET.out _ HCW.out))).mono ?_; rintro e w2 ⟨rfl, hd⟩; have HI2 := Aside0.mk (HI.out.go hd.below); have HD2 := Aside0.mk hd.below; have r2 := HI2.out.b2.cell; have r3 := HI2.out.b3.cell; have z2 := HI2.out.b2.frozen; have z3 := HI2.out.b3.frozen; have hcell2 : w2.cell? ⟨B.block, B.off + 2, none⟩ = some (.int .u8 g) := (hd.below.cell (lt_cell HCELL.out)).trans HCELL.out; have cv := HCV.out w2 hg24 (Kd.C_below HCW.out hd.below); clear hd) | (refine ⟨trivial, ?_⟩; gi_at_call 37; refine (CallsIn.inRound l (callsIn_wide.2 (HPIE.out _ hg24))).mono ?_; clear r2 r3 z2 z3 hcell2 cv; rintro e w4 ⟨v4, rfl, hv4, hb4⟩; obtain ⟨A4, c4, rfl, hl4, hC4⟩ := Kd.R_reads hv4; rw [HQL.out hg24] at hl4 hC4 ⊢; have HC4 := Aside0.mk (And.intro hl4 hC4); have HD4 := Aside0.mk (HD2.out.trans (((Below.refl _ w2).alloc (Nat.le_refl _) (.cells #[.string nm, .int .i64 n] 28) |>.trans (hb4.mono (by simp))).mono HD2.out.size)); have e0 := ((hb4.cell (p := ⟨w2.heap.size, 0, none⟩) (by simp)).trans (ent_cell w2 nm n).1); have e1 := ((hb4.cell (p := ⟨w2.heap.size, 1, none⟩) (by simp)).trans (ent_cell w2 nm n).2); clear hv4 hb4 hl4 hC4) | (refine ⟨trivial, ?_⟩; gi_at_call 41; refine (CallsIn.inRound l (callsIn_wide.2 (HEQ.out _ A4 c4 hg24 (Kd.C_below HCW.out HD4.out) HC4.out.2 HC4.out.1))).mono ?_; rintro e w5 ⟨rfl, hd5⟩; have HD5 := Aside0.mk (HD4.out.trans (hd5.below.mono HD4.out.size)); have HI5 := Aside0.mk (HI.out.go HD5.out); have r2 := HI5.out.b2.cell; have r3 := HI5.out.b3.cell; have z2 := HI5.out.b2.frozen; have z3 := HI5.out.b3.frozen; have f0 := (hd5.below.cell (lt_cell e0)).trans e0; have f1 := (hd5.below.cell (lt_cell e1)).trans e1; clear e0 e1 hd5; have r5 := HI5.out.b5.cell; have lk := look_seen HI5.out.mp nm HNS.out; rw [HSN.out] at lk) | (gi_at_mapUpdate; refine wpListIn_mapUpdate_own _ rfl _ _ _ 72 rfl 9 4 (Maps.string_keyed Try.underlying9) Try.underlying72 _ (N + 3) pre.length _ rfl HI5.out.mp (by have := HLA.out.2; unfold maxLen; omega) _ _ _ rfl rfl (WideMaps.keyOf_string_mk Try.underlying9 HNS.out) _ [] (plainElem_bool Try.underlying4 true) ?_; clear r2 r3 z2 z3 r5 lk; intro w6 hown6 hg6; obtain ⟨v5, hv6, hrow6, _⟩ := holdsRow_own N (N + 2) 42 28 2 (fun s : List S28 => s.length) flat28 (fun _ _ => True) acc _ _ _ HI5.out.b4 hg6 (fun r e => by cases e; obtain ⟨es, ck, hh, _⟩ := HI5.out.mp; exact ⟨_, hh, rfl⟩); have g0 := hg6.cell f0 (by have := HI2.out.sz; intro e; injection e with e; have e2 : w2.heap.size = N + 3 := e; omega); have g1 := hg6.cell f1 (by have := HI2.out.sz; intro e; injection e with e; have e2 : w2.heap.size = N + 3 := e; omega); have HU6 := Aside0.mk (And.intro hown6 (And.intro hg6 (And.intro hv6 hrow6))); clear f0 f1 hown6 hg6 hrow6; have c6 := hv6.cell; clear hv6) | (gi_at_builtin; refine wpListIn_append_own _ rfl _ _ 42 rfl N 28 i0 _ 2 24 Try.underlying42 HIN.out.1 HIN.out.2.1 HIN.out.2.2.1 HIN.out.2.2.2 rfl (by decide) v5 acc.length (flat28 acc) rfl (HU6.out.2.2.2.alloc _) ⟨w6.heap.size, 0, none⟩ 1 1 [.string nm, .int .i64 n] rfl rfl (ent_new _ _ _) (by simp [Value.oneCell']) (by have := HLA.out.1; unfold maxLen; omega) (by have := HLA.out.1; omega) (by have := HU6.out.2.2.1.lt; simp; omega) ?_; clear g0 g1 c6; intro v' w7 hown7 hg7 _; obtain ⟨g', cap', rfl⟩ := ownsRow_succ hown7; have HM := Aside0.mk (RI.more HI5.out HU6.out.1 HU6.out.2.1 HU6.out.2.2.1 HU6.out.2.2.2 hown7 hg7); have hv7 := (HU6.out.2.2.1.alloc _).kept hg7 (HU6.out.2.2.1.not_row (by decide) HU6.out.2.2.2); clear hown7 hg7; have c7 := hv7.cell; have y7 := hv7.frozen; clear hv7))
            have HM1 := HM.out.1
            have HK := (KeepsFrom.of_grownBy (grown_of_below HD5.out) (fun j e => by cases e)).trans HM.out.2
            rw [← hsz] at HK
            refine ⟨HK, ⟨HM1.b6.cell.trans HI.out.b6.cell.symm, HM1.b7.cell.trans HI.out.b7.cell.symm⟩, _, ?_, by rw [HLEN.out]; exact HM1⟩
            rw [HMAP.out, readGo_snoc, HGO.out]
            exact HS1.out hg24 (by rw [decide_eq_false HN0.out, decide_eq_false HG0.out]; decide) (by simp) (.inr (by simp))
          · gi_wp2_with (first | (refine ⟨trivial, ?_⟩; gi_at_call 40; refine (CallsIn.inRound l (callsIn_wide.2 (HGET.out _ HCW.out))).mono ?_; rintro e w2 ⟨rfl, hd⟩; have HI2 := Aside0.mk (HI.out.go hd.below); have HD2 := Aside0.mk hd.below; have r2 := HI2.out.b2.cell; have r3 := HI2.out.b3.cell; have z2 := HI2.out.b2.frozen; have z3 := HI2.out.b3.frozen; have hcell2 : w2.cell? ⟨B.block, B.off + 2, none⟩ = some (.int .u8 g) := (hd.below.cell (lt_cell HCELL.out)).trans HCELL.out; have cv := HCV.out w2 hg24 (Kd.C_below HCW.out hd.below); clear hd) | (refine ⟨trivial, ?_⟩; gi_at_call 37; refine (CallsIn.inRound l (callsIn_wide.2 (HPIE.out _ hg24))).mono ?_; clear r2 r3 z2 z3 hcell2 cv; rintro e w4 ⟨v4, rfl, hv4, hb4⟩; obtain ⟨A4, c4, rfl, hl4, hC4⟩ := Kd.R_reads hv4; rw [HQL.out hg24] at hl4 hC4 ⊢; have HC4 := Aside0.mk (And.intro hl4 hC4); have HD4 := Aside0.mk (HD2.out.trans (((Below.refl _ w2).alloc (Nat.le_refl _) (.cells #[.string nm, .int .i64 n] 28) |>.trans (hb4.mono (by simp))).mono HD2.out.size)); have e0 := ((hb4.cell (p := ⟨w2.heap.size, 0, none⟩) (by simp)).trans (ent_cell w2 nm n).1); have e1 := ((hb4.cell (p := ⟨w2.heap.size, 1, none⟩) (by simp)).trans (ent_cell w2 nm n).2); clear hv4 hb4 hl4 hC4) | (refine ⟨trivial, ?_⟩; gi_at_call 41; refine (CallsIn.inRound l (callsIn_wide.2 (HEQ.out _ A4 c4 hg24 (Kd.C_below HCW.out HD4.out) HC4.out.2 HC4.out.1))).mono ?_; rintro e w5 ⟨rfl, hd5⟩; have HD5 := Aside0.mk (HD4.out.trans (hd5.below.mono HD4.out.size)); have HI5 := Aside0.mk (HI.out.go HD5.out); have r2 := HI5.out.b2.cell; have r3 := HI5.out.b3.cell; have z2 := HI5.out.b2.frozen; have z3 := HI5.out.b3.frozen; have f0 := (hd5.below.cell (lt_cell e0)).trans e0; have f1 := (hd5.below.cell (lt_cell e1)).trans e1; clear e0 e1 hd5; have r5 := HI5.out.b5.cell; have lk := look_seen HI5.out.mp nm HNS.out; rw [HSN.out] at lk))
            have hf := HI5.out.fail (KeepsFrom.of_grownBy (grown_of_below HD5.out) (fun j e => by cases e))
            rw [← hsz] at hf
            exact ⟨hf.1, rfl, by rw [HMAP.out, readGo_snoc, HGO.out]; exact HF1.out (.inr (.inr (.inr ⟨HN0.out, by simp⟩))), hf.2.1, hf.2.2.1, hf.2.2.2.1, by rw [← hsz]; exact hf.2.2.2.2⟩
  case done =>
    rintro D ys W hD rfl ⟨acc, hgo, hI⟩ hK
    obtain ⟨v, hv, hrow, -⟩ := hI.b4
    have hvs : ∃ A n c, v = .slice A n c := by
      rcases hrow.2 with ⟨rfl, _⟩ | ⟨g, cap, cur, rfl, _⟩
      · exact ⟨_, _, _, rfl⟩
      · exact ⟨_, _, _, rfl⟩
    obtain ⟨Av, nv, cv, rfl⟩ := hvs
    have c4 := hv.cell
    have c2 := hI.b2.cell
    have c3 := hI.b3.cell
    have z2 := hI.b2.frozen
    have z3 := hI.b3.frozen
    gi_wp2
    have hK1 := (KeepsOthers.setCell W ⟨N, 0, none⟩ (.slice Av nv cv)).same D _ hK rfl
    have hK2 := (KeepsOthers.setCell _ ⟨N + 1, 0, none⟩ (.int .i64 0)).same D _ hK1 rfl
    refine ⟨by simp, .inl ⟨_, _, rfl, run_takeDeferred hK2, ?_⟩⟩
    have hg := grownBy_putObj' ((W.setCell ⟨N, 0, none⟩ (.slice Av nv cv)).setCell ⟨N + 1, 0, none⟩ (.int .i64 0)) D (.deferred none)
    have hs := hI.sz
    have o1 := hrow.kept (grownBy_setCell' W N (.slice Av nv cv)) (.inr (fun e => hI.b2.not_row (by decide) hrow e.symm))
    have b31 := hI.b3.other (B' := N) (by omega) (.slice Av nv cv)
    have o2 := o1.kept (grownBy_setCell' _ (N + 1) (.int .i64 0)) (.inr (fun e => b31.not_row (by decide) o1 e.symm))
    have o3 := ownsRow_putObj o2 (.deferred none) hK2 rfl
    have k2 := (((hI.b2.set (.slice Av nv cv)).other (B' := N + 1) (by omega) (.int .i64 0)).kept hg (fun e => by injection e with e; omega)).cell
    have k3 := ((b31.set (.int .i64 0)).kept hg (fun e => by injection e with e; omega)).cell
    have hrm : readM l0 = (acc, 0) := by
      unfold readM
      rw [← chunks_fin l0 m hm, hgo]
    refine ⟨.tuple #[.slice Av nv cv, .int .i64 0], ?_, ?_⟩
    · simp [results, Try.f29, go_sem, k2, k3]
    · refine ⟨.slice Av nv cv, by rw [hrm], ?_, ?_⟩
      · rw [hrm, hN]
        exact R28_of o3
      · rw [hN]
        exact ((hI.below.setCell (p := ⟨N, 0, none⟩) (Nat.le_refl _) _).setCell (p := ⟨N + 1, 0, none⟩) (Nat.le_succ _) _).trans (belowK_b (w := WL) (by omega) _ D _ _ hD hK2 rfl rfl)
  case stop =>
    rintro D c pre W hD hpre ⟨rfl, hgo, h2, h3, hb, hs⟩ hK
    gi_wp2
    refine ⟨by simp, .inl ⟨_, _, rfl, run_takeDeferred hK, ?_⟩⟩
    have hg := grownBy_putObj' W D (.deferred none)
    have k2 := (h2.kept hg (fun e => by injection e with e; omega)).cell
    have k3 := (h3.kept hg (fun e => by injection e with e; omega)).cell
    refine ⟨.tuple #[.slice none 0 0, .int .i64 11], ?_, ?_⟩
    · simp [results, Try.f29, go_sem, k2, k3]
    · have hrm : readM l0 = ([], 11) := by
        unfold readM
        rw [← chunks_fin l0 m hm, readGo_prefix (hpre.map _) hgo]
      refine ⟨.slice none 0 0, by rw [hrm], ?_, ?_⟩
      · rw [hrm, hN]
        exact R28_of (World.ownsRow_nil _ _ _ _)
      · rw [hN]
        exact hb.trans (belowK_b (w := WL) (by omega) _ D _ _ hD hK rfl rfl)
end Go.Proofs.Ytkkflgdobgbmmaa.Q
end
section
/- entries.read at every length. -/
namespace Go.Proofs.Ytkkflgdobgbmmaa.Q
open Go.RowKit Go.Shelf Go.Proofs.YtkkflgdobgbmmaaW.PrintWords Go.Proofs.YtkkflgdobgbmmaaW.PrintLast Go.Proofs.YtkkflgdobgbmmaaW.PrintMore Go.Proofs.Ytkkflgdobgbmmaa.Pure
attribute [local go_sem] max2_int min2_int max_two min_two max_three min_three max_four min_four
set_option linter.unusedVariables false
set_option linter.unusedSimpArgs false
/-- What entries.read hands back. -/
def readV (l : List Int) : List S28 × Int := if l.length % 32 = 0 then readM l else ([], 11)
set_option maxRecDepth 100000 in
set_option maxHeartbeats 4000000 in
theorem read.calls (A0 : Option Addr) (c0 : Nat) (l0 : List Int) (w : World) (hr0 : Kd.C (Kd.int .u8) w A0 l0.length l0) (hc0 : l0.length ≤ c0) (hL : l0.length ≤ 140737488351232) (hu : u8s l0) :
    Calls Try.prog 29 #[.slice A0 l0.length c0] w fun e w' => ∃ v0_ : Value, e = .returned (.tuple #[v0_, .int .i64 (readV l0).2]) ∧ Kd.R k28 28 w' w.heap.size (fun _ => True) v0_ (readV l0).1 ∧ Below w.heap.size w w' := by
  by_cases h : l0.length % 32 = 0
  · have := callsIn_wide.1 (read.in A0 c0 (l0.length / 32) l0 w hr0 hc0 (by omega) hL hu)
    unfold readV
    rw [if_pos h]
    exact this
  · unfold readV
    rw [if_neg h]
    obtain ⟨d, hd⟩ : ∃ d, Int.tmod (l0.length : Int) 32 = d := ⟨_, rfl⟩
    have hd0 : d ≠ 0 := by rw [← hd, Int.tmod_eq_emod_of_nonneg (by omega)]; omega
    obtain ⟨L, hLn⟩ : ∃ L, l0.length = L := ⟨_, rfl⟩
    rw [hLn] at hd ⊢
    have hdb : (d != 0) = true := by simp [hd0]
    have hdz : ¬ d = 0 := hd0
    have b0 := Boxed.new w 42 (.slice none 0 0)
    have b1 := Boxed.new (w.alloc (.cells #[.slice none 0 0] 42)) 24 (.int .i64 11)
    rw [World.size_alloc] at b1
    have b2 := b0.alloc (.cells #[.int .i64 11] 24)
    have k0 := b2.cell
    have k1 := b1.cell
    have HB := Aside0.mk (show Below w.heap.size w ((w.alloc (.cells #[.slice none 0 0] 42)).alloc (.cells #[.int .i64 11] 24)) from below_alloc (below_alloc (Below.refl _ _) _) _)
    clear hr0 hu h hLn hL hc0 b0 b1 b2
    go_enter Try.func29, Try.ntmps29
    go_wp2
    refine bodyPost_ret (v := .tuple #[.slice none 0 0, .int .i64 11]) ?_ rfl ?_
    · simp [results, Try.f29, go_sem, k0, k1]
    · exact ⟨_, rfl, R28_of (World.ownsRow_nil _ _ _ _), HB.out⟩
end Go.Proofs.Ytkkflgdobgbmmaa.Q
end
section
namespace Go.Proofs.Ytkkflgdobgbmmaa.Q
open Go.RowKit Go.Proofs.YtkkflgdobgbmmaaW.PrintWords Go.Proofs.YtkkflgdobgbmmaaW.PrintLast Go.Proofs.YtkkflgdobgbmmaaW.PrintMore
attribute [local go_sem] max2_int min2_int max_two min_two max_three min_three max_four min_four   -- for this text's walks alone
set_option linter.unusedVariables false
set_option linter.unusedSimpArgs false

-- EXT entries_read: function 29
/-! ### entries_read: function 29 -/
-- IMPORT HReadW
def entries_read.f (l0 : List Int) : Option (List (S28) × Int) := if l0.length ≤ 140737488351232 ∧ u8s l0 then some (readV l0) else none
theorem entries_read.calls (A0 : Option Addr) (c0 : Nat) (l0 : List Int) (r1 : List (S28)) (r2 : Int) (w : World) (hr0 : Kd.C (Kd.int .u8) w A0 l0.length l0) (hc0 : l0.length ≤ c0) (h : entries_read.f l0 = some (r1, r2)) :
    Calls Try.prog 29 #[.slice A0 l0.length c0] w fun e w' => ∃ v0_ : Value, e = .returned (.tuple #[v0_, .int .i64 r2]) ∧ Kd.R k28 28 w' w.heap.size (fun _ => True) v0_ r1 ∧ Below w.heap.size w w' := by
  unfold entries_read.f at h
  split at h
  · rename_i c
    injection h with h
    have := read.calls A0 c0 l0 w hr0 hc0 c.1 c.2
    rw [h] at this
    exact this
  · cases h

end Go.Proofs.Ytkkflgdobgbmmaa.Q
end
section
namespace Go.Proofs.Ytkkflgdobgbmmaa.Q
open Go.RowKit Go.Proofs.YtkkflgdobgbmmaaW.PrintWords Go.Proofs.YtkkflgdobgbmmaaW.PrintLast Go.Proofs.YtkkflgdobgbmmaaW.PrintMore
attribute [local go_sem] max2_int min2_int max_two min_two max_three min_three max_four min_four   -- for this text's walks alone
set_option linter.unusedVariables false
set_option linter.unusedSimpArgs false

-- EXT entries_at: function 30
/-! ### entries_at: function 30 -/
-- IMPORT HAt
def entries_at.f (l0 : List (S28)) (a1 : ByteArray) : Option Int := some (findAt (hitE a1) 0 l0)
theorem entries_at.calls (A0 : Option Addr) (c0 : Nat) (l0 : List (S28)) (a1 : ByteArray) (r : Int) (w : World) (hr0 : Kd.C k28 w A0 l0.length l0) (hc0 : l0.length ≤ c0) (h : entries_at.f l0 a1 = some r) :
    Calls Try.prog 30 #[.slice A0 l0.length c0, .string a1] w fun e w' => e = .returned (.int .i64 r) ∧ Below w.heap.size w w' := by
  injection h with h
  subst h
  exact at.calls _ _ _ _ _ hr0 hc0

end Go.Proofs.Ytkkflgdobgbmmaa.Q
end
section
/- Directories' bytes, read and written, and what is done with them: the program's, and the reference's. -/
namespace Go.Proofs.Ytkkflgdobgbmmaa.Pure
open Go.RowKit Go.Proofs.Ytkkflgdobgbmmaa.Q Go.Proofs.YtkkflgdobgbmmaaW.PrintWords Go.Proofs.YtkkflgdobgbmmaaW.PrintLast Go.Proofs.YtkkflgdobgbmmaaW.PrintMore
set_option linter.unusedVariables false
set_option linter.unusedSimpArgs false

/-! names that may be -/
def ckV (s : ByteArray) : Int := if s.size < 1 ∨ s.size > 24 ∨ s.data.toList.any badB = true ∨ s.toList = [46] ∨ s.toList = [46, 46] then 26 else 0
theorem check_eq (s : ByteArray) : entries_Check.f s = some (ckV s) := by
  unfold entries_Check.f ckV
  by_cases h1 : (s.size : Int) < 1
  · rw [if_pos h1, if_pos (Or.inl (by omega))]
  · rw [if_neg h1]
    by_cases h2 : (s.size : Int) > 24
    · rw [if_pos h2, if_pos (Or.inr (Or.inl (by omega)))]
    · have hc : strings_ContainsAny.f s (⟨#[47, 0]⟩ : ByteArray) = some (s.data.toList.any badB) := by unfold strings_ContainsAny.f; rw [if_pos ⟨by omega, rfl⟩]
      rw [if_neg h2, hc, Option.bind_some]
      have h3 : ¬ s.size < 1 := by omega
      have h4 : ¬ s.size > 24 := by omega
      by_cases h5 : s.data.toList.any badB = true
      · rw [if_pos h5, if_pos (Or.inr (Or.inr (Or.inl h5)))]
      · rw [if_neg h5]
        by_cases h6 : s.toList = [46]
        · rw [if_pos h6, if_pos (Or.inr (Or.inr (Or.inr (Or.inl h6))))]
        · rw [if_neg h6]
          by_cases h7 : s.toList = [46, 46]
          · rw [if_pos h7, if_pos (Or.inr (Or.inr (Or.inr (Or.inr h7))))]
          · rw [if_neg h7, if_neg (by rintro (h | h | h | h | h) <;> contradiction)]
theorem data_len (s : ByteArray) : s.data.toList.length = s.size := by rw [Array.length_toList]; rfl
theorem ckV_cases (s : ByteArray) : ckV s = 26 ∨ ckV s = 0 := by unfold ckV; split <;> simp
theorem ckV_zero {s : ByteArray} (h : ckV s = 0) : 1 ≤ s.size ∧ s.size ≤ 24 ∧ s.toList ≠ [46, 46] := by
  unfold ckV at h
  split at h
  · cases h
  · rename_i c
    refine ⟨?_, ?_, ?_⟩
    · exact Nat.le_of_not_lt fun e => c (Or.inl e)
    · exact Nat.le_of_not_lt fun e => c (Or.inr (Or.inl e))
    · exact fun e => c (Or.inr (Or.inr (Or.inr (Or.inr e))))

/-! strings of bytes -/
theorem str_ext {a b : ByteArray} (h : a.data.toList = b.data.toList) : a = b := by
  cases a; cases b; congr 1; exact Array.toList_inj.mp h
theorem str_size (x : List Int) : (strOfNums x).size = x.length := by rw [← data_len, strOfNums_data, List.length_map]
theorem bytesOf_u8s (s : ByteArray) : u8s (bytesOf s) := by
  intro v hv
  unfold bytesOf at hv
  obtain ⟨b, -, rfl⟩ := List.mem_map.mp hv
  have := b.toNat_lt
  omega
theorem str_bytesOf (s : ByteArray) : strOfNums (bytesOf s) = s := by
  apply str_ext
  rw [strOfNums_data]
  unfold bytesOf
  rw [List.map_map]
  have : ∀ l : List UInt8, l.map ((fun n : Int => UInt8.ofNat n.toNat) ∘ fun b : UInt8 => (b.toNat : Int)) = l := by
    intro l
    induction l with
    | nil => rfl
    | cons a l ih => rw [List.map_cons, ih]; congr 1; simp
  exact this _
theorem str_eq_iff (a b : ByteArray) : (a.toList = b.toList) ↔ a = b := by
  rw [Go.ByteArray.toList_eq, Go.ByteArray.toList_eq]
  exact ⟨str_ext, fun e => by rw [e]⟩
theorem u8s_append {x y : List Int} (hx : u8s x) (hy : u8s y) : u8s (x ++ y) := fun v hv => (List.mem_append.mp hv).elim (hx v) (hy v)
theorem u8s_drop {l : List Int} (h : u8s l) (n : Nat) : u8s (l.drop n) := fun x hx => h x (List.mem_of_mem_drop hx)

/-! pieces -/
theorem pieceL_len (nm : List Int) (n : Int) : (pieceL nm n).length = 32 := by unfold pieceL; rw [padV_length]; rfl
theorem leb2 (n : Int) : lebytes 2 n = [n % 256, n / 256 % 256] := rfl
theorem padV_u8s {l : List Int} (h : u8s l) (n : Int) : u8s (padV l n) := by
  unfold padV
  exact u8s_append (u8s_take h _) (fun v hv => by rw [List.eq_of_mem_replicate hv]; omega)
theorem pieceL_u8s (nm : List Int) (h : u8s nm) (n : Int) : u8s (pieceL nm n) := by
  unfold pieceL
  refine padV_u8s (u8s_append (u8s_append (lebytes_u8s _ _) ?_) h) _
  intro v hv
  rw [List.mem_singleton.mp hv]
  omega
theorem epiece_eq (nm : ByteArray) (n : Int) (h0 : 0 ≤ n) (h1 : n < 65536) (hs : nm.size ≤ 29) : entries_piece.f nm n = some (pieceL (bytesOf nm) n) := by
  unfold entries_piece.f
  rw [if_pos (by omega)]

/-! a piece's parts -/
theorem pieceL_form (nm : List Int) (n : Int) (h : nm.length ≤ 24) : pieceL nm n = [n % 256, n / 256 % 256, (nm.length : Int)] ++ nm ++ List.replicate (29 - nm.length) 0 := by
  unfold pieceL padV
  have hl : (lebytes 2 n ++ [(nm.length : Int) % 256] ++ nm).length = 3 + nm.length := by rw [List.length_append, List.length_append, lebytes_length]; rfl
  rw [show (32 : Int).toNat = 32 from rfl, List.take_of_length_le (by omega), hl, show 32 - (3 + nm.length) = 29 - nm.length by omega, leb2, show (nm.length : Int) % 256 = nm.length by omega]
  rfl
theorem pcL_piece (nm : List Int) (n : Int) (h : nm.length ≤ 24) : pcL (pieceL nm n) = nm.length := by
  unfold pcL
  rw [pieceL_form nm n h]
  rfl
theorem pcN_piece (nm : List Int) (n : Int) (h : nm.length ≤ 24) (h0 : 0 ≤ n) (h1 : n < 65536) : pcN (pieceL nm n) = n := by
  unfold pcN
  rw [pieceL_form nm n h]
  show leval [n % 256, n / 256 % 256] = n
  simp only [leval]
  omega
theorem pcE_piece (nm : ByteArray) (n : Int) (h : nm.size ≤ 24) (h0 : 0 ≤ n) (h1 : n < 65536) : pcE (pieceL (bytesOf nm) n) = ⟨nm, n⟩ := by
  have hb := bytesOf_length nm
  unfold pcE
  rw [pcL_piece _ n (by omega), pcN_piece _ n (by omega) h0 h1, Int.toNat_natCast, pieceL_form _ n (by omega)]
  congr 1
  rw [List.append_assoc, List.drop_append_of_le_length (by simp), show ([n % 256, n / 256 % 256, ((bytesOf nm).length : Int)]).drop 3 = [] from rfl, List.nil_append, List.take_left', str_bytesOf]
  rfl

/-! entries -/
/-- What an entry that was read is. -/
structure EntOk (x : S28) : Prop where
  lo : 0 ≤ x.f1
  hi : x.f1 < 65536
  nm : x.f0.size ≤ 24
  fr : x.f1 = 0 ↔ x.f0.size = 0
theorem rd28 (l : List S28) (i : Nat) (h : i < l.length) : rd_T28 l (i : Int) = l[i] := by simp [rd_T28, List.getD_eq_getElem?_getD, List.getElem?_eq_getElem h]
def pieceOf (x : S28) : List Int := pieceL (bytesOf x.f0) x.f1
def bytesL (l : List S28) : List Int := l.flatMap pieceOf
theorem bytesL_length (l : List S28) : (bytesL l).length = 32 * l.length := by
  unfold bytesL
  induction l with
  | nil => rfl
  | cons x l ih => rw [List.flatMap_cons, List.length_append, ih, List.length_cons, pieceOf, pieceL_len]; omega
theorem bytesL_append (l m : List S28) : bytesL (l ++ m) = bytesL l ++ bytesL m := List.flatMap_append
theorem bytesL_one (x : S28) : bytesL [x] = pieceOf x := by simp [bytesL]
theorem bytesL_u8s (l : List S28) : u8s (bytesL l) := by
  intro v hv
  obtain ⟨x, -, h⟩ := List.mem_flatMap.mp hv
  exact pieceL_u8s _ (bytesOf_u8s _) _ v h
theorem bytesL_snoc (l : List S28) (i : Nat) (h : i < l.length) : bytesL (l.take (i + 1)) = bytesL (l.take i) ++ pieceOf l[i] := by
  rw [List.take_succ_eq_append_getElem h, bytesL_append, bytesL_one]
theorem bytes_loop (l : List S28) (hl : l.length ≤ 1000000) (ho : ∀ x ∈ l, 0 ≤ x.f1 ∧ x.f1 < 65536 ∧ x.f0.size ≤ 24) (d : Nat) : ∀ (k i : Nat), l.length - i = d → i ≤ l.length → d < k →
    entries_bytes.l0 k (bytesL (l.take i)) l (l.length : Int) i = some (bytesL l) := by
  induction d with
  | zero =>
    intro k i hd hi hk
    obtain ⟨k, rfl⟩ : ∃ m, k = m + 1 := ⟨k - 1, by omega⟩
    simp only [entries_bytes.l0]
    rw [if_neg (by omega), List.take_of_length_le (by omega)]
  | succ d ih =>
    intro k i hd hi hk
    obtain ⟨k, rfl⟩ : ∃ m, k = m + 1 := ⟨k - 1, by omega⟩
    have hil : i < l.length := by omega
    have hx := ho l[i] (List.getElem_mem hil)
    simp only [entries_bytes.l0]
    rw [if_pos (by omega), if_pos (by omega), if_pos (by omega), rd28 l i hil, epiece_eq _ _ hx.1 hx.2.1 (by omega), Option.bind_some, if_pos (by rw [bytesL_length, List.length_take, pieceL_len]; omega), wrap64_id (by omega) (by omega)]
    have := ih k (i + 1) (by omega) (by omega) (by omega)
    rw [bytesL_snoc l i hil] at this
    exact this
theorem bytes_eq (k : Nat) (l : List S28) (hl : l.length ≤ 1000000) (hk : l.length < k) (ho : ∀ x ∈ l, 0 ≤ x.f1 ∧ x.f1 < 65536 ∧ x.f0.size ≤ 24) : entries_bytes.f k l = some (bytesL l) := by
  unfold entries_bytes.f
  exact bytes_loop l hl ho l.length k 0 (by omega) (by omega) hk
end Go.Proofs.Ytkkflgdobgbmmaa.Pure
end
section
namespace Go.Proofs.Ytkkflgdobgbmmaa.Q
open Go.RowKit Go.Proofs.YtkkflgdobgbmmaaW.PrintWords Go.Proofs.YtkkflgdobgbmmaaW.PrintLast Go.Proofs.YtkkflgdobgbmmaaW.PrintMore
attribute [local go_sem] max2_int min2_int max_two min_two max_three min_three max_four min_four   -- for this text's walks alone
set_option linter.unusedVariables false
set_option linter.unusedSimpArgs false

/-! ### entries_found: function 25 -/
def entries_found.f (l0 : List Int) (a1 : ByteArray) : Option ((List (S28)) × Int × Int) := (entries_read.f l0).bind fun bt110 => (if bt110.2 = 0 then ((entries_at.f bt110.1 a1).bind fun t114 => (if t114 < 0 then (some (([] : List (S28)), 0, 21)) else (some (bt110.1, t114, 0)))) else (some (([] : List (S28)), 0, bt110.2)))
set_option maxHeartbeats 8000000 in
set_option maxRecDepth 100000 in
theorem entries_found.calls (A0 : Option Addr) (c0 : Nat) (l0 : List Int) (a1 : ByteArray) (r1 : List (S28)) (r2 : Int) (r3 : Int) (w : World) (hr0 : Kd.C (Kd.int .u8) w A0 l0.length l0) (hc0 : l0.length ≤ c0) (h : entries_found.f l0 a1 = some (r1, r2, r3)) :
    Calls Try.prog 25 #[.slice A0 l0.length c0, .string a1] w fun e w' => ∃ v0_ : Value, e = .returned (.tuple #[v0_, .int .i64 r2, .int .i64 r3]) ∧ Kd.R k28 28 w' w.heap.size (fun _ => True) v0_ r1 ∧ Below w.heap.size w w' := by
  have HR0 := Aside0.mk hr0
  have HC0 := Aside0.mk hc0
  clear hr0 hc0
  have HB := Aside0.mk (Below.refl w.heap.size w)
  have H : ((entries_read.f l0).bind fun bt110 => (if bt110.2 = 0 then ((entries_at.f bt110.1 a1).bind fun t114 => (if t114 < 0 then (some (([] : List (S28)), 0, 21)) else (some (bt110.1, t114, 0)))) else (some (([] : List (S28)), 0, bt110.2)))) = some (r1, r2, r3) := h
  clear h
  replace H := Option.bind_eq_some_iff.mp H
  obtain ⟨⟨t110, t111⟩, A30, H⟩ := H
  replace H : (if t111 = 0 then ((entries_at.f t110 a1).bind fun t114 => (if t114 < 0 then (some (([] : List (S28)), 0, 21)) else (some (t110, t114, 0)))) else (some (([] : List (S28)), 0, t111))) = some (r1, r2, r3) := H
  have A3 := Aside0.mk A30
  clear A30
  by_cases c4 : t111 = 0
  · rw [if_pos c4] at H
    have c4b0 : (t111 == 0) = true := beq_iff_eq.mpr c4
    have c4b1 : (t111 != 0) = false := bne_eq_false_iff_eq.mpr c4
    clear c4
    replace H := Option.bind_eq_some_iff.mp H
    obtain ⟨t114, A50, H⟩ := H
    replace H : (if t114 < 0 then (some (([] : List (S28)), 0, 21)) else (some (t110, t114, 0))) = some (r1, r2, r3) := H
    have A5 := Aside0.mk A50
    clear A50
    by_cases c6 : t114 < 0
    · rw [if_pos c6] at H
      have c6b0 : decide (t114 < 0) = true := decide_eq_true c6
      clear c6
      simp only [Option.some.injEq, Prod.mk.injEq] at H
      obtain ⟨rfl, rfl, rfl⟩ := H
      go_enter Try.func25, Try.ntmps25
      go_wp2_with (first | ((with_reducible refine gate_callee (f := 29) rfl ?_); refine goesL_ (some 12) rfl rfl Try.func29 (by kernel_rfl) rfl #[.slice A0 l0.length c0] rfl (by (try simp only [List.map_toArray, List.map_cons, List.map_nil]); first | done | rfl | (simp only [List.length_drop, List.length_take]; rfl)) ?_; (with_reducible refine (entries_read.calls _ _ l0 t110 t111 _ ?side1 ?side2 A3.out).mono ?_); (case side1 => repeat (first | exact HR0.out | (with_reducible refine Kd.C_alloc ?_ _) | (with_reducible refine Kd.C_drewN ?_ _) | (with_reducible refine Kd.C_drew ?_))); (case side2 => exact HC0.out); rintro e w7 ⟨v112, rfl, ho0, hb⟩; refine ⟨_, rfl, ?_⟩; have n0_ := Aside0.mk (Kd.R_lower ho0 (below_size (by repeat (first | (with_reducible first | exact HB.out | apply below_alloc | apply pw_below_drewN | apply below_drew1) | exact HB.out)))); have n1_ := Aside0.mk (below_step (by repeat (first | (with_reducible first | exact HB.out | apply below_alloc | apply pw_below_drewN | apply below_drew1) | exact HB.out)) hb); clear HB; have HO113 := n0_; have HB := n1_; clear n0_ n1_; (try clear hb); (try clear hb2); (try clear hk); (try clear hi); (try clear ho0); obtain ⟨Ao8, co8, eo8⟩ := Kd.R_slice HO113.out; subst eo8) | ((with_reducible refine gate_callee (f := 30) rfl ?_); refine goesL_ (some 20) rfl rfl Try.func30 (by kernel_rfl) rfl #[.slice Ao8 t110.length co8, .string a1] rfl (by (try simp only [List.map_toArray, List.map_cons, List.map_nil]); first | done | rfl | (simp only [List.length_drop, List.length_take]; rfl)) ?_; (with_reducible refine (entries_at.calls _ _ t110 a1 t114 _ ?side1 ?side2 A5.out).mono ?_); (case side1 => repeat (first | exact (Kd.R_reads' HO113.out).2.2 | (with_reducible refine Kd.C_alloc ?_ _) | (with_reducible refine Kd.C_drewN ?_ _) | (with_reducible refine Kd.C_drew ?_))); (case side2 => exact (Kd.R_reads' HO113.out).2.1); rintro e w9 ⟨rfl, hb⟩; refine ⟨_, rfl, ?_⟩; have n0_ := Aside0.mk (Kd.R_below (by (with_reducible repeat (first | apply Kd.R_alloc | apply Kd.R_drewN | apply Kd.R_drew)); exact HO113.out) hb); have n1_ := Aside0.mk (below_step (by repeat (first | (with_reducible first | exact HB.out | apply below_alloc | apply pw_below_drewN | apply below_drew1) | exact HB.out)) hb); clear HO113; clear HB; have HO113 := n0_; have HB := n1_; clear n0_ n1_; (try clear hb); (try clear hb2); (try clear hk); (try clear hi)))
      go_ret3
      exact ⟨_, by first | rfl | (simp [errW_none, errW_some] <;> rfl) | (simp [*, errW_none, errW_some] <;> rfl), by first | exact Kd.R_nil _ _ _ _ _ | exact Kd.N_nil _ _ _ _ _ | exact Kd.V_nil _ _ _ _ _ | exact Kd.Q_nil _ _ _ _ _ | exact Kd.S_nil _ _ _ _ _, by repeat (first | (with_reducible first | exact HB.out | apply below_alloc | apply pw_below_drewN | apply below_drew1) | exact HB.out)⟩
    · rw [if_neg c6] at H
      have c6b0 : decide (t114 < 0) = false := decide_eq_false c6
      clear c6
      simp only [Option.some.injEq, Prod.mk.injEq] at H
      obtain ⟨rfl, rfl, rfl⟩ := H
      go_enter Try.func25, Try.ntmps25
      go_wp2_with (first | ((with_reducible refine gate_callee (f := 29) rfl ?_); refine goesL_ (some 12) rfl rfl Try.func29 (by kernel_rfl) rfl #[.slice A0 l0.length c0] rfl (by (try simp only [List.map_toArray, List.map_cons, List.map_nil]); first | done | rfl | (simp only [List.length_drop, List.length_take]; rfl)) ?_; (with_reducible refine (entries_read.calls _ _ l0 t110 t111 _ ?side1 ?side2 A3.out).mono ?_); (case side1 => repeat (first | exact HR0.out | (with_reducible refine Kd.C_alloc ?_ _) | (with_reducible refine Kd.C_drewN ?_ _) | (with_reducible refine Kd.C_drew ?_))); (case side2 => exact HC0.out); rintro e w10 ⟨v112, rfl, ho0, hb⟩; refine ⟨_, rfl, ?_⟩; have n0_ := Aside0.mk (Kd.R_lower ho0 (below_size (by repeat (first | (with_reducible first | exact HB.out | apply below_alloc | apply pw_below_drewN | apply below_drew1) | exact HB.out)))); have n1_ := Aside0.mk (below_step (by repeat (first | (with_reducible first | exact HB.out | apply below_alloc | apply pw_below_drewN | apply below_drew1) | exact HB.out)) hb); clear HB; have HO113 := n0_; have HB := n1_; clear n0_ n1_; (try clear hb); (try clear hb2); (try clear hk); (try clear hi); (try clear ho0); obtain ⟨Ao11, co11, eo11⟩ := Kd.R_slice HO113.out; subst eo11) | ((with_reducible refine gate_callee (f := 30) rfl ?_); refine goesL_ (some 20) rfl rfl Try.func30 (by kernel_rfl) rfl #[.slice Ao11 t110.length co11, .string a1] rfl (by (try simp only [List.map_toArray, List.map_cons, List.map_nil]); first | done | rfl | (simp only [List.length_drop, List.length_take]; rfl)) ?_; (with_reducible refine (entries_at.calls _ _ t110 a1 t114 _ ?side1 ?side2 A5.out).mono ?_); (case side1 => repeat (first | exact (Kd.R_reads' HO113.out).2.2 | (with_reducible refine Kd.C_alloc ?_ _) | (with_reducible refine Kd.C_drewN ?_ _) | (with_reducible refine Kd.C_drew ?_))); (case side2 => exact (Kd.R_reads' HO113.out).2.1); rintro e w12 ⟨rfl, hb⟩; refine ⟨_, rfl, ?_⟩; have n0_ := Aside0.mk (Kd.R_below (by (with_reducible repeat (first | apply Kd.R_alloc | apply Kd.R_drewN | apply Kd.R_drew)); exact HO113.out) hb); have n1_ := Aside0.mk (below_step (by repeat (first | (with_reducible first | exact HB.out | apply below_alloc | apply pw_below_drewN | apply below_drew1) | exact HB.out)) hb); clear HO113; clear HB; have HO113 := n0_; have HB := n1_; clear n0_ n1_; (try clear hb); (try clear hb2); (try clear hk); (try clear hi)))
      go_ret3
      exact ⟨_, by first | rfl | (simp [errW_none, errW_some] <;> rfl) | (simp [*, errW_none, errW_some] <;> rfl), by (with_reducible repeat (first | apply Kd.R_alloc | apply Kd.R_drewN | apply Kd.R_drew)); exact HO113.out, by repeat (first | (with_reducible first | exact HB.out | apply below_alloc | apply pw_below_drewN | apply below_drew1) | exact HB.out)⟩
  · rw [if_neg c4] at H
    have c4b0 : (t111 == 0) = false := beq_eq_false_iff_ne.mpr c4
    have c4b1 : (t111 != 0) = true := bne_iff_ne.mpr c4
    simp only [Option.some.injEq, Prod.mk.injEq] at H
    obtain ⟨rfl, rfl, rfl⟩ := H
    go_enter Try.func25, Try.ntmps25
    go_wp2_with (first | ((with_reducible refine gate_callee (f := 29) rfl ?_); refine goesL_ (some 12) rfl rfl Try.func29 (by kernel_rfl) rfl #[.slice A0 l0.length c0] rfl (by (try simp only [List.map_toArray, List.map_cons, List.map_nil]); first | done | rfl | (simp only [List.length_drop, List.length_take]; rfl)) ?_; (with_reducible refine (entries_read.calls _ _ l0 t110 t111 _ ?side1 ?side2 A3.out).mono ?_); (case side1 => repeat (first | exact HR0.out | (with_reducible refine Kd.C_alloc ?_ _) | (with_reducible refine Kd.C_drewN ?_ _) | (with_reducible refine Kd.C_drew ?_))); (case side2 => exact HC0.out); rintro e w13 ⟨v112, rfl, ho0, hb⟩; refine ⟨_, rfl, ?_⟩; have n0_ := Aside0.mk (Kd.R_lower ho0 (below_size (by repeat (first | (with_reducible first | exact HB.out | apply below_alloc | apply pw_below_drewN | apply below_drew1) | exact HB.out)))); have n1_ := Aside0.mk (below_step (by repeat (first | (with_reducible first | exact HB.out | apply below_alloc | apply pw_below_drewN | apply below_drew1) | exact HB.out)) hb); clear HB; have HO113 := n0_; have HB := n1_; clear n0_ n1_; (try clear hb); (try clear hb2); (try clear hk); (try clear hi); (try clear ho0)))
    go_ret3
    exact ⟨_, by first | rfl | (simp [errW_none, errW_some] <;> rfl) | (simp [*, errW_none, errW_some] <;> rfl), by first | exact Kd.R_nil _ _ _ _ _ | exact Kd.N_nil _ _ _ _ _ | exact Kd.V_nil _ _ _ _ _ | exact Kd.Q_nil _ _ _ _ _ | exact Kd.S_nil _ _ _ _ _, by repeat (first | (with_reducible first | exact HB.out | apply below_alloc | apply pw_below_drewN | apply below_drew1) | exact HB.out)⟩

end Go.Proofs.Ytkkflgdobgbmmaa.Q
end
section
namespace Go.Proofs.Ytkkflgdobgbmmaa.Q
open Go.RowKit Go.Proofs.YtkkflgdobgbmmaaW.PrintWords Go.Proofs.YtkkflgdobgbmmaaW.PrintLast Go.Proofs.YtkkflgdobgbmmaaW.PrintMore
attribute [local go_sem] max2_int min2_int max_two min_two max_three min_three max_four min_four   -- for this text's walks alone
set_option linter.unusedVariables false
set_option linter.unusedSimpArgs false

/-! ### entries_Find: function 12 -/
def entries_Find.f (l0 : List Int) (a1 : ByteArray) : Option (Int × Int) := (entries_found.f l0 a1).bind fun bt115 => (if bt115.2.2 = 0 then (if 0 ≤ bt115.2.1 then (if bt115.2.1 < (bt115.1.length : Int) then (some ((rd_T28 bt115.1 bt115.2.1).f1, 0)) else (none)) else (none)) else (some (0, bt115.2.2)))
set_option maxHeartbeats 8000000 in
set_option maxRecDepth 100000 in
theorem entries_Find.calls (A0 : Option Addr) (c0 : Nat) (l0 : List Int) (a1 : ByteArray) (r1 : Int) (r2 : Int) (w : World) (hr0 : Kd.C (Kd.int .u8) w A0 l0.length l0) (hc0 : l0.length ≤ c0) (h : entries_Find.f l0 a1 = some (r1, r2)) :
    Calls Try.prog 12 #[.slice A0 l0.length c0, .string a1] w fun e w' => e = .returned (.tuple #[.int .i64 r1, .int .i64 r2]) ∧ Below w.heap.size w w' := by
  have HR0 := Aside0.mk hr0
  have HC0 := Aside0.mk hc0
  clear hr0 hc0
  have HB := Aside0.mk (Below.refl w.heap.size w)
  have H : ((entries_found.f l0 a1).bind fun bt115 => (if bt115.2.2 = 0 then (if 0 ≤ bt115.2.1 then (if bt115.2.1 < (bt115.1.length : Int) then (some ((rd_T28 bt115.1 bt115.2.1).f1, 0)) else (none)) else (none)) else (some (0, bt115.2.2)))) = some (r1, r2) := h
  clear h
  replace H := Option.bind_eq_some_iff.mp H
  obtain ⟨⟨t115, t116, t117⟩, A30, H⟩ := H
  replace H : (if t117 = 0 then (if 0 ≤ t116 then (if t116 < (t115.length : Int) then (some ((rd_T28 t115 t116).f1, 0)) else (none)) else (none)) else (some (0, t117))) = some (r1, r2) := H
  have A3 := Aside0.mk A30
  clear A30
  by_cases c4 : t117 = 0
  · rw [if_pos c4] at H
    have c4b0 : (t117 == 0) = true := beq_iff_eq.mpr c4
    have c4b1 : (t117 != 0) = false := bne_eq_false_iff_eq.mpr c4
    clear c4
    by_cases c5 : 0 ≤ t116
    · rw [if_pos c5] at H
      have c5b0 : decide (0 ≤ t116) = true := decide_eq_true c5
      clear c5
      by_cases c6 : t116 < (t115.length : Int)
      · rw [if_pos c6] at H
        have c6b0 : decide (t116 < (t115.length : Int)) = true := decide_eq_true c6
        clear c6
        simp only [Option.some.injEq, Prod.mk.injEq] at H
        obtain ⟨rfl, rfl⟩ := H
        go_enter Try.func12, Try.ntmps12
        go_wp2_with (first | ((with_reducible refine gate_callee (f := 25) rfl ?_); refine goesL_ (some 12) rfl rfl Try.func25 (by kernel_rfl) rfl #[.slice A0 l0.length c0, .string a1] rfl (by (try simp only [List.map_toArray, List.map_cons, List.map_nil]); first | done | rfl | (simp only [List.length_drop, List.length_take]; rfl)) ?_; (with_reducible refine (entries_found.calls _ _ l0 a1 t115 t116 t117 _ ?side1 ?side2 A3.out).mono ?_); (case side1 => repeat (first | exact HR0.out | (with_reducible refine Kd.C_alloc ?_ _) | (with_reducible refine Kd.C_drewN ?_ _) | (with_reducible refine Kd.C_drew ?_))); (case side2 => exact HC0.out); rintro e w7 ⟨v118, rfl, ho0, hb⟩; refine ⟨_, rfl, ?_⟩; have n0_ := Aside0.mk (Kd.R_lower ho0 (below_size (by repeat (first | (with_reducible first | exact HB.out | apply below_alloc | apply pw_below_drewN | apply below_drew1) | exact HB.out)))); have n1_ := Aside0.mk (below_step (by repeat (first | (with_reducible first | exact HB.out | apply below_alloc | apply pw_below_drewN | apply below_drew1) | exact HB.out)) hb); clear HB; have HO119 := n0_; have HB := n1_; clear n0_ n1_; (try clear hb); (try clear hb2); (try clear hk); (try clear hi); (try clear ho0); obtain ⟨Ao8, co8, eo8⟩ := Kd.R_slice HO119.out; subst eo8; have p120 : 0 ≤ (t116 : Int) := of_decide_eq_true (by first | (with_reducible assumption) | assumption); have q120 : t116 < (t115.length : Int) := of_decide_eq_true (by first | (with_reducible assumption) | assumption); obtain ⟨ad120, e120, hx120_0, hx120_1⟩ := at_T28 (Kd.R_reads' HO119.out).2.2 t116 p120 q120; cases e120; replace p120 := eq_true p120; replace q120 := eq_true q120))
        go_ret2
        exact ⟨by first | rfl | (simp [errW_none, errW_some] <;> rfl) | (simp [*, errW_none, errW_some] <;> rfl), by repeat (first | (with_reducible first | exact HB.out | apply below_alloc | apply pw_below_drewN | apply below_drew1) | exact HB.out)⟩
      · rw [if_neg c6] at H
        exact absurd H (by simp)
    · rw [if_neg c5] at H
      exact absurd H (by simp)
  · rw [if_neg c4] at H
    have c4b0 : (t117 == 0) = false := beq_eq_false_iff_ne.mpr c4
    have c4b1 : (t117 != 0) = true := bne_iff_ne.mpr c4
    simp only [Option.some.injEq, Prod.mk.injEq] at H
    obtain ⟨rfl, rfl⟩ := H
    go_enter Try.func12, Try.ntmps12
    go_wp2_with (first | ((with_reducible refine gate_callee (f := 25) rfl ?_); refine goesL_ (some 12) rfl rfl Try.func25 (by kernel_rfl) rfl #[.slice A0 l0.length c0, .string a1] rfl (by (try simp only [List.map_toArray, List.map_cons, List.map_nil]); first | done | rfl | (simp only [List.length_drop, List.length_take]; rfl)) ?_; (with_reducible refine (entries_found.calls _ _ l0 a1 t115 t116 t117 _ ?side1 ?side2 A3.out).mono ?_); (case side1 => repeat (first | exact HR0.out | (with_reducible refine Kd.C_alloc ?_ _) | (with_reducible refine Kd.C_drewN ?_ _) | (with_reducible refine Kd.C_drew ?_))); (case side2 => exact HC0.out); rintro e w9 ⟨v118, rfl, ho0, hb⟩; refine ⟨_, rfl, ?_⟩; have n0_ := Aside0.mk (Kd.R_lower ho0 (below_size (by repeat (first | (with_reducible first | exact HB.out | apply below_alloc | apply pw_below_drewN | apply below_drew1) | exact HB.out)))); have n1_ := Aside0.mk (below_step (by repeat (first | (with_reducible first | exact HB.out | apply below_alloc | apply pw_below_drewN | apply below_drew1) | exact HB.out)) hb); clear HB; have HO119 := n0_; have HB := n1_; clear n0_ n1_; (try clear hb); (try clear hb2); (try clear hk); (try clear hi); (try clear ho0)))
    go_ret2
    exact ⟨by first | rfl | (simp [errW_none, errW_some] <;> rfl) | (simp [*, errW_none, errW_some] <;> rfl), by repeat (first | (with_reducible first | exact HB.out | apply below_alloc | apply pw_below_drewN | apply below_drew1) | exact HB.out)⟩

end Go.Proofs.Ytkkflgdobgbmmaa.Q
end
section
namespace Go.Proofs.Ytkkflgdobgbmmaa.Q
open Go.RowKit Go.Proofs.YtkkflgdobgbmmaaW.PrintWords Go.Proofs.YtkkflgdobgbmmaaW.PrintLast Go.Proofs.YtkkflgdobgbmmaaW.PrintMore
attribute [local go_sem] max2_int min2_int max_two min_two max_three min_three max_four min_four   -- for this text's walks alone
set_option linter.unusedVariables false
set_option linter.unusedSimpArgs false

end Go.Proofs.Ytkkflgdobgbmmaa.Q
end
section
namespace Go.Proofs.Ytkkflgdobgbmmaa.Q
open Go.RowKit Go.Proofs.YtkkflgdobgbmmaaW.PrintWords Go.Proofs.YtkkflgdobgbmmaaW.PrintLast Go.Proofs.YtkkflgdobgbmmaaW.PrintMore
attribute [local go_sem] max2_int min2_int max_two min_two max_three min_three max_four min_four   -- for this text's walks alone
set_option linter.unusedVariables false
set_option linter.unusedSimpArgs false

/-! ### entries_number: function 28 -/
def entries_number.f (a0 : Int) : Option (Bool) := if a0 ≥ 1 then (some (decide (a0 < 65536))) else (some false)
set_option maxHeartbeats 8000000 in
set_option maxRecDepth 100000 in
theorem entries_number.calls (a0 : Int) (r : Bool) (w : World) (h : entries_number.f a0 = some r) :
    Calls Try.prog 28 #[.int .i64 a0] w fun e w' => e = .returned (.bool r) ∧ Drawn0 w w' := by
  have H : (if a0 ≥ 1 then (some (decide (a0 < 65536))) else (some false)) = some r := h
  clear h
  by_cases c2 : a0 ≥ 1
  · rw [if_pos c2] at H
    have c2b0 : decide (1 ≤ a0) = true := decide_eq_true c2
    clear c2
    obtain rfl := Option.some.inj H
    go_enter Try.func28, Try.ntmps28
    go_wp2
    go_ret
    exact ⟨by first | rfl | (simp; done) | (simp [*]; done), by repeat (first | exact Drawn0.refl _ | apply Drawn0.step)⟩
  · rw [if_neg c2] at H
    have c2b0 : decide (1 ≤ a0) = false := decide_eq_false c2
    clear c2
    obtain rfl := Option.some.inj H
    go_enter Try.func28, Try.ntmps28
    go_wp2
    go_ret
    exact ⟨by first | rfl | (simp; done) | (simp [*]; done), by repeat (first | exact Drawn0.refl _ | apply Drawn0.step)⟩

end Go.Proofs.Ytkkflgdobgbmmaa.Q
end
section
namespace Go.Proofs.Ytkkflgdobgbmmaa.Q
open Go.RowKit Go.Proofs.YtkkflgdobgbmmaaW.PrintWords Go.Proofs.YtkkflgdobgbmmaaW.PrintLast Go.Proofs.YtkkflgdobgbmmaaW.PrintMore
attribute [local go_sem] max2_int min2_int max_two min_two max_three min_three max_four min_four   -- for this text's walks alone
set_option linter.unusedVariables false
set_option linter.unusedSimpArgs false

/-! ### entries_Insert_lit1: function 32 -/
def entries_Insert_lit1.f (a0_0 : ByteArray) (a0_1 : Int) : Option (Bool) := some (a0_1 == 0)
set_option maxHeartbeats 8000000 in
set_option maxRecDepth 100000 in
theorem entries_Insert_lit1.calls (a0_0 : ByteArray) (a0_1 : Int) (r : Bool) (w : World) (h : entries_Insert_lit1.f a0_0 a0_1 = some r) :
    Calls Try.prog 32 #[.agg #[.string a0_0, .int .i64 a0_1]] w fun e w' => e = .returned (.bool r) ∧ Below w.heap.size w w' := by
  have hu28 := Try.underlying28
  have HB := Aside0.mk (Below.refl w.heap.size w)
  have H : (some (a0_1 == 0)) = some r := h
  clear h
  obtain rfl := Option.some.inj H
  go_enter Try.func32, Try.ntmps32
  go_wp2_with (first | ((with_reducible refine gate_dst (N := 1) rfl ?_); refine box_event ?hg (N := 1) ?hd (cs := #[.string a0_0, .int .i64 a0_1]) (t := 28) ?hr ?_; (case hd => rfl); (case hg => rfl); (case hr => first | (go_simp; done) | (go_simp; rfl)); intro gb129 hg w2 hbox hb; have n0_ := Aside0.mk (below_step (by repeat (first | (with_reducible first | exact HB.out | apply below_alloc | apply pw_below_drewN | apply below_drew1) | exact HB.out)) hb); have n1_ := Aside0.mk (hbox); have n2_ := Aside0.mk ((by rw [hg]; exact (below_size (by repeat (first | (with_reducible first | exact HB.out | apply below_alloc | apply pw_below_drewN | apply below_drew1) | exact HB.out))) : w.heap.size ≤ gb129)); have n3_ := Aside0.mk ((by rw [hg]; exact (below_size (by repeat (first | (with_reducible first | exact HB.out | apply below_alloc | apply pw_below_drewN | apply below_drew1) | exact HB.out))) : w.heap.size ≤ gb129)); clear HB; have HB := n0_; have BK129 := n1_; have GW129 := n2_; have GE129 := n3_; clear n0_ n1_ n2_ n3_; clear hb hbox hg; have hcz3_0 : w2.cell? ⟨gb129, 0, none⟩ = some (.string a0_0) := (blk_cell BK129.out 0).trans rfl; have hcz3_1 : w2.cell? ⟨gb129, 1, none⟩ = some (.int .i64 a0_1) := (blk_cell BK129.out 1).trans rfl; have hfz3_0 := blk_frozen BK129.out 0; have hfz3_1 := blk_frozen BK129.out 1))
  go_ret
  exact ⟨by first | rfl | (simp [errW_none, errW_some] <;> rfl) | (simp [*, errW_none, errW_some] <;> rfl), by repeat (first | (with_reducible first | exact HB.out | apply below_alloc | apply pw_below_drewN | apply below_drew1 | refine below_set ?_ GE129.out) | exact HB.out)⟩

end Go.Proofs.Ytkkflgdobgbmmaa.Q
end
section
namespace Go.Proofs.Ytkkflgdobgbmmaa.Q
open Go.RowKit Go.Proofs.YtkkflgdobgbmmaaW.PrintWords Go.Proofs.YtkkflgdobgbmmaaW.PrintLast Go.Proofs.YtkkflgdobgbmmaaW.PrintMore
attribute [local go_sem] max2_int min2_int max_two min_two max_three min_three max_four min_four   -- for this text's walks alone
set_option linter.unusedVariables false
set_option linter.unusedSimpArgs false

/-! ### entries_Entry_31_at_entries_Insert_lit1: function 77 -/
def entries_Entry_31_at_entries_Insert_lit1.l0 : Nat → List (S28) → Int → Int → Option (Int)
  | 0, _, _, _ => none
  | k + 1, x0, x7, x8 => if x8 < x7 then (if 0 ≤ x8 then (if x8 < (x0.length : Int) then ((entries_Insert_lit1.f ((rd_T28 x0 x8).f0) ((rd_T28 x0 x8).f1)).bind fun t131 => (if t131 = true then (some x8) else (entries_Entry_31_at_entries_Insert_lit1.l0 k x0 x7 (wrap64 (x8 + 1))))) else (none)) else (none)) else (some (-1))
def entries_Entry_31_at_entries_Insert_lit1.f (k : Nat) (l0 : List (S28)) : Option (Int) := entries_Entry_31_at_entries_Insert_lit1.l0 k l0 (l0.length : Int) 0
set_option maxHeartbeats 8000000 in
set_option maxRecDepth 100000 in
theorem entries_Entry_31_at_entries_Insert_lit1.calls (k : Nat) (A0 : Option Addr) (c0 : Nat) (l0 : List (S28)) (r : Int) (w : World) (hr0 : Kd.C k28 w A0 l0.length l0) (hc0 : l0.length ≤ c0) (h : entries_Entry_31_at_entries_Insert_lit1.f k l0 = some r) :
    Calls Try.prog 31 #[.slice A0 l0.length c0, .func (.func 32) #[] #[]] w fun e w' => e = .returned (.int .i64 r) ∧ Below w.heap.size w w' := by
  have hu28 := Try.underlying28
  have HR0 := Aside0.mk hr0
  have HC0 := Aside0.mk hc0
  clear hr0 hc0
  have HB := Aside0.mk (Below.refl w.heap.size w)
  have H : (entries_Entry_31_at_entries_Insert_lit1.l0 k l0 (l0.length : Int) 0) = some r := h
  clear h
  have H' := Aside0.mk H
  clear H
  go_enter Try.func31, Try.ntmps31
  go_wp2
  go_loopg [8] k (fun kq v8 w' => ∃ (x8_1 : Int), v8 = .int .i64 x8_1 ∧ Aside0 (entries_Entry_31_at_entries_Insert_lit1.l0 kq l0 (l0.length : Int) x8_1 = some r) ∧ Aside0 (kq ≤ k) ∧ Aside0 (Below w.heap.size w w'))
  case atStart => exact ⟨(0), (by first | rfl | (simp; done) | (simp [*]; done)), H', ⟨Nat.le_refl _⟩, ⟨by repeat (first | (with_reducible first | exact HB.out | apply below_alloc | apply pw_below_drewN | apply below_drew1) | exact HB.out)⟩⟩
  case round =>
    clear H'
    obtain ⟨x8_1, rfl, HA, HK1, HB⟩ := hrel
    cases gk with
    | zero => exact absurd HA.out (by simp [entries_Entry_31_at_entries_Insert_lit1.l0])
    | succ k1 =>
      have H := HA.out
      clear HA
      simp only [entries_Entry_31_at_entries_Insert_lit1.l0] at H
      by_cases c2 : x8_1 < (l0.length : Int)
      · rw [if_pos c2] at H
        have c2b0 : decide (x8_1 < (l0.length : Int)) = true := decide_eq_true c2
        clear c2
        by_cases c3 : 0 ≤ x8_1
        · rw [if_pos c3] at H
          have c3b0 : decide (0 ≤ x8_1) = true := decide_eq_true c3
          clear c3
          by_cases c4 : x8_1 < (l0.length : Int)
          · rw [if_pos c4] at H
            have c4b0 : decide (x8_1 < (l0.length : Int)) = true := decide_eq_true c4
            clear c4
            replace H := Option.bind_eq_some_iff.mp H
            obtain ⟨t131, A50, H⟩ := H
            replace H : (if t131 = true then (some x8_1) else (entries_Entry_31_at_entries_Insert_lit1.l0 k1 l0 (l0.length : Int) (wrap64 (x8_1 + 1)))) = some r := H
            have A5 := Aside0.mk A50
            clear A50
            by_cases c6 : t131 = true
            · subst c6
              have H1 : (some x8_1) = some r := by rw [if_pos rfl] at H; exact H
              clear H
              have H := H1
              clear H1
              obtain rfl := Option.some.inj H
              have p130 : 0 ≤ (x8_1 : Int) := of_decide_eq_true (by first | (with_reducible assumption) | assumption)
              have q130 : x8_1 < (l0.length : Int) := of_decide_eq_true (by first | (with_reducible assumption) | assumption)
              obtain ⟨ad130, e130, hx130_0, hx130_1⟩ := at_T28 HR0.out x8_1 p130 q130
              cases e130
              replace hx130_0 := (HB.out.cell (World.block_lt_of_cell? w _ hx130_0)).trans hx130_0
              replace hx130_1 := (HB.out.cell (World.block_lt_of_cell? w _ hx130_1)).trans hx130_1
              replace p130 := eq_true p130
              replace q130 := eq_true q130
              go_wp2_with (first | (go_at_call 32; (with_reducible refine (entries_Insert_lit1.calls ((rd_T28 l0 x8_1).f0) ((rd_T28 l0 x8_1).f1) true _ A5.out).mono ?_); rintro e w7 ⟨rfl, hb⟩; have n0_ := Aside0.mk (below_step (by repeat (first | (with_reducible first | exact HB.out | apply below_alloc | apply pw_below_drewN | apply below_drew1) | exact HB.out)) hb); clear HB; have HB := n0_; clear n0_; (try clear hb); (try clear hb2); (try clear hk); (try clear hi)))
              go_ret
              exact ⟨by first | rfl | (simp [errW_none, errW_some] <;> rfl) | (simp [*, errW_none, errW_some] <;> rfl), by repeat (first | (with_reducible first | exact HB.out | apply below_alloc | apply pw_below_drewN | apply below_drew1) | exact HB.out)⟩
            · replace c6 := Bool.eq_false_iff.mpr c6
              subst c6
              have H1 : (entries_Entry_31_at_entries_Insert_lit1.l0 k1 l0 (l0.length : Int) (wrap64 (x8_1 + 1))) = some r := by rw [if_neg (show ¬ (false = true) by decide)] at H; exact H
              clear H
              have H := H1
              clear H1
              have H' := Aside0.mk H
              clear H
              have p130 : 0 ≤ (x8_1 : Int) := of_decide_eq_true (by first | (with_reducible assumption) | assumption)
              have q130 : x8_1 < (l0.length : Int) := of_decide_eq_true (by first | (with_reducible assumption) | assumption)
              obtain ⟨ad130, e130, hx130_0, hx130_1⟩ := at_T28 HR0.out x8_1 p130 q130
              cases e130
              replace hx130_0 := (HB.out.cell (World.block_lt_of_cell? w _ hx130_0)).trans hx130_0
              replace hx130_1 := (HB.out.cell (World.block_lt_of_cell? w _ hx130_1)).trans hx130_1
              replace p130 := eq_true p130
              replace q130 := eq_true q130
              go_wp2_with (first | (go_at_call 32; (with_reducible refine (entries_Insert_lit1.calls ((rd_T28 l0 x8_1).f0) ((rd_T28 l0 x8_1).f1) false _ A5.out).mono ?_); rintro e w8 ⟨rfl, hb⟩; have n0_ := Aside0.mk (below_step (by repeat (first | (with_reducible first | exact HB.out | apply below_alloc | apply pw_below_drewN | apply below_drew1) | exact HB.out)) hb); clear HB; have HB := n0_; clear n0_; (try clear hb); (try clear hb2); (try clear hk); (try clear hi)))
              go_roundg k1
              case measure => have := HK1.out; omega
              case rel => exact ⟨(wrap64 (x8_1 + 1)), (by first | rfl | (simp; done) | (simp [*]; done)), H', ⟨by have := HK1.out; omega⟩, ⟨by repeat (first | (with_reducible first | exact HB.out | apply below_alloc | apply pw_below_drewN | apply below_drew1) | exact HB.out)⟩⟩
          · rw [if_neg c4] at H
            exact absurd H (by simp)
        · rw [if_neg c3] at H
          exact absurd H (by simp)
      · rw [if_neg c2] at H
        have c2b0 : decide (x8_1 < (l0.length : Int)) = false := decide_eq_false c2
        clear c2
        obtain rfl := Option.some.inj H
        go_wp2
        go_ret
        exact ⟨by first | rfl | (simp [errW_none, errW_some] <;> rfl) | (simp [*, errW_none, errW_some] <;> rfl), by repeat (first | (with_reducible first | exact HB.out | apply below_alloc | apply pw_below_drewN | apply below_drew1) | exact HB.out)⟩

end Go.Proofs.Ytkkflgdobgbmmaa.Q
end
section
namespace Go.Proofs.Ytkkflgdobgbmmaa.Q
open Go.RowKit Go.Proofs.YtkkflgdobgbmmaaW.PrintWords Go.Proofs.YtkkflgdobgbmmaaW.PrintLast Go.Proofs.YtkkflgdobgbmmaaW.PrintMore
attribute [local go_sem] max2_int min2_int max_two min_two max_three min_three max_four min_four   -- for this text's walks alone
set_option linter.unusedVariables false
set_option linter.unusedSimpArgs false

/-! ### entries_Insert: function 14 -/
def entries_Insert.f (k : Nat) (l0 : List Int) (a1_0 : ByteArray) (a1_1 : Int) : Option (List Int × Int) := (entries_Check.f a1_0).bind fun t133 => (if t133 = 0 then ((entries_number.f a1_1).bind fun t134 => (if t134 = true then ((entries_read.f l0).bind fun bt135 => (if bt135.2 = 0 then ((entries_at.f bt135.1 a1_0).bind fun t139 => (if t139 ≥ 0 then (some (([] : List Int), 22)) else ((entries_Entry_31_at_entries_Insert_lit1.f k bt135.1).bind fun t140 => (if t140 < 0 then (if bt135.1.length < 5864062014805 then ((entries_bytes.f k (bt135.1 ++ [(⟨a1_0, a1_1⟩ : S28)])).bind fun t144 => (some (t144, 0))) else (none)) else (if 0 ≤ t140 then (if t140 < (bt135.1.length : Int) then ((entries_bytes.f k (bt135.1.set (t140 : Int).toNat (⟨a1_0, a1_1⟩ : S28))).bind fun t148 => (some (t148, 0))) else (none)) else (none)))))) else (some (([] : List Int), bt135.2)))) else (some (([] : List Int), 1)))) else (some (([] : List Int), t133)))
set_option maxHeartbeats 8000000 in
set_option maxRecDepth 100000 in
theorem entries_Insert.calls (k : Nat) (A0 : Option Addr) (c0 : Nat) (l0 : List Int) (a1_0 : ByteArray) (a1_1 : Int) (r1 : List Int) (r2 : Int) (w : World) (hr0 : Kd.C (Kd.int .u8) w A0 l0.length l0) (hc0 : l0.length ≤ c0) (h : entries_Insert.f k l0 a1_0 a1_1 = some (r1, r2)) :
    Calls Try.prog 14 #[.slice A0 l0.length c0, .agg #[.string a1_0, .int .i64 a1_1]] w fun e w' => ∃ v0_ : Value, e = .returned (.tuple #[v0_, .int .i64 r2]) ∧ Kd.R (Kd.int .u8) 5 w' w.heap.size (fun _ => True) v0_ r1 ∧ Below w.heap.size w w' := by
  have hu28 := Try.underlying28
  have HR0 := Aside0.mk hr0
  have HC0 := Aside0.mk hc0
  clear hr0 hc0
  have HB := Aside0.mk (Below.refl w.heap.size w)
  have H : ((entries_Check.f a1_0).bind fun t133 => (if t133 = 0 then ((entries_number.f a1_1).bind fun t134 => (if t134 = true then ((entries_read.f l0).bind fun bt135 => (if bt135.2 = 0 then ((entries_at.f bt135.1 a1_0).bind fun t139 => (if t139 ≥ 0 then (some (([] : List Int), 22)) else ((entries_Entry_31_at_entries_Insert_lit1.f k bt135.1).bind fun t140 => (if t140 < 0 then (if bt135.1.length < 5864062014805 then ((entries_bytes.f k (bt135.1 ++ [(⟨a1_0, a1_1⟩ : S28)])).bind fun t144 => (some (t144, 0))) else (none)) else (if 0 ≤ t140 then (if t140 < (bt135.1.length : Int) then ((entries_bytes.f k (bt135.1.set (t140 : Int).toNat (⟨a1_0, a1_1⟩ : S28))).bind fun t148 => (some (t148, 0))) else (none)) else (none)))))) else (some (([] : List Int), bt135.2)))) else (some (([] : List Int), 1)))) else (some (([] : List Int), t133)))) = some (r1, r2) := h
  clear h
  replace H := Option.bind_eq_some_iff.mp H
  obtain ⟨t133, A30, H⟩ := H
  replace H : (if t133 = 0 then ((entries_number.f a1_1).bind fun t134 => (if t134 = true then ((entries_read.f l0).bind fun bt135 => (if bt135.2 = 0 then ((entries_at.f bt135.1 a1_0).bind fun t139 => (if t139 ≥ 0 then (some (([] : List Int), 22)) else ((entries_Entry_31_at_entries_Insert_lit1.f k bt135.1).bind fun t140 => (if t140 < 0 then (if bt135.1.length < 5864062014805 then ((entries_bytes.f k (bt135.1 ++ [(⟨a1_0, a1_1⟩ : S28)])).bind fun t144 => (some (t144, 0))) else (none)) else (if 0 ≤ t140 then (if t140 < (bt135.1.length : Int) then ((entries_bytes.f k (bt135.1.set (t140 : Int).toNat (⟨a1_0, a1_1⟩ : S28))).bind fun t148 => (some (t148, 0))) else (none)) else (none)))))) else (some (([] : List Int), bt135.2)))) else (some (([] : List Int), 1)))) else (some (([] : List Int), t133))) = some (r1, r2) := H
  have A3 := Aside0.mk A30
  clear A30
  by_cases c4 : t133 = 0
  · rw [if_pos c4] at H
    have c4b0 : (t133 == 0) = true := beq_iff_eq.mpr c4
    have c4b1 : (t133 != 0) = false := bne_eq_false_iff_eq.mpr c4
    clear c4
    replace H := Option.bind_eq_some_iff.mp H
    obtain ⟨t134, A50, H⟩ := H
    replace H : (if t134 = true then ((entries_read.f l0).bind fun bt135 => (if bt135.2 = 0 then ((entries_at.f bt135.1 a1_0).bind fun t139 => (if t139 ≥ 0 then (some (([] : List Int), 22)) else ((entries_Entry_31_at_entries_Insert_lit1.f k bt135.1).bind fun t140 => (if t140 < 0 then (if bt135.1.length < 5864062014805 then ((entries_bytes.f k (bt135.1 ++ [(⟨a1_0, a1_1⟩ : S28)])).bind fun t144 => (some (t144, 0))) else (none)) else (if 0 ≤ t140 then (if t140 < (bt135.1.length : Int) then ((entries_bytes.f k (bt135.1.set (t140 : Int).toNat (⟨a1_0, a1_1⟩ : S28))).bind fun t148 => (some (t148, 0))) else (none)) else (none)))))) else (some (([] : List Int), bt135.2)))) else (some (([] : List Int), 1))) = some (r1, r2) := H
    have A5 := Aside0.mk A50
    clear A50
    by_cases c6 : t134 = true
    · subst c6
      have H1 : ((entries_read.f l0).bind fun bt135 => (if bt135.2 = 0 then ((entries_at.f bt135.1 a1_0).bind fun t139 => (if t139 ≥ 0 then (some (([] : List Int), 22)) else ((entries_Entry_31_at_entries_Insert_lit1.f k bt135.1).bind fun t140 => (if t140 < 0 then (if bt135.1.length < 5864062014805 then ((entries_bytes.f k (bt135.1 ++ [(⟨a1_0, a1_1⟩ : S28)])).bind fun t144 => (some (t144, 0))) else (none)) else (if 0 ≤ t140 then (if t140 < (bt135.1.length : Int) then ((entries_bytes.f k (bt135.1.set (t140 : Int).toNat (⟨a1_0, a1_1⟩ : S28))).bind fun t148 => (some (t148, 0))) else (none)) else (none)))))) else (some (([] : List Int), bt135.2)))) = some (r1, r2) := by rw [if_pos rfl] at H; exact H
      clear H
      have H := H1
      clear H1
      replace H := Option.bind_eq_some_iff.mp H
      obtain ⟨⟨t135, t136⟩, A70, H⟩ := H
      replace H : (if t136 = 0 then ((entries_at.f t135 a1_0).bind fun t139 => (if t139 ≥ 0 then (some (([] : List Int), 22)) else ((entries_Entry_31_at_entries_Insert_lit1.f k t135).bind fun t140 => (if t140 < 0 then (if t135.length < 5864062014805 then ((entries_bytes.f k (t135 ++ [(⟨a1_0, a1_1⟩ : S28)])).bind fun t144 => (some (t144, 0))) else (none)) else (if 0 ≤ t140 then (if t140 < (t135.length : Int) then ((entries_bytes.f k (t135.set (t140 : Int).toNat (⟨a1_0, a1_1⟩ : S28))).bind fun t148 => (some (t148, 0))) else (none)) else (none)))))) else (some (([] : List Int), t136))) = some (r1, r2) := H
      have A7 := Aside0.mk A70
      clear A70
      by_cases c8 : t136 = 0
      · rw [if_pos c8] at H
        have c8b0 : (t136 == 0) = true := beq_iff_eq.mpr c8
        have c8b1 : (t136 != 0) = false := bne_eq_false_iff_eq.mpr c8
        clear c8
        replace H := Option.bind_eq_some_iff.mp H
        obtain ⟨t139, A90, H⟩ := H
        replace H : (if t139 ≥ 0 then (some (([] : List Int), 22)) else ((entries_Entry_31_at_entries_Insert_lit1.f k t135).bind fun t140 => (if t140 < 0 then (if t135.length < 5864062014805 then ((entries_bytes.f k (t135 ++ [(⟨a1_0, a1_1⟩ : S28)])).bind fun t144 => (some (t144, 0))) else (none)) else (if 0 ≤ t140 then (if t140 < (t135.length : Int) then ((entries_bytes.f k (t135.set (t140 : Int).toNat (⟨a1_0, a1_1⟩ : S28))).bind fun t148 => (some (t148, 0))) else (none)) else (none))))) = some (r1, r2) := H
        have A9 := Aside0.mk A90
        clear A90
        by_cases c10 : t139 ≥ 0
        · rw [if_pos c10] at H
          have c10b0 : decide (0 ≤ t139) = true := decide_eq_true c10
          clear c10
          simp only [Option.some.injEq, Prod.mk.injEq] at H
          obtain ⟨rfl, rfl⟩ := H
          go_enter Try.func14, Try.ntmps14
          go_wp2_with (first | ((with_reducible refine gate_dst (N := 3) rfl ?_); refine box_event ?hg (N := 3) ?hd (cs := #[.string a1_0, .int .i64 a1_1]) (t := 28) ?hr ?_; (case hd => rfl); (case hg => rfl); (case hr => first | (go_simp; done) | (go_simp; rfl)); intro gb132 hg w11 hbox hb; have n0_ := Aside0.mk (below_step (by repeat (first | (with_reducible first | exact HB.out | apply below_alloc | apply pw_below_drewN | apply below_drew1) | exact HB.out)) hb); have n1_ := Aside0.mk (hbox); have n2_ := Aside0.mk ((by rw [hg]; exact (below_size (by repeat (first | (with_reducible first | exact HB.out | apply below_alloc | apply pw_below_drewN | apply below_drew1) | exact HB.out))) : w.heap.size ≤ gb132)); have n3_ := Aside0.mk ((by rw [hg]; exact (below_size (by repeat (first | (with_reducible first | exact HB.out | apply below_alloc | apply pw_below_drewN | apply below_drew1) | exact HB.out))) : w.heap.size ≤ gb132)); clear HB; have HB := n0_; have BK132 := n1_; have GW132 := n2_; have GE132 := n3_; clear n0_ n1_ n2_ n3_; clear hb hbox hg; have hcz12_0 : w11.cell? ⟨gb132, 0, none⟩ = some (.string a1_0) := (blk_cell BK132.out 0).trans rfl; have hcz12_1 : w11.cell? ⟨gb132, 1, none⟩ = some (.int .i64 a1_1) := (blk_cell BK132.out 1).trans rfl; have hfz12_0 := blk_frozen BK132.out 0; have hfz12_1 := blk_frozen BK132.out 1) | ((with_reducible refine gate_callee (f := 10) rfl ?_); refine goesL_ (some 12) rfl rfl Try.func10 (by kernel_rfl) rfl #[.string a1_0] rfl (by (try simp only [List.map_toArray, List.map_cons, List.map_nil]); first | done | rfl | (simp only [List.length_drop, List.length_take]; rfl)) ?_; (with_reducible refine (entries_Check.calls a1_0 t133 _ A3.out).mono ?_); rintro e w13 ⟨rfl, hb⟩; refine ⟨_, rfl, ?_⟩; have n0_ := Aside0.mk (blk_below (g := gb132) (o := .cells #[.string a1_0, .int .i64 a1_1] 28 (0, 0)) (by (with_reducible repeat (first | refine blk_drewN ?_ _ | refine blk_drew ?_ | refine blk_alloc ?_ _)); exact BK132.out) hb); have n1_ := Aside0.mk (below_step (by repeat (first | (with_reducible first | exact HB.out | apply below_alloc | apply pw_below_drewN | apply below_drew1 | refine below_set ?_ GE132.out) | exact HB.out)) hb); clear BK132; clear HB; have BK132 := n0_; have HB := n1_; clear n0_ n1_; (try clear hb); (try clear hb2); (try clear hk); (try clear hi); have hcz14_0 : w13.cell? ⟨gb132, 0, none⟩ = some (.string a1_0) := (blk_cell BK132.out 0).trans rfl; have hcz14_1 : w13.cell? ⟨gb132, 1, none⟩ = some (.int .i64 a1_1) := (blk_cell BK132.out 1).trans rfl; have hfz14_0 := blk_frozen BK132.out 0; have hfz14_1 := blk_frozen BK132.out 1) | ((with_reducible refine gate_callee (f := 28) rfl ?_); refine goesL_ (some 18) rfl rfl Try.func28 (by kernel_rfl) rfl #[.int .i64 a1_1] rfl (by (try simp only [List.map_toArray, List.map_cons, List.map_nil]); first | done | rfl | (simp only [List.length_drop, List.length_take]; rfl)) ?_; (with_reducible refine (entries_number.calls a1_1 true _ A5.out).mono ?_); rintro e w' ⟨rfl, ⟨nd, rfl⟩⟩; refine ⟨_, rfl, ?_⟩) | ((with_reducible refine gate_callee (f := 29) rfl ?_); refine goesL_ (some 22) rfl rfl Try.func29 (by kernel_rfl) rfl #[.slice A0 l0.length c0] rfl (by (try simp only [List.map_toArray, List.map_cons, List.map_nil]); first | done | rfl | (simp only [List.length_drop, List.length_take]; rfl)) ?_; (with_reducible refine (entries_read.calls _ _ l0 t135 t136 _ ?side1 ?side2 A7.out).mono ?_); (case side1 => repeat (first | exact (Kd.C_below HR0.out (by repeat (first | (with_reducible first | exact HB.out | apply below_alloc | apply pw_below_drewN | apply below_drew1 | refine below_set ?_ GE132.out) | exact HB.out))) | (with_reducible refine Kd.C_alloc ?_ _) | (with_reducible refine Kd.C_drewN ?_ _) | (with_reducible refine Kd.C_drew ?_))); (case side2 => exact HC0.out); rintro e w15 ⟨v137, rfl, ho0, hb⟩; refine ⟨_, rfl, ?_⟩; have n0_ := Aside0.mk (Kd.R_lower (Kd.R_newB ho0 (g := gb132) (o := .cells #[.string a1_0, .int .i64 a1_1] 28 (0, 0)) (by (with_reducible repeat (first | refine blk_drewN ?_ _ | refine blk_drew ?_ | refine blk_alloc ?_ _)); exact BK132.out)) (below_size (by repeat (first | (with_reducible first | exact HB.out | apply below_alloc | apply pw_below_drewN | apply below_drew1 | refine below_set ?_ GE132.out) | exact HB.out)))); have n1_ := Aside0.mk (blk_below (g := gb132) (o := .cells #[.string a1_0, .int .i64 a1_1] 28 (0, 0)) (by (with_reducible repeat (first | refine blk_drewN ?_ _ | refine blk_drew ?_ | refine blk_alloc ?_ _)); exact BK132.out) hb); have n2_ := Aside0.mk (below_step (by repeat (first | (with_reducible first | exact HB.out | apply below_alloc | apply pw_below_drewN | apply below_drew1 | refine below_set ?_ GE132.out) | exact HB.out)) hb); clear BK132; clear HB; have HO138 := n0_; have BK132 := n1_; have HB := n2_; clear n0_ n1_ n2_; (try clear hb); (try clear hb2); (try clear hk); (try clear hi); (try clear ho0); have hcz16_0 : w15.cell? ⟨gb132, 0, none⟩ = some (.string a1_0) := (blk_cell BK132.out 0).trans rfl; have hcz16_1 : w15.cell? ⟨gb132, 1, none⟩ = some (.int .i64 a1_1) := (blk_cell BK132.out 1).trans rfl; have hfz16_0 := blk_frozen BK132.out 0; have hfz16_1 := blk_frozen BK132.out 1; obtain ⟨Ao17, co17, eo17⟩ := Kd.R_slice HO138.out; subst eo17) | ((with_reducible refine gate_callee (f := 30) rfl ?_); refine goesL_ (some 33) rfl rfl Try.func30 (by kernel_rfl) rfl #[.slice Ao17 t135.length co17, .string a1_0] rfl (by (try simp only [List.map_toArray, List.map_cons, List.map_nil]); first | done | rfl | (simp only [List.length_drop, List.length_take]; rfl)) ?_; (with_reducible refine (entries_at.calls _ _ t135 a1_0 t139 _ ?side1 ?side2 A9.out).mono ?_); (case side1 => repeat (first | exact (Kd.R_reads' HO138.out).2.2 | (with_reducible refine Kd.C_alloc ?_ _) | (with_reducible refine Kd.C_drewN ?_ _) | (with_reducible refine Kd.C_drew ?_))); (case side2 => exact (Kd.R_reads' HO138.out).2.1); rintro e w18 ⟨rfl, hb⟩; refine ⟨_, rfl, ?_⟩; have n0_ := Aside0.mk (Kd.R_below (by (with_reducible repeat (first | apply Kd.R_alloc | apply Kd.R_drewN | apply Kd.R_drew)); exact HO138.out) hb); have n1_ := Aside0.mk (blk_below (g := gb132) (o := .cells #[.string a1_0, .int .i64 a1_1] 28 (0, 0)) (by (with_reducible repeat (first | refine blk_drewN ?_ _ | refine blk_drew ?_ | refine blk_alloc ?_ _)); exact BK132.out) hb); have n2_ := Aside0.mk (below_step (by repeat (first | (with_reducible first | exact HB.out | apply below_alloc | apply pw_below_drewN | apply below_drew1 | refine below_set ?_ GE132.out) | exact HB.out)) hb); clear HO138; clear BK132; clear HB; have HO138 := n0_; have BK132 := n1_; have HB := n2_; clear n0_ n1_ n2_; (try clear hb); (try clear hb2); (try clear hk); (try clear hi)))
          go_ret2
          exact ⟨_, by first | rfl | (simp [errW_none, errW_some] <;> rfl) | (simp [*, errW_none, errW_some] <;> rfl), by first | exact Kd.R_nil _ _ _ _ _ | exact Kd.N_nil _ _ _ _ _ | exact Kd.V_nil _ _ _ _ _ | exact Kd.Q_nil _ _ _ _ _ | exact Kd.S_nil _ _ _ _ _, by repeat (first | (with_reducible first | exact HB.out | apply below_alloc | apply pw_below_drewN | apply below_drew1 | refine below_set ?_ GE132.out) | exact HB.out)⟩
        · rw [if_neg c10] at H
          have c10b0 : decide (0 ≤ t139) = false := decide_eq_false c10
          clear c10
          replace H := Option.bind_eq_some_iff.mp H
          obtain ⟨t140, A190, H⟩ := H
          replace H : (if t140 < 0 then (if t135.length < 5864062014805 then ((entries_bytes.f k (t135 ++ [(⟨a1_0, a1_1⟩ : S28)])).bind fun t144 => (some (t144, 0))) else (none)) else (if 0 ≤ t140 then (if t140 < (t135.length : Int) then ((entries_bytes.f k (t135.set (t140 : Int).toNat (⟨a1_0, a1_1⟩ : S28))).bind fun t148 => (some (t148, 0))) else (none)) else (none))) = some (r1, r2) := H
          have A19 := Aside0.mk A190
          clear A190
          by_cases c20 : t140 < 0
          · rw [if_pos c20] at H
            have c20b0 : decide (t140 < 0) = true := decide_eq_true c20
            clear c20
            by_cases c21 : t135.length < 5864062014805
            · rw [if_pos c21] at H
              have LMc21 := Aside0.mk c21
              clear c21
              obtain ⟨y141, hy141⟩ : ∃ y_ : List (S28), y_ = (t135 ++ [(⟨a1_0, a1_1⟩ : S28)]) := ⟨_, rfl⟩
              replace H : ((entries_bytes.f k y141).bind fun t144 => (some (t144, 0))) = some (r1, r2) := by first | (rw [hy141]; with_reducible exact H) | (have H2_ := (Option.bind_some _ _).symm.trans H; rw [hy141]; with_reducible exact H2_) | (have H2_ := (Option.bind_some _ _).symm.trans H; with_reducible exact H2_) | with_reducible exact H | (rw [hy141]; exact H) | exact H
              have Ny141 := Aside0.mk hy141
              clear hy141
              replace H := Option.bind_eq_some_iff.mp H
              obtain ⟨t144, A220, H⟩ := H
              replace H : (some (t144, 0)) = some (r1, r2) := H
              have A22 := Aside0.mk A220
              clear A220
              simp only [Option.some.injEq, Prod.mk.injEq] at H
              obtain ⟨rfl, rfl⟩ := H
              go_enter Try.func14, Try.ntmps14
              go_wp2_with (first | ((with_reducible refine gate_dst (N := 3) rfl ?_); refine box_event ?hg (N := 3) ?hd (cs := #[.string a1_0, .int .i64 a1_1]) (t := 28) ?hr ?_; (case hd => rfl); (case hg => rfl); (case hr => first | (go_simp; done) | (go_simp; rfl)); intro gb132 hg w23 hbox hb; have n0_ := Aside0.mk (below_step (by repeat (first | (with_reducible first | exact HB.out | apply below_alloc | apply pw_below_drewN | apply below_drew1) | exact HB.out)) hb); have n1_ := Aside0.mk (hbox); have n2_ := Aside0.mk ((by rw [hg]; exact (below_size (by repeat (first | (with_reducible first | exact HB.out | apply below_alloc | apply pw_below_drewN | apply below_drew1) | exact HB.out))) : w.heap.size ≤ gb132)); have n3_ := Aside0.mk ((by rw [hg]; exact (below_size (by repeat (first | (with_reducible first | exact HB.out | apply below_alloc | apply pw_below_drewN | apply below_drew1) | exact HB.out))) : w.heap.size ≤ gb132)); clear HB; have HB := n0_; have BK132 := n1_; have GW132 := n2_; have GE132 := n3_; clear n0_ n1_ n2_ n3_; clear hb hbox hg; have hcz24_0 : w23.cell? ⟨gb132, 0, none⟩ = some (.string a1_0) := (blk_cell BK132.out 0).trans rfl; have hcz24_1 : w23.cell? ⟨gb132, 1, none⟩ = some (.int .i64 a1_1) := (blk_cell BK132.out 1).trans rfl; have hfz24_0 := blk_frozen BK132.out 0; have hfz24_1 := blk_frozen BK132.out 1) | ((with_reducible refine gate_callee (f := 10) rfl ?_); refine goesL_ (some 12) rfl rfl Try.func10 (by kernel_rfl) rfl #[.string a1_0] rfl (by (try simp only [List.map_toArray, List.map_cons, List.map_nil]); first | done | rfl | (simp only [List.length_drop, List.length_take]; rfl)) ?_; (with_reducible refine (entries_Check.calls a1_0 t133 _ A3.out).mono ?_); rintro e w25 ⟨rfl, hb⟩; refine ⟨_, rfl, ?_⟩; have n0_ := Aside0.mk (blk_below (g := gb132) (o := .cells #[.string a1_0, .int .i64 a1_1] 28 (0, 0)) (by (with_reducible repeat (first | refine blk_drewN ?_ _ | refine blk_drew ?_ | refine blk_alloc ?_ _)); exact BK132.out) hb); have n1_ := Aside0.mk (below_step (by repeat (first | (with_reducible first | exact HB.out | apply below_alloc | apply pw_below_drewN | apply below_drew1 | refine below_set ?_ GE132.out) | exact HB.out)) hb); clear BK132; clear HB; have BK132 := n0_; have HB := n1_; clear n0_ n1_; (try clear hb); (try clear hb2); (try clear hk); (try clear hi); have hcz26_0 : w25.cell? ⟨gb132, 0, none⟩ = some (.string a1_0) := (blk_cell BK132.out 0).trans rfl; have hcz26_1 : w25.cell? ⟨gb132, 1, none⟩ = some (.int .i64 a1_1) := (blk_cell BK132.out 1).trans rfl; have hfz26_0 := blk_frozen BK132.out 0; have hfz26_1 := blk_frozen BK132.out 1) | ((with_reducible refine gate_callee (f := 28) rfl ?_); refine goesL_ (some 18) rfl rfl Try.func28 (by kernel_rfl) rfl #[.int .i64 a1_1] rfl (by (try simp only [List.map_toArray, List.map_cons, List.map_nil]); first | done | rfl | (simp only [List.length_drop, List.length_take]; rfl)) ?_; (with_reducible refine (entries_number.calls a1_1 true _ A5.out).mono ?_); rintro e w' ⟨rfl, ⟨nd, rfl⟩⟩; refine ⟨_, rfl, ?_⟩) | ((with_reducible refine gate_callee (f := 29) rfl ?_); refine goesL_ (some 22) rfl rfl Try.func29 (by kernel_rfl) rfl #[.slice A0 l0.length c0] rfl (by (try simp only [List.map_toArray, List.map_cons, List.map_nil]); first | done | rfl | (simp only [List.length_drop, List.length_take]; rfl)) ?_; (with_reducible refine (entries_read.calls _ _ l0 t135 t136 _ ?side1 ?side2 A7.out).mono ?_); (case side1 => repeat (first | exact (Kd.C_below HR0.out (by repeat (first | (with_reducible first | exact HB.out | apply below_alloc | apply pw_below_drewN | apply below_drew1 | refine below_set ?_ GE132.out) | exact HB.out))) | (with_reducible refine Kd.C_alloc ?_ _) | (with_reducible refine Kd.C_drewN ?_ _) | (with_reducible refine Kd.C_drew ?_))); (case side2 => exact HC0.out); rintro e w27 ⟨v137, rfl, ho0, hb⟩; refine ⟨_, rfl, ?_⟩; have n0_ := Aside0.mk (Kd.R_lower (Kd.R_newB ho0 (g := gb132) (o := .cells #[.string a1_0, .int .i64 a1_1] 28 (0, 0)) (by (with_reducible repeat (first | refine blk_drewN ?_ _ | refine blk_drew ?_ | refine blk_alloc ?_ _)); exact BK132.out)) (below_size (by repeat (first | (with_reducible first | exact HB.out | apply below_alloc | apply pw_below_drewN | apply below_drew1 | refine below_set ?_ GE132.out) | exact HB.out)))); have n1_ := Aside0.mk (blk_below (g := gb132) (o := .cells #[.string a1_0, .int .i64 a1_1] 28 (0, 0)) (by (with_reducible repeat (first | refine blk_drewN ?_ _ | refine blk_drew ?_ | refine blk_alloc ?_ _)); exact BK132.out) hb); have n2_ := Aside0.mk (below_step (by repeat (first | (with_reducible first | exact HB.out | apply below_alloc | apply pw_below_drewN | apply below_drew1 | refine below_set ?_ GE132.out) | exact HB.out)) hb); clear BK132; clear HB; have HO138 := n0_; have BK132 := n1_; have HB := n2_; clear n0_ n1_ n2_; (try clear hb); (try clear hb2); (try clear hk); (try clear hi); (try clear ho0); have hcz28_0 : w27.cell? ⟨gb132, 0, none⟩ = some (.string a1_0) := (blk_cell BK132.out 0).trans rfl; have hcz28_1 : w27.cell? ⟨gb132, 1, none⟩ = some (.int .i64 a1_1) := (blk_cell BK132.out 1).trans rfl; have hfz28_0 := blk_frozen BK132.out 0; have hfz28_1 := blk_frozen BK132.out 1; obtain ⟨Ao29, co29, eo29⟩ := Kd.R_slice HO138.out; subst eo29) | ((with_reducible refine gate_callee (f := 30) rfl ?_); refine goesL_ (some 33) rfl rfl Try.func30 (by kernel_rfl) rfl #[.slice Ao29 t135.length co29, .string a1_0] rfl (by (try simp only [List.map_toArray, List.map_cons, List.map_nil]); first | done | rfl | (simp only [List.length_drop, List.length_take]; rfl)) ?_; (with_reducible refine (entries_at.calls _ _ t135 a1_0 t139 _ ?side1 ?side2 A9.out).mono ?_); (case side1 => repeat (first | exact (Kd.R_reads' HO138.out).2.2 | (with_reducible refine Kd.C_alloc ?_ _) | (with_reducible refine Kd.C_drewN ?_ _) | (with_reducible refine Kd.C_drew ?_))); (case side2 => exact (Kd.R_reads' HO138.out).2.1); rintro e w30 ⟨rfl, hb⟩; refine ⟨_, rfl, ?_⟩; have n0_ := Aside0.mk (Kd.R_below (by (with_reducible repeat (first | apply Kd.R_alloc | apply Kd.R_drewN | apply Kd.R_drew)); exact HO138.out) hb); have n1_ := Aside0.mk (blk_below (g := gb132) (o := .cells #[.string a1_0, .int .i64 a1_1] 28 (0, 0)) (by (with_reducible repeat (first | refine blk_drewN ?_ _ | refine blk_drew ?_ | refine blk_alloc ?_ _)); exact BK132.out) hb); have n2_ := Aside0.mk (below_step (by repeat (first | (with_reducible first | exact HB.out | apply below_alloc | apply pw_below_drewN | apply below_drew1 | refine below_set ?_ GE132.out) | exact HB.out)) hb); clear HO138; clear BK132; clear HB; have HO138 := n0_; have BK132 := n1_; have HB := n2_; clear n0_ n1_ n2_; (try clear hb); (try clear hb2); (try clear hk); (try clear hi)) | ((with_reducible refine gate_callee (f := 31) rfl ?_); refine goesL_ (some 36) rfl rfl Try.func31 (by kernel_rfl) rfl #[.slice Ao29 t135.length co29, .func (.func 32) #[] #[]] rfl (by (try simp only [List.map_toArray, List.map_cons, List.map_nil]); first | done | rfl | (simp only [List.length_drop, List.length_take]; rfl)) ?_; (with_reducible refine (entries_Entry_31_at_entries_Insert_lit1.calls k _ _ t135 t140 _ ?side1 ?side2 A19.out).mono ?_); (case side1 => repeat (first | exact (Kd.R_reads' HO138.out).2.2 | (with_reducible refine Kd.C_alloc ?_ _) | (with_reducible refine Kd.C_drewN ?_ _) | (with_reducible refine Kd.C_drew ?_))); (case side2 => exact (Kd.R_reads' HO138.out).2.1); rintro e w31 ⟨rfl, hb⟩; refine ⟨_, rfl, ?_⟩; have n0_ := Aside0.mk (Kd.R_below (by (with_reducible repeat (first | apply Kd.R_alloc | apply Kd.R_drewN | apply Kd.R_drew)); exact HO138.out) hb); have n1_ := Aside0.mk (blk_below (g := gb132) (o := .cells #[.string a1_0, .int .i64 a1_1] 28 (0, 0)) (by (with_reducible repeat (first | refine blk_drewN ?_ _ | refine blk_drew ?_ | refine blk_alloc ?_ _)); exact BK132.out) hb); have n2_ := Aside0.mk (below_step (by repeat (first | (with_reducible first | exact HB.out | apply below_alloc | apply pw_below_drewN | apply below_drew1 | refine below_set ?_ GE132.out) | exact HB.out)) hb); clear HO138; clear BK132; clear HB; have HO138 := n0_; have BK132 := n1_; have HB := n2_; clear n0_ n1_ n2_; (try clear hb); (try clear hb2); (try clear hk); (try clear hi); have hcz32_0 : w31.cell? ⟨gb132, 0, none⟩ = some (.string a1_0) := (blk_cell BK132.out 0).trans rfl; have hcz32_1 : w31.cell? ⟨gb132, 1, none⟩ = some (.int .i64 a1_1) := (blk_cell BK132.out 1).trans rfl; have hfz32_0 := blk_frozen BK132.out 0; have hfz32_1 := blk_frozen BK132.out 1) | ((with_reducible refine gate_builtin (b := .append) (xs := #[.tmp 39, .tmp 41]) rfl ?_); at_builtin; refine Kd.R_append k28 (w0 := w) w.heap.size rfl (.tmp 39) (.tmp 41) 42 28 (.agg #[(.string ⟨#[]⟩), (.int .i64 0)]) 24 rfl Try.underlying42 info28 rfl (by decide) (by omega) (.slice Ao29 t135.length co29) t135 (⟨a1_0, a1_1⟩ : S28) [.string a1_0, .int .i64 a1_1] (fun k_ => k_ ≠ gb132) (fun _ => False) rfl rfl ?aP (fun _ hk => hk.elim) ?aF ?aO ?aB ?aS ?aL ?_; (case aP => exact k28_mkM _ _ _ (⟨a1_0, a1_1⟩ : S28)); (case aB => exact (by repeat (first | (with_reducible first | exact HB.out | apply below_alloc | apply pw_below_drewN | apply below_drew1 | refine below_set ?_ GE132.out) | exact HB.out))); (case aF => exact (fun k_ hk => Kd.freshB (g := gb132) (o := .cells #[.string a1_0, .int .i64 a1_1] 28 (0, 0)) (by (with_reducible repeat (first | refine blk_drewN ?_ _ | refine blk_drew ?_ | refine blk_alloc ?_ _)); exact BK132.out) k_ hk)); (case aO => exact (by (with_reducible repeat (first | apply Kd.R_alloc | apply Kd.R_drewN | apply Kd.R_drew)); exact Kd.R_mono HO138.out (fun _ hk => hk.2))); (case aS => exact (below_size (by repeat (first | (with_reducible first | exact HB.out | apply below_alloc | apply pw_below_drewN | apply below_drew1 | refine below_set ?_ GE132.out) | exact HB.out)))); (case aL => have := LMc21.out; omega); intro v142 w33 ho hb hg hat; rw [← Ny141.out] at ho; have n0_ := Aside0.mk (blk_grown (g := gb132) (o := .cells #[.string a1_0, .int .i64 a1_1] 28 (0, 0)) (by (with_reducible repeat (first | refine blk_drewN ?_ _ | refine blk_drew ?_ | refine blk_alloc ?_ _)); exact BK132.out) hg (Kd.R_away HO138.out (fun _ hk => hk.2))); have n1_ := Aside0.mk (hb); have n2_ := Aside0.mk (ho); clear BK132; clear HB; clear HO138; have BK132 := n0_; have HB := n1_; have HO143 := n2_; clear n0_ n1_ n2_; clear ho hb hg hat; obtain ⟨Ao34, co34, eo34⟩ := Kd.R_slice HO143.out; subst eo34) | ((with_reducible refine gate_callee (f := 33) rfl ?_); refine goesL_ (some 48) rfl rfl Try.func33 (by kernel_rfl) rfl #[.slice Ao34 y141.length co34] rfl (by (try simp only [List.map_toArray, List.map_cons, List.map_nil]); first | done | rfl | (simp only [List.length_drop, List.length_take]; rfl)) ?_; (with_reducible refine (entries_bytes.calls k _ _ y141 t144 _ ?side1 ?side2 A22.out).mono ?_); (case side1 => repeat (first | exact (Kd.R_reads' HO143.out).2.2 | (with_reducible refine Kd.C_alloc ?_ _) | (with_reducible refine Kd.C_drewN ?_ _) | (with_reducible refine Kd.C_drew ?_))); (case side2 => exact (Kd.R_reads' HO143.out).2.1); rintro e w35 ⟨v145, rfl, ho0, hb⟩; refine ⟨_, rfl, ?_⟩; have n0_ := Aside0.mk (Kd.R_below (by (with_reducible repeat (first | apply Kd.R_alloc | apply Kd.R_drewN | apply Kd.R_drew)); exact HO143.out) hb); have n1_ := Aside0.mk (Kd.R_lower ho0 (below_size (by repeat (first | (with_reducible first | exact HB.out | apply below_alloc | apply pw_below_drewN | apply below_drew1 | refine below_set ?_ GE132.out) | exact HB.out)))); have n2_ := Aside0.mk (blk_below (g := gb132) (o := .cells #[.string a1_0, .int .i64 a1_1] 28 (0, 0)) (by (with_reducible repeat (first | refine blk_drewN ?_ _ | refine blk_drew ?_ | refine blk_alloc ?_ _)); exact BK132.out) hb); have n3_ := Aside0.mk (below_step (by repeat (first | (with_reducible first | exact HB.out | apply below_alloc | apply pw_below_drewN | apply below_drew1 | refine below_set ?_ GE132.out) | exact HB.out)) hb); clear HO143; clear BK132; clear HB; have HO143 := n0_; have HO146 := n1_; have BK132 := n2_; have HB := n3_; clear n0_ n1_ n2_ n3_; (try clear hb); (try clear hb2); (try clear hk); (try clear hi); (try clear ho0)))
              go_ret2
              exact ⟨_, by first | rfl | (simp [errW_none, errW_some] <;> rfl) | (simp [*, errW_none, errW_some] <;> rfl), by (with_reducible repeat (first | apply Kd.R_alloc | apply Kd.R_drewN | apply Kd.R_drew)); exact HO146.out, by repeat (first | (with_reducible first | exact HB.out | apply below_alloc | apply pw_below_drewN | apply below_drew1 | refine below_set ?_ GE132.out) | exact HB.out)⟩
            · rw [if_neg c21] at H
              exact absurd H (by simp)
          · rw [if_neg c20] at H
            have c20b0 : decide (t140 < 0) = false := decide_eq_false c20
            clear c20
            by_cases c36 : 0 ≤ t140
            · rw [if_pos c36] at H
              have c36b0 : decide (0 ≤ t140) = true := decide_eq_true c36
              clear c36
              by_cases c37 : t140 < (t135.length : Int)
              · rw [if_pos c37] at H
                have c37b0 : decide (t140 < (t135.length : Int)) = true := decide_eq_true c37
                clear c37
                obtain ⟨y147, hy147⟩ : ∃ y_ : List (S28), y_ = (t135.set (t140 : Int).toNat (⟨a1_0, a1_1⟩ : S28)) := ⟨_, rfl⟩
                replace H : ((entries_bytes.f k y147).bind fun t148 => (some (t148, 0))) = some (r1, r2) := by first | (rw [hy147]; with_reducible exact H) | (have H2_ := (Option.bind_some _ _).symm.trans H; rw [hy147]; with_reducible exact H2_) | (have H2_ := (Option.bind_some _ _).symm.trans H; with_reducible exact H2_) | with_reducible exact H | (rw [hy147]; exact H) | exact H
                have Ny147 := Aside0.mk hy147
                clear hy147
                replace H := Option.bind_eq_some_iff.mp H
                obtain ⟨t148, A390, H⟩ := H
                replace H : (some (t148, 0)) = some (r1, r2) := H
                have A39 := Aside0.mk A390
                clear A390
                simp only [Option.some.injEq, Prod.mk.injEq] at H
                obtain ⟨rfl, rfl⟩ := H
                go_enter Try.func14, Try.ntmps14
                go_wp2_with (first | ((with_reducible refine gate_dst (N := 3) rfl ?_); refine box_event ?hg (N := 3) ?hd (cs := #[.string a1_0, .int .i64 a1_1]) (t := 28) ?hr ?_; (case hd => rfl); (case hg => rfl); (case hr => first | (go_simp; done) | (go_simp; rfl)); intro gb132 hg w40 hbox hb; have n0_ := Aside0.mk (below_step (by repeat (first | (with_reducible first | exact HB.out | apply below_alloc | apply pw_below_drewN | apply below_drew1) | exact HB.out)) hb); have n1_ := Aside0.mk (hbox); have n2_ := Aside0.mk ((by rw [hg]; exact (below_size (by repeat (first | (with_reducible first | exact HB.out | apply below_alloc | apply pw_below_drewN | apply below_drew1) | exact HB.out))) : w.heap.size ≤ gb132)); have n3_ := Aside0.mk ((by rw [hg]; exact (below_size (by repeat (first | (with_reducible first | exact HB.out | apply below_alloc | apply pw_below_drewN | apply below_drew1) | exact HB.out))) : w.heap.size ≤ gb132)); clear HB; have HB := n0_; have BK132 := n1_; have GW132 := n2_; have GE132 := n3_; clear n0_ n1_ n2_ n3_; clear hb hbox hg; have hcz41_0 : w40.cell? ⟨gb132, 0, none⟩ = some (.string a1_0) := (blk_cell BK132.out 0).trans rfl; have hcz41_1 : w40.cell? ⟨gb132, 1, none⟩ = some (.int .i64 a1_1) := (blk_cell BK132.out 1).trans rfl; have hfz41_0 := blk_frozen BK132.out 0; have hfz41_1 := blk_frozen BK132.out 1) | ((with_reducible refine gate_callee (f := 10) rfl ?_); refine goesL_ (some 12) rfl rfl Try.func10 (by kernel_rfl) rfl #[.string a1_0] rfl (by (try simp only [List.map_toArray, List.map_cons, List.map_nil]); first | done | rfl | (simp only [List.length_drop, List.length_take]; rfl)) ?_; (with_reducible refine (entries_Check.calls a1_0 t133 _ A3.out).mono ?_); rintro e w42 ⟨rfl, hb⟩; refine ⟨_, rfl, ?_⟩; have n0_ := Aside0.mk (blk_below (g := gb132) (o := .cells #[.string a1_0, .int .i64 a1_1] 28 (0, 0)) (by (with_reducible repeat (first | refine blk_drewN ?_ _ | refine blk_drew ?_ | refine blk_alloc ?_ _)); exact BK132.out) hb); have n1_ := Aside0.mk (below_step (by repeat (first | (with_reducible first | exact HB.out | apply below_alloc | apply pw_below_drewN | apply below_drew1 | refine below_set ?_ GE132.out) | exact HB.out)) hb); clear BK132; clear HB; have BK132 := n0_; have HB := n1_; clear n0_ n1_; (try clear hb); (try clear hb2); (try clear hk); (try clear hi); have hcz43_0 : w42.cell? ⟨gb132, 0, none⟩ = some (.string a1_0) := (blk_cell BK132.out 0).trans rfl; have hcz43_1 : w42.cell? ⟨gb132, 1, none⟩ = some (.int .i64 a1_1) := (blk_cell BK132.out 1).trans rfl; have hfz43_0 := blk_frozen BK132.out 0; have hfz43_1 := blk_frozen BK132.out 1) | ((with_reducible refine gate_callee (f := 28) rfl ?_); refine goesL_ (some 18) rfl rfl Try.func28 (by kernel_rfl) rfl #[.int .i64 a1_1] rfl (by (try simp only [List.map_toArray, List.map_cons, List.map_nil]); first | done | rfl | (simp only [List.length_drop, List.length_take]; rfl)) ?_; (with_reducible refine (entries_number.calls a1_1 true _ A5.out).mono ?_); rintro e w' ⟨rfl, ⟨nd, rfl⟩⟩; refine ⟨_, rfl, ?_⟩; (try (rw [drewN_self w42]; generalize hq_ : World.drewN w42 _ = w42; have n0_ : Aside0 (w42.heap[gb132]? = some (.cells #[.string a1_0, .int .i64 a1_1] 28 (0, 0))) := ⟨by rw [← hq_]; exact (by (with_reducible repeat (first | refine blk_drewN ?_ _ | refine blk_drew ?_ | refine blk_alloc ?_ _)); exact BK132.out)⟩; have n1_ : Aside0 (Below w.heap.size w w42) := ⟨by rw [← hq_]; exact (by repeat (first | (with_reducible first | exact HB.out | apply below_alloc | apply pw_below_drewN | apply below_drew1 | refine below_set ?_ GE132.out) | exact HB.out))⟩; clear BK132 HB hq_; have BK132 := n0_; have HB := n1_; clear n0_ n1_))) | ((with_reducible refine gate_callee (f := 29) rfl ?_); refine goesL_ (some 22) rfl rfl Try.func29 (by kernel_rfl) rfl #[.slice A0 l0.length c0] rfl (by (try simp only [List.map_toArray, List.map_cons, List.map_nil]); first | done | rfl | (simp only [List.length_drop, List.length_take]; rfl)) ?_; (with_reducible refine (entries_read.calls _ _ l0 t135 t136 _ ?side1 ?side2 A7.out).mono ?_); (case side1 => repeat (first | exact (Kd.C_below HR0.out HB.out) | (with_reducible refine Kd.C_alloc ?_ _) | (with_reducible refine Kd.C_drewN ?_ _) | (with_reducible refine Kd.C_drew ?_))); (case side2 => exact HC0.out); rintro e w44 ⟨v137, rfl, ho0, hb⟩; refine ⟨_, rfl, ?_⟩; have n0_ := Aside0.mk (Kd.R_lower (Kd.R_newB ho0 (g := gb132) (o := .cells #[.string a1_0, .int .i64 a1_1] 28 (0, 0)) (by (with_reducible repeat (first | refine blk_drewN ?_ _ | refine blk_drew ?_ | refine blk_alloc ?_ _)); exact BK132.out)) (below_size (by repeat (first | (with_reducible first | exact HB.out | apply below_alloc | apply pw_below_drewN | apply below_drew1 | refine below_set ?_ GE132.out) | exact HB.out)))); have n1_ := Aside0.mk (blk_below (g := gb132) (o := .cells #[.string a1_0, .int .i64 a1_1] 28 (0, 0)) (by (with_reducible repeat (first | refine blk_drewN ?_ _ | refine blk_drew ?_ | refine blk_alloc ?_ _)); exact BK132.out) hb); have n2_ := Aside0.mk (below_step (by repeat (first | (with_reducible first | exact HB.out | apply below_alloc | apply pw_below_drewN | apply below_drew1 | refine below_set ?_ GE132.out) | exact HB.out)) hb); clear BK132; clear HB; have HO138 := n0_; have BK132 := n1_; have HB := n2_; clear n0_ n1_ n2_; (try clear hb); (try clear hb2); (try clear hk); (try clear hi); (try clear ho0); have hcz45_0 : w44.cell? ⟨gb132, 0, none⟩ = some (.string a1_0) := (blk_cell BK132.out 0).trans rfl; have hcz45_1 : w44.cell? ⟨gb132, 1, none⟩ = some (.int .i64 a1_1) := (blk_cell BK132.out 1).trans rfl; have hfz45_0 := blk_frozen BK132.out 0; have hfz45_1 := blk_frozen BK132.out 1; obtain ⟨Ao46, co46, eo46⟩ := Kd.R_slice HO138.out; subst eo46) | ((with_reducible refine gate_callee (f := 30) rfl ?_); refine goesL_ (some 33) rfl rfl Try.func30 (by kernel_rfl) rfl #[.slice Ao46 t135.length co46, .string a1_0] rfl (by (try simp only [List.map_toArray, List.map_cons, List.map_nil]); first | done | rfl | (simp only [List.length_drop, List.length_take]; rfl)) ?_; (with_reducible refine (entries_at.calls _ _ t135 a1_0 t139 _ ?side1 ?side2 A9.out).mono ?_); (case side1 => repeat (first | exact (Kd.R_reads' HO138.out).2.2 | (with_reducible refine Kd.C_alloc ?_ _) | (with_reducible refine Kd.C_drewN ?_ _) | (with_reducible refine Kd.C_drew ?_))); (case side2 => exact (Kd.R_reads' HO138.out).2.1); rintro e w47 ⟨rfl, hb⟩; refine ⟨_, rfl, ?_⟩; have n0_ := Aside0.mk (Kd.R_below (by (with_reducible repeat (first | apply Kd.R_alloc | apply Kd.R_drewN | apply Kd.R_drew)); exact HO138.out) hb); have n1_ := Aside0.mk (blk_below (g := gb132) (o := .cells #[.string a1_0, .int .i64 a1_1] 28 (0, 0)) (by (with_reducible repeat (first | refine blk_drewN ?_ _ | refine blk_drew ?_ | refine blk_alloc ?_ _)); exact BK132.out) hb); have n2_ := Aside0.mk (below_step (by repeat (first | (with_reducible first | exact HB.out | apply below_alloc | apply pw_below_drewN | apply below_drew1 | refine below_set ?_ GE132.out) | exact HB.out)) hb); clear HO138; clear BK132; clear HB; have HO138 := n0_; have BK132 := n1_; have HB := n2_; clear n0_ n1_ n2_; (try clear hb); (try clear hb2); (try clear hk); (try clear hi)) | ((with_reducible refine gate_callee (f := 31) rfl ?_); refine goesL_ (some 36) rfl rfl Try.func31 (by kernel_rfl) rfl #[.slice Ao46 t135.length co46, .func (.func 32) #[] #[]] rfl (by (try simp only [List.map_toArray, List.map_cons, List.map_nil]); first | done | rfl | (simp only [List.length_drop, List.length_take]; rfl)) ?_; (with_reducible refine (entries_Entry_31_at_entries_Insert_lit1.calls k _ _ t135 t140 _ ?side1 ?side2 A19.out).mono ?_); (case side1 => repeat (first | exact (Kd.R_reads' HO138.out).2.2 | (with_reducible refine Kd.C_alloc ?_ _) | (with_reducible refine Kd.C_drewN ?_ _) | (with_reducible refine Kd.C_drew ?_))); (case side2 => exact (Kd.R_reads' HO138.out).2.1); rintro e w48 ⟨rfl, hb⟩; refine ⟨_, rfl, ?_⟩; have n0_ := Aside0.mk (Kd.R_below (by (with_reducible repeat (first | apply Kd.R_alloc | apply Kd.R_drewN | apply Kd.R_drew)); exact HO138.out) hb); have n1_ := Aside0.mk (blk_below (g := gb132) (o := .cells #[.string a1_0, .int .i64 a1_1] 28 (0, 0)) (by (with_reducible repeat (first | refine blk_drewN ?_ _ | refine blk_drew ?_ | refine blk_alloc ?_ _)); exact BK132.out) hb); have n2_ := Aside0.mk (below_step (by repeat (first | (with_reducible first | exact HB.out | apply below_alloc | apply pw_below_drewN | apply below_drew1 | refine below_set ?_ GE132.out) | exact HB.out)) hb); clear HO138; clear BK132; clear HB; have HO138 := n0_; have BK132 := n1_; have HB := n2_; clear n0_ n1_ n2_; (try clear hb); (try clear hb2); (try clear hk); (try clear hi); have hcz49_0 : w48.cell? ⟨gb132, 0, none⟩ = some (.string a1_0) := (blk_cell BK132.out 0).trans rfl; have hcz49_1 : w48.cell? ⟨gb132, 1, none⟩ = some (.int .i64 a1_1) := (blk_cell BK132.out 1).trans rfl; have hfz49_0 := blk_frozen BK132.out 0; have hfz49_1 := blk_frozen BK132.out 1; have p38 : 0 ≤ (t140 : Int) := of_decide_eq_true (by first | (with_reducible assumption) | assumption); have q38 : (t140 : Int) < ((t135.length : Int) : Int) := of_decide_eq_true (by first | (with_reducible assumption) | assumption); obtain ⟨go38, co38, eo38, gb38, gl38, cl38, HG38⟩ := Kd.R_form HO138.out (by omega); (first | cases eo38 | (injection eo38 with ea_ en_ ec_; (first | subst ea_ | (injection ea_ with ea_; subst ea_)); subst ec_; clear en_)); have GB38 := Aside0.mk gb38; have GG38 := Aside0.mk HG38; clear gb38 gl38 HG38; obtain ⟨ce38, hcl38, hM38, hcc38, hfr38⟩ := Kd.R_elem HO138.out z28 (t140 : Int) p38 q38; obtain rfl := k28_openM hM38; have hx38_0 : w48.cell? ⟨go38, (t140 : Int).toNat * 2, none⟩ = some (.string ((rd_T28 t135 t140).f0)) := hcc38 0 _ rfl; have hx38_1 : w48.cell? ⟨go38, (t140 : Int).toNat * 2 + 1, none⟩ = some (.int .i64 ((rd_T28 t135 t140).f1)) := hcc38 1 _ rfl; have hf38_0 : w48.frozen? ⟨go38, (t140 : Int).toNat * 2, none⟩ = false := hfr38 0; have hf38_1 : w48.frozen? ⟨go38, (t140 : Int).toNat * 2 + 1, none⟩ = false := hfr38 1; clear hcl38 hcc38 hfr38 hM38; replace p38 := eq_true p38; replace q38 := eq_true q38; have n_ := Aside0.mk (Kd.R_mono (ok' := (fun k_ => k_ ≠ gb132)) HO138.out (fun k_ hk => hk.2)); clear HO138; have HO138 := n_; clear n_; have HX50 := Aside0.mk (show Kd.R k28 28 w48 w.heap.size (fun k_ => k_ ≠ gb132) (.slice (some ⟨go38, 0, none⟩) t135.length co46) t135 from (by (with_reducible repeat (first | apply Kd.R_alloc | apply Kd.R_drewN | apply Kd.R_drew)); exact HO138.out)); obtain ⟨ce50, hcl50, hM50, hcc50, hfr50⟩ := Kd.R_elem HX50.out z28 (t140 : Int) (of_decide_eq_true (by first | (with_reducible assumption) | assumption)) (by have h_ : (t140 : Int) < ((t135.length : Int) : Int) := of_decide_eq_true (by first | (with_reducible assumption) | assumption); first | exact h_ | (have e_ := (Kd.R_reads' HO138.out).1; omega) | simpa using h_); obtain rfl := k28_openM hM50; have HP50 := Kd.R_seg HX50.out (t140 : Int) (of_decide_eq_true (by first | (with_reducible assumption) | assumption)) (by have h_ : (t140 : Int) < ((t135.length : Int) : Int) := of_decide_eq_true (by first | (with_reducible assumption) | assumption); first | exact h_ | (have e_ := (Kd.R_reads' HO138.out).1; omega) | simpa using h_) (seg := [.string a1_0, .int .i64 a1_1]) (j := 0) hcl50 hcc50 (show 2 ≤ 2 from by decide) (x' := (⟨a1_0, a1_1⟩ : S28)) (k28_mkM _ _ _ (⟨a1_0, a1_1⟩ : S28) ) (fun _ hk => hk); have hx50_0 := hcc50 0 _ rfl; (try simp only [show (k28).sz = 2 from rfl, Nat.mul_one, Nat.add_zero] at hx50_0); have hf50_0 := hfr50 0; (try simp only [show (k28).sz = 2 from rfl, Nat.mul_one, Nat.add_zero] at hf50_0); have hx50_1 := hcc50 1 _ rfl; (try simp only [show (k28).sz = 2 from rfl, Nat.mul_one, Nat.add_zero] at hx50_1); have hf50_1 := hfr50 1; (try simp only [show (k28).sz = 2 from rfl, Nat.mul_one, Nat.add_zero] at hf50_1); clear hcl50 hcc50 hfr50 hM50) | ((with_reducible refine gate_store (t := 28) (p := 46) rfl ?_); refine store_event (t := 28) (p := 46) (v := ?vo_w51) (w1 := ((w48.setCell ⟨go38, (t140 : Int).toNat * 2, none⟩ (.string a1_0)).setCell ⟨go38, (t140 : Int).toNat * 2 + 1, none⟩ (.int .i64 a1_1))) ?hg ?ho ?hn ?hr ?_; (case ho => rfl); (case hg => rfl); (case hn => rfl); (case hr => first | (go_simp; done) | (go_simp; rfl)); intro w51 hw; have hg : w48.grownBy w51 (some go38) := (by rw [hw]; exact HP50.2); have hp_ : Kd.R k28 28 w51 w.heap.size (fun k_ => k_ ≠ gb132) (.slice (some ⟨go38, 0, none⟩) t135.length co46) y147 := (by rw [hw, Ny147.out]; exact HP50.1); clear HP50; have n0_ := Aside0.mk (blk_grown (g := gb132) (o := .cells #[.string a1_0, .int .i64 a1_1] 28 (0, 0)) (by (with_reducible repeat (first | refine blk_drewN ?_ _ | refine blk_drew ?_ | refine blk_alloc ?_ _)); exact BK132.out) hg (Kd.R_away HO138.out (fun _ hk => hk))); have n1_ := Aside0.mk (hp_); have n2_ := Aside0.mk ((by rw [hw]; exact below_set (below_set (HB.out) GB38.out) GB38.out : Below w.heap.size w w51)); clear BK132; clear HO138; clear HB; have BK132 := n0_; have HO138 := n1_; have HB := n2_; clear n0_ n1_ n2_; clear hg hw hp_) | ((with_reducible refine gate_callee (f := 33) rfl ?_); refine goesL_ (some 48) rfl rfl Try.func33 (by kernel_rfl) rfl #[.slice (some ⟨go38, 0, none⟩) y147.length co46] rfl (by (try simp only [List.map_toArray, List.map_cons, List.map_nil]); first | done | (rw [show y147.length = t135.length from (Kd.R_reads' HO138.out).1.symm] <;> rfl) | rfl | (simp only [List.length_drop, List.length_take]; rfl)) ?_; (with_reducible refine (entries_bytes.calls k _ _ y147 t148 _ ?side1 ?side2 A39.out).mono ?_); (case side1 => repeat (first | exact (Kd.R_reads' HO138.out).2.2 | (with_reducible refine Kd.C_alloc ?_ _) | (with_reducible refine Kd.C_drewN ?_ _) | (with_reducible refine Kd.C_drew ?_))); (case side2 => rw [show y147.length = t135.length from (Kd.R_reads' HO138.out).1.symm]; exact (Kd.R_reads' HO138.out).2.1); rintro e w52 ⟨v149, rfl, ho0, hb⟩; refine ⟨_, rfl, ?_⟩; have n0_ := Aside0.mk (Kd.R_below (by (with_reducible repeat (first | apply Kd.R_alloc | apply Kd.R_drewN | apply Kd.R_drew)); exact HO138.out) hb); have n1_ := Aside0.mk (Kd.R_lower ho0 (below_size (by repeat (first | (with_reducible first | exact HB.out | apply below_alloc | apply pw_below_drewN | apply below_drew1 | refine below_set ?_ GE132.out) | exact HB.out)))); have n2_ := Aside0.mk (blk_below (g := gb132) (o := .cells #[.string a1_0, .int .i64 a1_1] 28 (0, 0)) (by (with_reducible repeat (first | refine blk_drewN ?_ _ | refine blk_drew ?_ | refine blk_alloc ?_ _)); exact BK132.out) hb); have n3_ := Aside0.mk (below_step (by repeat (first | (with_reducible first | exact HB.out | apply below_alloc | apply pw_below_drewN | apply below_drew1 | refine below_set ?_ GE132.out) | exact HB.out)) hb); clear HO138; clear BK132; clear HB; have HO138 := n0_; have HO150 := n1_; have BK132 := n2_; have HB := n3_; clear n0_ n1_ n2_ n3_; (try clear hb); (try clear hb2); (try clear hk); (try clear hi); (try clear ho0)))
                go_ret2
                exact ⟨_, by first | rfl | (simp [errW_none, errW_some] <;> rfl) | (simp [*, errW_none, errW_some] <;> rfl), by (with_reducible repeat (first | apply Kd.R_alloc | apply Kd.R_drewN | apply Kd.R_drew)); exact HO150.out, by repeat (first | (with_reducible first | exact HB.out | apply below_alloc | apply pw_below_drewN | apply below_drew1 | refine below_set ?_ GE132.out) | exact HB.out)⟩
              · rw [if_neg c37] at H
                exact absurd H (by simp)
            · rw [if_neg c36] at H
              exact absurd H (by simp)
      · rw [if_neg c8] at H
        have c8b0 : (t136 == 0) = false := beq_eq_false_iff_ne.mpr c8
        have c8b1 : (t136 != 0) = true := bne_iff_ne.mpr c8
        simp only [Option.some.injEq, Prod.mk.injEq] at H
        obtain ⟨rfl, rfl⟩ := H
        go_enter Try.func14, Try.ntmps14
        go_wp2_with (first | ((with_reducible refine gate_dst (N := 3) rfl ?_); refine box_event ?hg (N := 3) ?hd (cs := #[.string a1_0, .int .i64 a1_1]) (t := 28) ?hr ?_; (case hd => rfl); (case hg => rfl); (case hr => first | (go_simp; done) | (go_simp; rfl)); intro gb132 hg w53 hbox hb; have n0_ := Aside0.mk (below_step (by repeat (first | (with_reducible first | exact HB.out | apply below_alloc | apply pw_below_drewN | apply below_drew1) | exact HB.out)) hb); have n1_ := Aside0.mk (hbox); have n2_ := Aside0.mk ((by rw [hg]; exact (below_size (by repeat (first | (with_reducible first | exact HB.out | apply below_alloc | apply pw_below_drewN | apply below_drew1) | exact HB.out))) : w.heap.size ≤ gb132)); have n3_ := Aside0.mk ((by rw [hg]; exact (below_size (by repeat (first | (with_reducible first | exact HB.out | apply below_alloc | apply pw_below_drewN | apply below_drew1) | exact HB.out))) : w.heap.size ≤ gb132)); clear HB; have HB := n0_; have BK132 := n1_; have GW132 := n2_; have GE132 := n3_; clear n0_ n1_ n2_ n3_; clear hb hbox hg; have hcz54_0 : w53.cell? ⟨gb132, 0, none⟩ = some (.string a1_0) := (blk_cell BK132.out 0).trans rfl; have hcz54_1 : w53.cell? ⟨gb132, 1, none⟩ = some (.int .i64 a1_1) := (blk_cell BK132.out 1).trans rfl; have hfz54_0 := blk_frozen BK132.out 0; have hfz54_1 := blk_frozen BK132.out 1) | ((with_reducible refine gate_callee (f := 10) rfl ?_); refine goesL_ (some 12) rfl rfl Try.func10 (by kernel_rfl) rfl #[.string a1_0] rfl (by (try simp only [List.map_toArray, List.map_cons, List.map_nil]); first | done | rfl | (simp only [List.length_drop, List.length_take]; rfl)) ?_; (with_reducible refine (entries_Check.calls a1_0 t133 _ A3.out).mono ?_); rintro e w55 ⟨rfl, hb⟩; refine ⟨_, rfl, ?_⟩; have n0_ := Aside0.mk (blk_below (g := gb132) (o := .cells #[.string a1_0, .int .i64 a1_1] 28 (0, 0)) (by (with_reducible repeat (first | refine blk_drewN ?_ _ | refine blk_drew ?_ | refine blk_alloc ?_ _)); exact BK132.out) hb); have n1_ := Aside0.mk (below_step (by repeat (first | (with_reducible first | exact HB.out | apply below_alloc | apply pw_below_drewN | apply below_drew1 | refine below_set ?_ GE132.out) | exact HB.out)) hb); clear BK132; clear HB; have BK132 := n0_; have HB := n1_; clear n0_ n1_; (try clear hb); (try clear hb2); (try clear hk); (try clear hi); have hcz56_0 : w55.cell? ⟨gb132, 0, none⟩ = some (.string a1_0) := (blk_cell BK132.out 0).trans rfl; have hcz56_1 : w55.cell? ⟨gb132, 1, none⟩ = some (.int .i64 a1_1) := (blk_cell BK132.out 1).trans rfl; have hfz56_0 := blk_frozen BK132.out 0; have hfz56_1 := blk_frozen BK132.out 1) | ((with_reducible refine gate_callee (f := 28) rfl ?_); refine goesL_ (some 18) rfl rfl Try.func28 (by kernel_rfl) rfl #[.int .i64 a1_1] rfl (by (try simp only [List.map_toArray, List.map_cons, List.map_nil]); first | done | rfl | (simp only [List.length_drop, List.length_take]; rfl)) ?_; (with_reducible refine (entries_number.calls a1_1 true _ A5.out).mono ?_); rintro e w' ⟨rfl, ⟨nd, rfl⟩⟩; refine ⟨_, rfl, ?_⟩) | ((with_reducible refine gate_callee (f := 29) rfl ?_); refine goesL_ (some 22) rfl rfl Try.func29 (by kernel_rfl) rfl #[.slice A0 l0.length c0] rfl (by (try simp only [List.map_toArray, List.map_cons, List.map_nil]); first | done | rfl | (simp only [List.length_drop, List.length_take]; rfl)) ?_; (with_reducible refine (entries_read.calls _ _ l0 t135 t136 _ ?side1 ?side2 A7.out).mono ?_); (case side1 => repeat (first | exact (Kd.C_below HR0.out (by repeat (first | (with_reducible first | exact HB.out | apply below_alloc | apply pw_below_drewN | apply below_drew1 | refine below_set ?_ GE132.out) | exact HB.out))) | (with_reducible refine Kd.C_alloc ?_ _) | (with_reducible refine Kd.C_drewN ?_ _) | (with_reducible refine Kd.C_drew ?_))); (case side2 => exact HC0.out); rintro e w57 ⟨v137, rfl, ho0, hb⟩; refine ⟨_, rfl, ?_⟩; have n0_ := Aside0.mk (Kd.R_lower (Kd.R_newB ho0 (g := gb132) (o := .cells #[.string a1_0, .int .i64 a1_1] 28 (0, 0)) (by (with_reducible repeat (first | refine blk_drewN ?_ _ | refine blk_drew ?_ | refine blk_alloc ?_ _)); exact BK132.out)) (below_size (by repeat (first | (with_reducible first | exact HB.out | apply below_alloc | apply pw_below_drewN | apply below_drew1 | refine below_set ?_ GE132.out) | exact HB.out)))); have n1_ := Aside0.mk (blk_below (g := gb132) (o := .cells #[.string a1_0, .int .i64 a1_1] 28 (0, 0)) (by (with_reducible repeat (first | refine blk_drewN ?_ _ | refine blk_drew ?_ | refine blk_alloc ?_ _)); exact BK132.out) hb); have n2_ := Aside0.mk (below_step (by repeat (first | (with_reducible first | exact HB.out | apply below_alloc | apply pw_below_drewN | apply below_drew1 | refine below_set ?_ GE132.out) | exact HB.out)) hb); clear BK132; clear HB; have HO138 := n0_; have BK132 := n1_; have HB := n2_; clear n0_ n1_ n2_; (try clear hb); (try clear hb2); (try clear hk); (try clear hi); (try clear ho0)))
        go_ret2
        exact ⟨_, by first | rfl | (simp [errW_none, errW_some] <;> rfl) | (simp [*, errW_none, errW_some] <;> rfl), by first | exact Kd.R_nil _ _ _ _ _ | exact Kd.N_nil _ _ _ _ _ | exact Kd.V_nil _ _ _ _ _ | exact Kd.Q_nil _ _ _ _ _ | exact Kd.S_nil _ _ _ _ _, by repeat (first | (with_reducible first | exact HB.out | apply below_alloc | apply pw_below_drewN | apply below_drew1 | refine below_set ?_ GE132.out) | exact HB.out)⟩
    · replace c6 := Bool.eq_false_iff.mpr c6
      subst c6
      have H1 : (some (([] : List Int), 1)) = some (r1, r2) := by rw [if_neg (show ¬ (false = true) by decide)] at H; exact H
      clear H
      have H := H1
      clear H1
      simp only [Option.some.injEq, Prod.mk.injEq] at H
      obtain ⟨rfl, rfl⟩ := H
      go_enter Try.func14, Try.ntmps14
      go_wp2_with (first | ((with_reducible refine gate_dst (N := 3) rfl ?_); refine box_event ?hg (N := 3) ?hd (cs := #[.string a1_0, .int .i64 a1_1]) (t := 28) ?hr ?_; (case hd => rfl); (case hg => rfl); (case hr => first | (go_simp; done) | (go_simp; rfl)); intro gb132 hg w58 hbox hb; have n0_ := Aside0.mk (below_step (by repeat (first | (with_reducible first | exact HB.out | apply below_alloc | apply pw_below_drewN | apply below_drew1) | exact HB.out)) hb); have n1_ := Aside0.mk (hbox); have n2_ := Aside0.mk ((by rw [hg]; exact (below_size (by repeat (first | (with_reducible first | exact HB.out | apply below_alloc | apply pw_below_drewN | apply below_drew1) | exact HB.out))) : w.heap.size ≤ gb132)); have n3_ := Aside0.mk ((by rw [hg]; exact (below_size (by repeat (first | (with_reducible first | exact HB.out | apply below_alloc | apply pw_below_drewN | apply below_drew1) | exact HB.out))) : w.heap.size ≤ gb132)); clear HB; have HB := n0_; have BK132 := n1_; have GW132 := n2_; have GE132 := n3_; clear n0_ n1_ n2_ n3_; clear hb hbox hg; have hcz59_0 : w58.cell? ⟨gb132, 0, none⟩ = some (.string a1_0) := (blk_cell BK132.out 0).trans rfl; have hcz59_1 : w58.cell? ⟨gb132, 1, none⟩ = some (.int .i64 a1_1) := (blk_cell BK132.out 1).trans rfl; have hfz59_0 := blk_frozen BK132.out 0; have hfz59_1 := blk_frozen BK132.out 1) | ((with_reducible refine gate_callee (f := 10) rfl ?_); refine goesL_ (some 12) rfl rfl Try.func10 (by kernel_rfl) rfl #[.string a1_0] rfl (by (try simp only [List.map_toArray, List.map_cons, List.map_nil]); first | done | rfl | (simp only [List.length_drop, List.length_take]; rfl)) ?_; (with_reducible refine (entries_Check.calls a1_0 t133 _ A3.out).mono ?_); rintro e w60 ⟨rfl, hb⟩; refine ⟨_, rfl, ?_⟩; have n0_ := Aside0.mk (blk_below (g := gb132) (o := .cells #[.string a1_0, .int .i64 a1_1] 28 (0, 0)) (by (with_reducible repeat (first | refine blk_drewN ?_ _ | refine blk_drew ?_ | refine blk_alloc ?_ _)); exact BK132.out) hb); have n1_ := Aside0.mk (below_step (by repeat (first | (with_reducible first | exact HB.out | apply below_alloc | apply pw_below_drewN | apply below_drew1 | refine below_set ?_ GE132.out) | exact HB.out)) hb); clear BK132; clear HB; have BK132 := n0_; have HB := n1_; clear n0_ n1_; (try clear hb); (try clear hb2); (try clear hk); (try clear hi); have hcz61_0 : w60.cell? ⟨gb132, 0, none⟩ = some (.string a1_0) := (blk_cell BK132.out 0).trans rfl; have hcz61_1 : w60.cell? ⟨gb132, 1, none⟩ = some (.int .i64 a1_1) := (blk_cell BK132.out 1).trans rfl; have hfz61_0 := blk_frozen BK132.out 0; have hfz61_1 := blk_frozen BK132.out 1) | ((with_reducible refine gate_callee (f := 28) rfl ?_); refine goesL_ (some 18) rfl rfl Try.func28 (by kernel_rfl) rfl #[.int .i64 a1_1] rfl (by (try simp only [List.map_toArray, List.map_cons, List.map_nil]); first | done | rfl | (simp only [List.length_drop, List.length_take]; rfl)) ?_; (with_reducible refine (entries_number.calls a1_1 false _ A5.out).mono ?_); rintro e w' ⟨rfl, ⟨nd, rfl⟩⟩; refine ⟨_, rfl, ?_⟩))
      go_ret2
      exact ⟨_, by first | rfl | (simp [errW_none, errW_some] <;> rfl) | (simp [*, errW_none, errW_some] <;> rfl), by first | exact Kd.R_nil _ _ _ _ _ | exact Kd.N_nil _ _ _ _ _ | exact Kd.V_nil _ _ _ _ _ | exact Kd.Q_nil _ _ _ _ _ | exact Kd.S_nil _ _ _ _ _, by repeat (first | (with_reducible first | exact HB.out | apply below_alloc | apply pw_below_drewN | apply below_drew1 | refine below_set ?_ GE132.out) | exact HB.out)⟩
  · rw [if_neg c4] at H
    have c4b0 : (t133 == 0) = false := beq_eq_false_iff_ne.mpr c4
    have c4b1 : (t133 != 0) = true := bne_iff_ne.mpr c4
    simp only [Option.some.injEq, Prod.mk.injEq] at H
    obtain ⟨rfl, rfl⟩ := H
    go_enter Try.func14, Try.ntmps14
    go_wp2_with (first | ((with_reducible refine gate_dst (N := 3) rfl ?_); refine box_event ?hg (N := 3) ?hd (cs := #[.string a1_0, .int .i64 a1_1]) (t := 28) ?hr ?_; (case hd => rfl); (case hg => rfl); (case hr => first | (go_simp; done) | (go_simp; rfl)); intro gb132 hg w62 hbox hb; have n0_ := Aside0.mk (below_step (by repeat (first | (with_reducible first | exact HB.out | apply below_alloc | apply pw_below_drewN | apply below_drew1) | exact HB.out)) hb); have n1_ := Aside0.mk (hbox); have n2_ := Aside0.mk ((by rw [hg]; exact (below_size (by repeat (first | (with_reducible first | exact HB.out | apply below_alloc | apply pw_below_drewN | apply below_drew1) | exact HB.out))) : w.heap.size ≤ gb132)); have n3_ := Aside0.mk ((by rw [hg]; exact (below_size (by repeat (first | (with_reducible first | exact HB.out | apply below_alloc | apply pw_below_drewN | apply below_drew1) | exact HB.out))) : w.heap.size ≤ gb132)); clear HB; have HB := n0_; have BK132 := n1_; have GW132 := n2_; have GE132 := n3_; clear n0_ n1_ n2_ n3_; clear hb hbox hg; have hcz63_0 : w62.cell? ⟨gb132, 0, none⟩ = some (.string a1_0) := (blk_cell BK132.out 0).trans rfl; have hcz63_1 : w62.cell? ⟨gb132, 1, none⟩ = some (.int .i64 a1_1) := (blk_cell BK132.out 1).trans rfl; have hfz63_0 := blk_frozen BK132.out 0; have hfz63_1 := blk_frozen BK132.out 1) | ((with_reducible refine gate_callee (f := 10) rfl ?_); refine goesL_ (some 12) rfl rfl Try.func10 (by kernel_rfl) rfl #[.string a1_0] rfl (by (try simp only [List.map_toArray, List.map_cons, List.map_nil]); first | done | rfl | (simp only [List.length_drop, List.length_take]; rfl)) ?_; (with_reducible refine (entries_Check.calls a1_0 t133 _ A3.out).mono ?_); rintro e w64 ⟨rfl, hb⟩; refine ⟨_, rfl, ?_⟩; have n0_ := Aside0.mk (blk_below (g := gb132) (o := .cells #[.string a1_0, .int .i64 a1_1] 28 (0, 0)) (by (with_reducible repeat (first | refine blk_drewN ?_ _ | refine blk_drew ?_ | refine blk_alloc ?_ _)); exact BK132.out) hb); have n1_ := Aside0.mk (below_step (by repeat (first | (with_reducible first | exact HB.out | apply below_alloc | apply pw_below_drewN | apply below_drew1 | refine below_set ?_ GE132.out) | exact HB.out)) hb); clear BK132; clear HB; have BK132 := n0_; have HB := n1_; clear n0_ n1_; (try clear hb); (try clear hb2); (try clear hk); (try clear hi)))
    go_ret2
    exact ⟨_, by first | rfl | (simp [errW_none, errW_some] <;> rfl) | (simp [*, errW_none, errW_some] <;> rfl), by first | exact Kd.R_nil _ _ _ _ _ | exact Kd.N_nil _ _ _ _ _ | exact Kd.V_nil _ _ _ _ _ | exact Kd.Q_nil _ _ _ _ _ | exact Kd.S_nil _ _ _ _ _, by repeat (first | (with_reducible first | exact HB.out | apply below_alloc | apply pw_below_drewN | apply below_drew1 | refine below_set ?_ GE132.out) | exact HB.out)⟩

end Go.Proofs.Ytkkflgdobgbmmaa.Q
end
section
namespace Go.Proofs.Ytkkflgdobgbmmaa.Q
open Go.RowKit Go.Proofs.YtkkflgdobgbmmaaW.PrintWords Go.Proofs.YtkkflgdobgbmmaaW.PrintLast Go.Proofs.YtkkflgdobgbmmaaW.PrintMore
attribute [local go_sem] max2_int min2_int max_two min_two max_three min_three max_four min_four   -- for this text's walks alone
set_option linter.unusedVariables false
set_option linter.unusedSimpArgs false

end Go.Proofs.Ytkkflgdobgbmmaa.Q
end
