/- Cells and their bytes, in plain words; '==' of cells. -/
import Derived.Test.YtklhpnalchgkaaaHGet
import Derived.Test.YtklhpnalchgkaaaHEq
import Derived.Test.YtklhpnalchgkaaaPureS2
import Derived.Test.YtklhpnalchgkaaaPureS
namespace Go.Proofs.Ytklhpnalchgkaaa.Q
open Go.RowKit Go.Proofs.YtklhpnalchgkaaaW.PrintWords Go.Proofs.YtklhpnalchgkaaaW.PrintLast Go.Proofs.YtklhpnalchgkaaaW.PrintMore Go.Proofs.Ytklhpnalchgkaaa.Pure
attribute [local go_sem] max2_int min2_int max_two min_two max_three min_three max_four min_four
set_option linter.unusedVariables false
set_option linter.unusedSimpArgs false
theorem CellV.bytes_length {x : CellV} (h : x.Ok) : x.bytes.length = 96 := by
  simp [CellV.bytes, lebytes_length, h.root, h.tag]
theorem CellV.bytes_u8s {x : CellV} (h : x.Ok) : u8s x.bytes := by
  intro v hv
  simp only [CellV.bytes, List.mem_append] at hv
  rcases hv with hv | hv | hv | hv | hv | hv
  · exact h.rootu v hv
  · exact lebytes_u8s 8 _ v hv
  · exact lebytes_u8s 8 _ v hv
  · exact lebytes_u8s 8 _ v hv
  · exact lebytes_u8s 8 _ v hv
  · exact h.tagu v hv
theorem cut_mid (A M S : List Int) (a n : Int) (ha : a = (A.length : Int)) (hn : n = (M.length : Int)) : cutV (A ++ (M ++ S)) a n = M := by
  unfold cutV
  rw [ha, hn, show ((A.length : Int) + (M.length : Int)).toNat = A.length + M.length by omega, Int.toNat_natCast, ← List.append_assoc, List.take_append_of_le_length (by rw [List.length_append]; exact Nat.le_refl _), List.take_of_length_le (by rw [List.length_append]; exact Nat.le_refl _), List.drop_left]
theorem leval8 (v : Int) (h : 0 ≤ v ∧ v < 18446744073709551616) : leval (lebytes 8 v) = v := by
  rw [leval_lebytes]
  exact Int.emod_eq_of_lt h.1 (by simpa using h.2)
theorem numAt_bytes {x : CellV} (h : x.Ok) : numAt x.bytes 0 = x.ver ∧ numAt x.bytes 1 = x.cnt ∧ numAt x.bytes 2 = x.start ∧ numAt x.bytes 3 = x.count := by
  have h1 : x.bytes = x.root ++ (lebytes 8 x.ver ++ (lebytes 8 x.cnt ++ (lebytes 8 x.start ++ (lebytes 8 x.count ++ x.tag)))) := rfl
  have h2 : x.bytes = (x.root ++ lebytes 8 x.ver) ++ (lebytes 8 x.cnt ++ (lebytes 8 x.start ++ (lebytes 8 x.count ++ x.tag))) := by rw [h1]; simp
  have h3 : x.bytes = (x.root ++ lebytes 8 x.ver ++ lebytes 8 x.cnt) ++ (lebytes 8 x.start ++ (lebytes 8 x.count ++ x.tag)) := by rw [h1]; simp
  have h4 : x.bytes = (x.root ++ lebytes 8 x.ver ++ lebytes 8 x.cnt ++ lebytes 8 x.start) ++ (lebytes 8 x.count ++ x.tag) := by rw [h1]; simp
  refine ⟨?_, ?_, ?_, ?_⟩
  · unfold numAt; rw [h1, cut_mid _ _ _ _ _ (by simp [h.root]) (by rw [lebytes_length]; rfl), leval8 _ h.ver]
  · unfold numAt; rw [h2, cut_mid _ _ _ _ _ (by simp [h.root, lebytes_length]) (by rw [lebytes_length]; rfl), leval8 _ h.cnt]
  · unfold numAt; rw [h3, cut_mid _ _ _ _ _ (by simp [h.root, lebytes_length]) (by rw [lebytes_length]; rfl), leval8 _ h.start]
  · unfold numAt; rw [h4, cut_mid _ _ _ _ _ (by simp [h.root, lebytes_length]) (by rw [lebytes_length]; rfl), leval8 _ h.count]
theorem formC_bytes {x : CellV} (h : x.Ok) : formC x.bytes = (x, 0) := by
  obtain ⟨h1, h2, h3, h4⟩ := numAt_bytes h
  have ht : x.bytes.take 32 = x.root := by
    unfold CellV.bytes
    rw [List.take_append_of_le_length (by rw [h.root]; exact Nat.le_refl _), List.take_of_length_le (by rw [h.root]; exact Nat.le_refl _)]
  have hd : x.bytes.drop 64 = x.tag := by
    have : x.bytes = (x.root ++ lebytes 8 x.ver ++ lebytes 8 x.cnt ++ lebytes 8 x.start ++ lebytes 8 x.count) ++ x.tag := by simp [CellV.bytes]
    rw [this, List.drop_append_of_le_length (by simp [h.root, lebytes_length]), List.drop_of_length_le (by simp [h.root, lebytes_length]), List.nil_append]
  unfold formC
  rw [if_pos (CellV.bytes_length h), h1, h2, h3, h4, ht, hd]
theorem formC_ok (l : List Int) (hu : u8s l) : (formC l).1.Ok := by
  unfold formC
  by_cases h : l.length = 96
  · rw [if_pos h]
    have hn : ∀ i, i < 4 → 0 ≤ numAt l i ∧ numAt l i < 18446744073709551616 := by
      intro i hi
      have hl : (cutV l (32 + 8 * i) 8).length = 8 := by rw [cutV_length (by omega) (by omega) (by omega)]; rfl
      have := leval_range (cutV l (32 + 8 * i) 8) (u8s_cut hu _ _)
      rw [hl] at this
      simpa [numAt] using this
    exact ⟨by simp [h], by simp [h], fun v hv => hu v (List.mem_of_mem_take hv), fun v hv => hu v (List.mem_of_mem_drop hv), hn 0 (by decide), hn 1 (by decide), hn 2 (by decide), hn 3 (by decide)⟩
  · rw [if_neg h]
    exact nought_ok
/-- A cell that was got is put as it was. -/
theorem bytes_formC (l : List Int) (hu : u8s l) (h : l.length = 96) : (formC l).1.bytes = l := by
  unfold formC
  rw [if_pos h]
  have key : ∀ i : Nat, i < 4 → lebytes 8 (numAt l i) = (l.take (32 + 8 * i + 8)).drop (32 + 8 * i) := by
    intro i hi
    have h1 : cutV l (32 + 8 * i) 8 = (l.take (32 + 8 * i + 8)).drop (32 + 8 * i) := by
      unfold cutV
      rw [show ((32 : Int) + 8 * (i : Int) + 8).toNat = 32 + 8 * i + 8 by omega, show ((32 : Int) + 8 * (i : Int)).toNat = 32 + 8 * i by omega]
    have hl : (cutV l (32 + 8 * i) 8).length = 8 := by rw [cutV_length (by omega) (by omega) (by omega)]; rfl
    unfold numAt
    have h2 := lebytes_leval (cutV l (32 + 8 * i) 8) (u8s_cut hu _ _)
    rw [hl] at h2
    rw [h2, h1]
  have k0 := key 0 (by decide)
  have k1 := key 1 (by decide)
  have k2 := key 2 (by decide)
  have k3 := key 3 (by decide)
  simp only [CellV.bytes, k0, k1, k2, k3]
  have e : ∀ (a n : Nat), a + n ≤ 96 → l.drop a = (l.take (a + n)).drop a ++ l.drop (a + n) := by
    intro a n han
    have h1 := List.take_append_drop n (l.drop a)
    rw [List.drop_drop] at h1
    rw [List.drop_take, Nat.add_sub_cancel_left]
    exact h1.symm
  conv => rhs; rw [← List.take_append_drop 32 l, e 32 8 (by decide), e 40 8 (by decide), e 48 8 (by decide), e 56 8 (by decide)]
theorem bytes_inj {x y : CellV} (hx : x.Ok) (hy : y.Ok) (h : x.bytes = y.bytes) : x = y := by
  have h1 := formC_bytes hx
  rw [h, formC_bytes hy] at h1
  exact (Prod.mk.inj h1).1.symm
/-- '==' of cells. -/
def CellV.same (x y : CellV) : Bool := decide (x.root = y.root) && (x.ver == y.ver && (x.cnt == y.cnt && (x.start == y.start && (x.count == y.count && decide (x.tag = y.tag)))))
theorem CellV.same_iff (x y : CellV) : x.same y = true ↔ x = y := by
  unfold CellV.same
  cases x; cases y
  simp
theorem CellV.same_bytes {x y : CellV} (hx : x.Ok) (hy : y.Ok) : decide (x.bytes = y.bytes) = x.same y := by
  by_cases h : x = y
  · subst h
    rw [(x.same_iff x).2 rfl]
    simp
  · have h1 : x.same y = false := by
      rw [Bool.eq_false_iff]
      exact fun h2 => h ((x.same_iff y).1 h2)
    rw [h1]
    simp only [decide_eq_false_iff_not]
    exact fun h2 => h (bytes_inj hx hy h2)
theorem part_root {x : CellV} (h : x.Ok) (W : World) : (part 23 x.cells 0).run Try.prog W = .ok (.agg (encs (Value.int .u8) x.root).toArray) W := by
  have hl : (encs (Value.int .u8) x.root).length = 32 := by rw [encs_length, h.root]
  obtain ⟨i, hi, hs⟩ := Option.map_eq_some_iff.1 info_sum
  have he : x.cells.extract 0 (0 + 32) = (encs (Value.int .u8) x.root).toArray := by
    simp only [CellV.cells, CellV.cellL, List.extract_toArray]
    congr 1
    simp [List.extract, hl]
  simp [part, isAgg, Sem.run_bind, run_underlying Try.underlying23, sizeOf, typeInfo, hi, hs]
  simpa using he
theorem part_tag {x : CellV} (h : x.Ok) (W : World) : (part 23 x.cells 36).run Try.prog W = .ok (.agg (encs (Value.int .u8) x.tag).toArray) W := by
  have hl : (encs (Value.int .u8) x.root).length = 32 := by rw [encs_length, h.root]
  have hl2 : (encs (Value.int .u8) x.tag).length = 32 := by rw [encs_length, h.tag]
  obtain ⟨i, hi, hs⟩ := Option.map_eq_some_iff.1 info_sum
  have he : x.cells.extract 36 (36 + 32) = (encs (Value.int .u8) x.tag).toArray := by
    simp only [CellV.cells, CellV.cellL, List.extract_toArray]
    congr 1
    rw [List.extract_eq_take_drop, List.drop_append, List.drop_of_length_le (by omega), hl, List.nil_append]
    show List.take 32 (encs (Value.int .u8) x.tag) = _
    rw [List.take_of_length_le (by omega)]
  simp [part, isAgg, Sem.run_bind, run_underlying Try.underlying23, sizeOf, typeInfo, hi, hs]
  simpa using he
theorem part_num {x : CellV} (j : Nat) (v : Value) (hj : x.cells[j]? = some v) (W : World) : (part 24 x.cells j).run Try.prog W = .ok v W := by
  simp [part, isAgg, Sem.run_bind, run_underlying Try.underlying24, hj]
theorem eqCell {x y : CellV} (hx : x.Ok) (hy : y.Ok) (d : Nat) (W : World) : (Op.equalIn (d + 3) 26 (.agg x.cells) (.agg y.cells)).run Try.prog W = .ok (x.same y) W := by
  obtain ⟨a1, a2, a3, a4⟩ := x.at_num hx
  obtain ⟨b1, b2, b3, b4⟩ := y.at_num hy
  refine eqA_of Try.underlying26 (by kernel_rfl) ?_
  refine eqf_cons (by rfl) (part_root hx W) (part_root hy W) (run_equalIn_ints d 32 23 5 .u8 Try.underlying23 Try.underlying5 (by kernel_rfl) _ _ hx.root hy.root W) ?_
  refine eqf_cons (by rfl) (part_num 32 _ a1 W) (part_num 32 _ b1 W) (run_equalIn_int W (d + 1) 24 .u64 .u64 _ _ Try.underlying24) ?_
  refine eqf_cons (by rfl) (part_num 33 _ a2 W) (part_num 33 _ b2 W) (run_equalIn_int W (d + 1) 24 .u64 .u64 _ _ Try.underlying24) ?_
  refine eqf_cons (by rfl) (part_num 34 _ a3 W) (part_num 34 _ b3 W) (run_equalIn_int W (d + 1) 24 .u64 .u64 _ _ Try.underlying24) ?_
  refine eqf_cons (by rfl) (part_num 35 _ a4 W) (part_num 35 _ b4 W) (run_equalIn_int W (d + 1) 24 .u64 .u64 _ _ Try.underlying24) ?_
  exact eqf_last (by rfl) (part_tag hx W) (part_tag hy W) (run_equalIn_ints d 32 23 5 .u8 Try.underlying23 Try.underlying5 (by kernel_rfl) _ _ hx.tag hy.tag W)
theorem eql_cells {x y : CellV} (hx : x.Ok) (hy : y.Ok) (W : World) : (binOp .eql 26 (.agg x.cells) (.agg y.cells)).run Try.prog W = .ok (.bool (x.same y)) W := by
  rw [run_eql_struct, eqCell hx hy 9997 W]
  rfl
theorem neq_cells {x y : CellV} (hx : x.Ok) (hy : y.Ok) (W : World) : (binOp .neq 26 (.agg x.cells) (.agg y.cells)).run Try.prog W = .ok (.bool (!x.same y)) W := by
  rw [run_neq_struct, eqCell hx hy 9997 W]
  rfl
end Go.Proofs.Ytklhpnalchgkaaa.Q
