/- Structs and arrays in blocks that are known whole: loads, stores, new ones, results. -/
import Derived.Test.YtjpkjakdhbnehaaHMono
import Derived.Laws.Rows
import Derived.Laws.CopyRow
import Derived.Laws.ResultCell
namespace Go.Proofs.Ytjpkjakdhbnehaa.Q
open Go.RowKit Go.Proofs.YtjpkjakdhbnehaaW.PrintWords Go.Proofs.YtjpkjakdhbnehaaW.PrintLast Go.Proofs.YtjpkjakdhbnehaaW.PrintMore
set_option linter.unusedVariables false
set_option linter.unusedSimpArgs false
section
variable {P : Program}
/-- A struct or array is loaded, wherever its cells stand. -/
theorem run_load_agg (w : World) (ad : Addr) (ty : TypeId) (cs : List Value) (d : TypeDesc) (hc : ∀ j v, cs[j]? = some v → w.cell? (ad.add j) = some v)
    (hu : P.underlying ty = some d) (hd : (match d with | .struct _ | .array _ _ => true | _ => false) = true) (hi : (P.info? ty).map (·.size) = some cs.length) :
    (loadVar ty ad).run P w = .ok (.agg cs.toArray) w := by
  have hl := run_loadCells_list (P := P) w ad cs hc
  cases hq : P.info? ty with
  | none => simp [hq] at hi
  | some i =>
    have hs : i.size = cs.length := by simpa [hq] using hi
    have hagg : (isAgg ty).run P w = .ok true w := by
      unfold isAgg
      rw [Sem.run_bind, run_underlying hu w]
      cases d <;> simp_all
    simp [loadVar, Sem.run_bind, hagg, sizeOf, typeInfo, hq, hs, hl]
theorem ex_load_agg {o : Oper} {a : Act} (w : World) (ty : TypeId) (x : Operand) (ho : o.op = .load ty x) (ad : Addr) (hx : a.eval x = .pointer (some ad)) (cs : List Value) (d : TypeDesc) (hc : ∀ j v, cs[j]? = some v → w.cell? (ad.add j) = some v)
    (hu : P.underlying ty = some d) (hd : (match d with | .struct _ | .array _ _ => true | _ => false) = true) (hi : (P.info? ty).map (·.size) = some cs.length) :
    (execOp a.eval o).run P w = .ok (.value (.agg cs.toArray)) w := by
  unfold execOp
  simp only [ho, hx, Instr.loadAt, Instr.sureAddr, Sem.run_bind, Sem.run_pure, Result.andThen_ok, run_load_agg w ad ty cs d hc hu hd hi]
theorem ex_load_blk {o : Oper} {a : Act} (w : World) (ty : TypeId) (x : Operand) (ho : o.op = .load ty x) (g : Nat) (hx : a.eval x = .pointer (some ⟨g, 0, none⟩)) (cs : Array Value) (t : TypeId) (d : TypeDesc) (hg : w.heap[g]? = some (.cells cs t (0, 0)))
    (hu : P.underlying ty = some d) (hd : (match d with | .struct _ | .array _ _ => true | _ => false) = true) (hi : (P.info? ty).map (·.size) = some cs.size) :
    (execOp a.eval o).run P w = .ok (.value (.agg cs)) w := by
  have h := ex_load_agg (P := P) (o := o) (a := a) w ty x ho ⟨g, 0, none⟩ hx cs.toList d (fun j v hv => by rw [add_plain, cell_of_row w g j cs t _ hg]; simpa using hv) hu hd (by simpa using hi)
  simpa using h
theorem ex_load_cell {o : Oper} {a : Act} (w : World) (ty : TypeId) (x : Operand) (ho : o.op = .load ty x) (ad : Addr) (hx : a.eval x = .pointer (some ad)) (v : Value) (hv : w.cell? ad = some v) (d : TypeDesc)
    (hu : P.underlying ty = some d) (hd : (match d with | .struct _ | .array _ _ => true | _ => false) = false) : (execOp a.eval o).run P w = .ok (.value v) w := by
  have hagg : (isAgg ty).run P w = .ok false w := by
    unfold isAgg
    rw [Sem.run_bind, run_underlying hu w]
    cases d <;> simp_all
  unfold execOp
  simp [ho, hx, Instr.loadAt, Instr.sureAddr, loadVar, Sem.run_bind, hagg, hv]
/-- A struct or array (or one cell) is stored into a block that is known whole. -/
theorem ex_store_agg {o : Oper} {a : Act} (w : World) (ty : TypeId) (x y : Operand) (ho : o.op = .store ty x y) (g off : Nat) (hx : a.eval x = .pointer (some ⟨g, off, none⟩)) (cur : Array Value) (t : TypeId) (hg : w.heap[g]? = some (.cells cur t (0, 0)))
    (v : Value) (hy : a.eval y = v) (hle : off + v.cells.size ≤ cur.size) (h1 : ∀ u ∈ v.cells.toList, u.oneCell' = true) (hi : (P.info? ty).map (·.size) = some v.cells.size) :
    ∃ w', (execOp a.eval o).run P w = .ok .skip w' ∧ w'.heap[g]? = some (.cells (cur.toList.take off ++ v.cells.toList ++ cur.toList.drop (off + v.cells.size)).toArray t (0, 0)) ∧ w.grownBy w' (some g) ∧ w'.heap.size = w.heap.size := by
  have hst := run_storeCells_at P g off t v.cells.toList 0 cur w hg (by simpa using hle) h1
  have hrun : (storeVar ty ⟨g, off, none⟩ v).run P w = .ok () (w.setRow g (cur.toList.take (off + 0) ++ v.cells.toList ++ cur.toList.drop (off + 0 + v.cells.toList.length)).toArray) := by
    cases hq : P.info? ty with
    | none => simp [hq] at hi
    | some i =>
      have hs : v.cells.size = i.size := by simp [hq] at hi; omega
      simp only [Nat.add_zero] at hst ⊢
      simp [storeVar, sizeOf, typeInfo, hq, ← hs]
      simpa using hst
  refine ⟨_, ?_, setRow_heap w g cur _ t _ hg, ⟨rfl, rfl, rfl, by simp [World.setRow], fun q hq hne => setRow_other w g q _ (fun e => hne (by rw [e]))⟩, by simp⟩
  unfold execOp
  simp only [ho, hx, hy, Instr.storeAt, Instr.sureAddr, Sem.run_bind, Sem.run_pure, Result.andThen_ok, hrun]
  simp [Result.andThen]
end
section
variable {P : Program} {ops : Array Oper} {rest : List Oper} {o : Oper} {a : Act} {Q : Exit → Act → World → Prop}
theorem wl_load_agg {W : World} (hgd : o.guard = none) (ty : TypeId) (x : Operand) (ho : o.op = .load ty x) (ad : Addr) (hx : a.eval x = .pointer (some ad)) (cs : List Value) (d : TypeDesc) (hc : ∀ j v, cs[j]? = some v → W.cell? (ad.add j) = some v)
    (hu : P.underlying ty = some d) (hd : (match d with | .struct _ | .array _ _ => true | _ => false) = true) (hi : (P.info? ty).map (·.size) = some cs.length)
    (h : wpList P ops Q rest (a.put o.dst (.agg cs.toArray)) W) : wpList P ops Q (o :: rest) a W :=
  Kd.event_run hgd (ex_load_agg W ty x ho ad hx cs d hc hu hd hi) h
theorem wl_load_blk {W : World} (hgd : o.guard = none) (ty : TypeId) (x : Operand) (ho : o.op = .load ty x) (g : Nat) (hx : a.eval x = .pointer (some ⟨g, 0, none⟩)) (cs : Array Value) (t : TypeId) (d : TypeDesc) (hg : W.heap[g]? = some (.cells cs t (0, 0)))
    (hu : P.underlying ty = some d) (hd : (match d with | .struct _ | .array _ _ => true | _ => false) = true) (hi : (P.info? ty).map (·.size) = some cs.size)
    (h : wpList P ops Q rest (a.put o.dst (.agg cs)) W) : wpList P ops Q (o :: rest) a W :=
  Kd.event_run hgd (ex_load_blk W ty x ho g hx cs t d hg hu hd hi) h
theorem wl_store_agg {W : World} (hgd : o.guard = none) (hdst : o.dst = none) (ty : TypeId) (x y : Operand) (ho : o.op = .store ty x y) (g off : Nat) (hx : a.eval x = .pointer (some ⟨g, off, none⟩)) (cur : Array Value) (t : TypeId) (hg : W.heap[g]? = some (.cells cur t (0, 0)))
    (v : Value) (hy : a.eval y = v) (hle : off + v.cells.size ≤ cur.size) (h1 : ∀ u ∈ v.cells.toList, u.oneCell' = true) (hi : (P.info? ty).map (·.size) = some v.cells.size)
    (h : ∀ w1, w1.heap[g]? = some (.cells (cur.toList.take off ++ v.cells.toList ++ cur.toList.drop (off + v.cells.size)).toArray t (0, 0)) → W.grownBy w1 (some g) → w1.heap.size = W.heap.size → wpList P ops Q rest a w1) : wpList P ops Q (o :: rest) a W := by
  obtain ⟨w1, hr, h2, h3, h4⟩ := ex_store_agg (P := P) (o := o) (a := a) W ty x y ho g off hx cur t hg v hy hle h1 hi
  refine wpList_plain hgd fun K hK => ?_
  unfold Oper.wp
  rw [hr]
  show K (a.put o.dst undef) w1
  rw [hdst]
  exact hK _ _ (h w1 h2 h3 h4)
theorem ex_store_cell {o : Oper} {a : Act} (w : World) (ty : TypeId) (x y : Operand) (ho : o.op = .store ty x y) (g off : Nat) (hx : a.eval x = .pointer (some ⟨g, off, none⟩)) (cur : Array Value) (t : TypeId) (hg : w.heap[g]? = some (.cells cur t (0, 0)))
    (v : Value) (hy : a.eval y = v) (hv : v.cells = #[v]) (hle : off < cur.size) (h1 : v.oneCell' = true) (hi : (P.info? ty).map (·.size) = some 1) :
    ∃ w', (execOp a.eval o).run P w = .ok .skip w' ∧ w'.heap[g]? = some (.cells (cur.setIfInBounds off v) t (0, 0)) ∧ w.grownBy w' (some g) ∧ w'.heap.size = w.heap.size := by
  obtain ⟨w', h2, h3, h4, h5⟩ := ex_store_agg (P := P) (o := o) (a := a) w ty x y ho g off hx cur t hg v hy (by rw [hv]; exact hle) (by rw [hv]; intro u hu; have : u = v := by simpa using hu
                                                                                                                                        rw [this]; exact h1) (by rw [hv]; exact hi)
  refine ⟨w', h2, ?_, h4, h5⟩
  rw [h3, hv]
  congr 2
  apply Array.toList_inj.1
  rw [Array.toList_setIfInBounds, List.set_eq_take_append_cons_drop, if_pos (by rw [Array.length_toList]; exact hle)]
  simp
theorem wl_store_cell {W : World} (hgd : o.guard = none) (hdst : o.dst = none) (ty : TypeId) (x y : Operand) (ho : o.op = .store ty x y) (g off : Nat) (hx : a.eval x = .pointer (some ⟨g, off, none⟩)) (cur : Array Value) (t : TypeId) (hg : W.heap[g]? = some (.cells cur t (0, 0)))
    (v : Value) (hy : a.eval y = v) (hv : v.cells = #[v]) (hle : off < cur.size) (h1 : v.oneCell' = true) (hi : (P.info? ty).map (·.size) = some 1)
    (h : ∀ w1, w1.heap[g]? = some (.cells (cur.setIfInBounds off v) t (0, 0)) → W.grownBy w1 (some g) → w1.heap.size = W.heap.size → wpList P ops Q rest a w1) : wpList P ops Q (o :: rest) a W := by
  obtain ⟨w1, hr, h2, h3, h4⟩ := ex_store_cell (P := P) (o := o) (a := a) W ty x y ho g off hx cur t hg v hy hv hle h1 hi
  refine wpList_plain hgd fun K hK => ?_
  unfold Oper.wp
  rw [hr]
  show K (a.put o.dst undef) w1
  rw [hdst]
  exact hK _ _ (h w1 h2 h3 h4)
theorem ex_store_all {o : Oper} {a : Act} (w : World) (ty : TypeId) (x y : Operand) (ho : o.op = .store ty x y) (g : Nat) (hx : a.eval x = .pointer (some ⟨g, 0, none⟩)) (cur : Array Value) (t : TypeId) (hg : w.heap[g]? = some (.cells cur t (0, 0)))
    (v : Value) (hy : a.eval y = v) (hle : v.cells.size = cur.size) (h1 : ∀ u ∈ v.cells.toList, u.oneCell' = true) (hi : (P.info? ty).map (·.size) = some v.cells.size) :
    ∃ w', (execOp a.eval o).run P w = .ok .skip w' ∧ w'.heap[g]? = some (.cells v.cells t (0, 0)) ∧ w.grownBy w' (some g) ∧ w'.heap.size = w.heap.size := by
  obtain ⟨w', h2, h3, h4, h5⟩ := ex_store_agg (P := P) (o := o) (a := a) w ty x y ho g 0 hx cur t hg v hy (by omega) h1 hi
  refine ⟨w', h2, ?_, h4, h5⟩
  rw [h3, List.take_zero, List.nil_append, Nat.zero_add, List.drop_of_length_le (by rw [Array.length_toList]; omega), List.append_nil, Array.toArray_toList]
theorem wl_store_all {W : World} (hgd : o.guard = none) (hdst : o.dst = none) (ty : TypeId) (x y : Operand) (ho : o.op = .store ty x y) (g : Nat) (hx : a.eval x = .pointer (some ⟨g, 0, none⟩)) (cur : Array Value) (t : TypeId) (hg : W.heap[g]? = some (.cells cur t (0, 0)))
    (v : Value) (hy : a.eval y = v) (hle : v.cells.size = cur.size) (h1 : ∀ u ∈ v.cells.toList, u.oneCell' = true) (hi : (P.info? ty).map (·.size) = some v.cells.size)
    (h : ∀ w1, w1.heap[g]? = some (.cells v.cells t (0, 0)) → W.grownBy w1 (some g) → w1.heap.size = W.heap.size → wpList P ops Q rest a w1) : wpList P ops Q (o :: rest) a W := by
  obtain ⟨w1, hr, h2, h3, h4⟩ := ex_store_all (P := P) (o := o) (a := a) W ty x y ho g hx cur t hg v hy hle h1 hi
  refine wpList_plain hgd fun K hK => ?_
  unfold Oper.wp
  rw [hr]
  show K (a.put o.dst undef) w1
  rw [hdst]
  exact hK _ _ (h w1 h2 h3 h4)
theorem sink_store_all {W : World} {K : Act → World → Prop} (hgd : o.guard = none) (hdst : o.dst = none) (ty : TypeId) (x y : Operand) (ho : o.op = .store ty x y) (g : Nat) (hx : a.eval x = .pointer (some ⟨g, 0, none⟩)) (cur : Array Value) (t : TypeId) (hg : W.heap[g]? = some (.cells cur t (0, 0)))
    (v : Value) (hy : a.eval y = v) (hle : v.cells.size = cur.size) (h1 : ∀ u ∈ v.cells.toList, u.oneCell' = true) (hi : (P.info? ty).map (·.size) = some v.cells.size)
    (h : ∀ w1, w1.heap[g]? = some (.cells v.cells t (0, 0)) → W.grownBy w1 (some g) → w1.heap.size = W.heap.size → K a w1) : if Region.wanted o (yielded ops a.tmps) = true then Oper.wp P o a W K Q else K (a.put o.dst undef) W := by
  obtain ⟨w1, hr, h2, h3, h4⟩ := ex_store_all (P := P) (o := o) (a := a) W ty x y ho g hx cur t hg v hy hle h1 hi
  rw [if_pos (by simp [Region.wanted, hgd])]
  unfold Oper.wp
  rw [hr]
  show K (a.put o.dst undef) w1
  rw [hdst]
  exact h w1 h2 h3 h4
/-- What a literal of a struct or array fills in. -/
theorem fold_set (vs : List Value) : ∀ (k off : Nat) (cs : Array Value), off + k + vs.length ≤ cs.size →
    ((vs.zipIdx k).foldl (fun cs (x : Value × Nat) => cs.setIfInBounds (off + x.2) x.1) cs) = (cs.toList.take (off + k) ++ vs ++ cs.toList.drop (off + k + vs.length)).toArray := by
  induction vs with
  | nil => intro k off cs h; simp
  | cons v vs ih =>
    intro k off cs h
    rw [List.length_cons] at h
    rw [List.zipIdx_cons, List.foldl_cons, ih (k + 1) off _ (by rw [Array.size_setIfInBounds]; omega)]
    congr 1
    have hi : off + k < cs.toList.length := by rw [Array.length_toList]; omega
    rw [Array.toList_setIfInBounds, ← Nat.add_assoc, List.take_succ_eq_append_getElem (by rw [List.length_set]; exact hi), List.getElem_set_self, List.take_set_of_le (by omega), List.drop_set_of_lt (by omega), List.length_cons]
    simp [Nat.add_assoc, Nat.add_comm 1]
theorem fill_cons (place : Nat → Option (Nat × Nat)) (cells : Array Value) (i off size : Nat) (v : Value) (r : List (Nat × Value)) (hp : place i = some (off, size)) (hs : v.cells.size = size) (hle : off + size ≤ cells.size) :
    Instr.fill place cells ((i, v) :: r) = Instr.fill place (cells.toList.take off ++ v.cells.toList ++ cells.toList.drop (off + size)).toArray r := by
  rw [Instr.fill, hp]
  simp only []
  rw [if_neg (by rw [hs]; simp; omega)]
  have := fold_set v.cells.toList 0 off cells (by rw [Array.length_toList]; omega)
  rw [Nat.add_zero, Array.length_toList, hs] at this
  rw [← this, ← Array.foldl_toList, Array.toList_zipIdx]
/-- A new variable of a type whose value of noughts is known. -/
theorem ex_alloc {o : Oper} {a : Act} (W : World) (ty : TypeId) (ho : o.op = .alloc ty) (z : Value) (hz : (P.info? ty).map (·.zero) = some (some z)) :
    (execOp a.eval o).run P W = .ok (.value (.pointer (some ⟨W.heap.size, 0, none⟩))) (W.alloc (.cells z.cells ty (0, 0))) := by
  cases hq : P.info? ty with
  | none => simp [hq] at hz
  | some i =>
    have hz' : i.zero = some z := by simpa [hq] using hz
    unfold execOp
    simp [ho, Instr.alloc, zeroValue, typeInfo, hq, hz', newVar, newRow, newObj, Result.andThen]
    rfl
theorem wl_alloc {W : World} (hgd : o.guard = none) (ty : TypeId) (ho : o.op = .alloc ty) (z : Value) (hz : (P.info? ty).map (·.zero) = some (some z))
    (h : ∀ g, g = W.heap.size → ∀ w1, w1.heap[g]? = some (.cells z.cells ty (0, 0)) → Below W.heap.size W w1 → w1.heap.size = W.heap.size + 1 → wpList P ops Q rest (a.put o.dst (.pointer (some ⟨g, 0, none⟩))) w1) : wpList P ops Q (o :: rest) a W :=
  Kd.event_run hgd (ex_alloc W ty ho z hz) (h _ rfl _ (blk_new W _) (below_alloc (Below.refl _ _) _) (by simp))
theorem ex_box {o : Oper} {a : Act} (W : World) (ty : TypeId) (x : Operand) (ho : o.op = .box ty x) (v : Value) (hx : a.eval x = v) :
    (execOp a.eval o).run P W = .ok (.value (.pointer (some ⟨W.heap.size, 0, none⟩))) (W.alloc (.cells v.cells ty (0, 0))) := by
  unfold execOp
  simp [ho, hx, Instr.box, newVar, newRow, newObj, Result.andThen]
  rfl
theorem wl_box {W : World} (hgd : o.guard = none) (ty : TypeId) (x : Operand) (ho : o.op = .box ty x) (v : Value) (hx : a.eval x = v)
    (h : ∀ g, g = W.heap.size → ∀ w1, w1.heap[g]? = some (.cells v.cells ty (0, 0)) → Below W.heap.size W w1 → w1.heap.size = W.heap.size + 1 → wpList P ops Q rest (a.put o.dst (.pointer (some ⟨g, 0, none⟩))) w1) : wpList P ops Q (o :: rest) a W :=
  Kd.event_run hgd (ex_box W ty x ho v hx) (h _ rfl _ (blk_new W _) (below_alloc (Below.refl _ _) _) (by simp))
/-- '[]T{..}' of numbers: a row of one's own. -/
theorem lit_own (k : IntKind) (W : World) (e : TypeId) (xs : List Int) (hm : xs.length ≤ maxLen) : (Kd.int k).R e (W.alloc (.cells (encs (Value.int k) xs).toArray e)) W.heap.size (fun _ => True) (.slice (some ⟨W.heap.size, 0, none⟩) xs.length xs.length) xs :=
  Kd.R_of_own (enc := Value.int k) (h1 := fun _ => rfl) ⟨by rw [encs_length]; omega, .inr ⟨W.heap.size, xs.length, (encs (Value.int k) xs).toArray, rfl, Nat.le_refl _, by simpa using heap_alloc_new W _, Nat.le_refl _, hm, by simp [encs_length], by simp only [Nat.mul_one]; exact List.take_of_length_le (by rw [encs_length]; exact Nat.le_refl _)⟩⟩ (fun _ _ => trivial)
theorem wl_lit {W : World} (hgd : o.guard = none) (k : IntKind) (e : TypeId) (xs : List Int) (hm : xs.length ≤ maxLen)
    (hr : (execOp a.eval o).run P W = .ok (.value (.slice (some ⟨W.heap.size, 0, none⟩) xs.length xs.length)) (W.alloc (.cells (encs (Value.int k) xs).toArray e)))
    (h : ∀ v w1, (Kd.int k).R e w1 W.heap.size (fun _ => True) v xs → Below W.heap.size W w1 → wpList P ops Q rest (a.put o.dst v) w1) : wpList P ops Q (o :: rest) a W :=
  Kd.event_run hgd hr (h _ _ (lit_own k W e xs hm) (below_alloc (Below.refl _ _) _))
/-- A value that a whole step comes to. -/
theorem wl_val {W : World} (hgd : o.guard = none) (v : Value) (hr : (execOp a.eval o).run P W = .ok (.value v) W) (h : wpList P ops Q rest (a.put o.dst v) W) : wpList P ops Q (o :: rest) a W := Kd.event_run hgd hr h
theorem gate_op {W : World} {N : Op} (_hN : o.op = N) (h : wpList P ops Q (o :: rest) a W) : wpList P ops Q (o :: rest) a W := h
end
section
variable {P : Program}
/-- Results: a struct in a block, and a number. -/
theorem results_cell2 {fn : Func} {p u : Tmp} {ty : TypeId} (h : fn.results = #[.cell p ty, .tmp u]) (tmps : Array Value) (w : World) (g : Nat) (t : TypeId) (cs : Array Value) (d : TypeDesc)
    (hp : tmps.getD p undef = .pointer (some ⟨g, 0, none⟩)) (hg : w.heap[g]? = some (.cells cs t (0, 0)))
    (hu : P.underlying ty = some d) (hd : (match d with | .struct _ | .array _ _ => true | _ => false) = true) (hi : (P.info? ty).map (·.size) = some cs.size) :
    (results fn tmps).run P w = .ok (.tuple #[.agg cs, tmps.getD u undef]) w := by
  rw [results_cell_tmp h tmps P w, hp]
  simp [asAddr, run_loadVar_row w g t ty cs (0, 0) d hg hu hd hi, Result.andThen]
theorem grown_blk {w w1 : World} {row : Option Nat} (h : w.grownBy w1 row) {g : Nat} {ob : Obj} (hg : w.heap[g]? = some ob) (hne : some g ≠ row) : w1.heap[g]? = some ob := (h.block g (Array.getElem?_eq_some_iff.1 hg).1 hne).trans hg
theorem grown_below {w0 w w1 : World} {B g : Nat} (hb : Below B w0 w) (h : w.grownBy w1 (some g)) (hB : B ≤ w.heap.size) (hg : B ≤ g) : Below B w0 w1 := hb.grown h hB (fun k hk => by injection hk with hk; omega)
end
end Go.Proofs.Ytjpkjakdhbnehaa.Q
