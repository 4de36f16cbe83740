/- '==' of arrays of numbers; strings out of rows of bytes. -/
import Derived.Test.YtjpkjakdhbnehaaHBlk
import Derived.Laws.StructEq
import Derived.Laws.BytesString
namespace Go.Proofs.Ytjpkjakdhbnehaa.Q
open Go.RowKit Go.Proofs.YtjpkjakdhbnehaaW.PrintWords Go.Proofs.YtjpkjakdhbnehaaW.PrintLast Go.Proofs.YtjpkjakdhbnehaaW.PrintMore
set_option linter.unusedVariables false
set_option linter.unusedSimpArgs false
section
variable {P : Program}
theorem encs_at (k : IntKind) (xs : List Int) (i : Nat) (hi : i < xs.length) : (encs (Value.int k) xs).toArray[i]? = some (.int k (xs.getD i 0)) := by
  rw [List.getElem?_toArray]
  exact encs_get (enc := Value.int k) (d := (0 : Int)) xs i hi
theorem run_equalIn_ints (d n : Nat) (t e : TypeId) (k : IntKind) (ht : P.underlying t = some (.array n e)) (he : P.underlying e = some (.int k)) (hs : (P.info? e).map (·.size) = some 1) (xs ys : List Int) (hx : xs.length = n) (hy : ys.length = n) (w : World) :
    (Op.equalIn (d + 2) t (.agg (encs (Value.int k) xs).toArray) (.agg (encs (Value.int k) ys).toArray)).run P w = .ok (decide (xs = ys)) w := by
  obtain ⟨i0, hi0, hs0⟩ := Option.map_eq_some_iff.1 hs
  have hpart : ∀ (l : List Int) (i : Nat), i < l.length → (part e (encs (Value.int k) l).toArray i).run P w = .ok (.int k (l.getD i 0)) w := by
    intro l i hi
    have := encs_at k l i hi
    simp [part, isAgg, Sem.run_bind, run_underlying he, this]
  rw [Op.equalIn]
  simp only [Sem.run_bind, run_underlying ht, Result.andThen_ok, sizeOf, typeInfo, run_program, hi0, Sem.run_pure, hs0, Std.Legacy.Range.forIn_eq_forIn_range', Std.Legacy.Range.size, Nat.sub_zero, Nat.add_one_sub_one, Nat.div_one, Nat.mul_one]
  have main : ∀ (m i : Nat), i + m = n → xs.take i = ys.take i →
      (((forIn (List.range' i m 1) ((none, ()) : Option Bool × Unit) (fun i (r : Option Bool × Unit) => do
        let a ← part e (encs (Value.int k) xs).toArray i
        let b ← part e (encs (Value.int k) ys).toArray i
        let q ← Op.equalIn (d + 1) e a b
        if (!q) = true then pure (ForInStep.done (some false, ())) else pure (ForInStep.yield (none, ()))) : Sem (Option Bool × Unit)).run P w).andThen fun r w' => (match r.fst with | some a => (pure a : Sem Bool) | none => pure true).run P w') = .ok (decide (xs = ys)) w := by
    intro m
    induction m with
    | zero =>
      intro i hi ht
      have : xs = ys := by rw [← List.take_of_length_le (show xs.length ≤ i by omega), ht, List.take_of_length_le (by omega)]
      simp [this]
    | succ m ih =>
      intro i hi ht
      have hix : i < xs.length := by omega
      have hiy : i < ys.length := by omega
      rw [List.range'_succ, List.forIn_cons]
      simp only [Sem.run_bind, hpart xs i hix, hpart ys i hiy, run_equalIn_int w d e k k _ _ he, Result.andThen_ok]
      by_cases hq : xs.getD i 0 = ys.getD i 0
      · have hb : (xs.getD i 0 == ys.getD i 0) = true := by simpa using hq
        rw [hb]
        have h2 := ih (i + 1) (by omega) (by
          rw [List.take_succ_eq_append_getElem hix, List.take_succ_eq_append_getElem hiy, ht]
          rw [List.getD_eq_getElem?_getD, List.getD_eq_getElem?_getD, List.getElem?_eq_getElem hix, List.getElem?_eq_getElem hiy] at hq
          simp only [Option.getD_some] at hq
          rw [hq])
        simpa using h2
      · have hb : (xs.getD i 0 == ys.getD i 0) = false := by simpa using hq
        have hne : xs ≠ ys := fun h => hq (by rw [h])
        rw [hb]
        simp [hne]
  have h2 := main n 0 (by omega) rfl
  simp at h2 ⊢
  refine Eq.trans ?_ h2
  congr 1
  funext r w'
  rcases r with ⟨_ | b, _⟩ <;> rfl
/-- 'string(row)'. -/
theorem fold_push : ∀ (ns : List Int) (s : ByteArray), ns.foldl (fun r n => r.push (UInt8.ofNat n.toNat)) s = ⟨s.data ++ (ns.map fun n => UInt8.ofNat n.toNat).toArray⟩
  | [], s => by simp
  | n :: ns, s => by
    rw [List.foldl_cons, fold_push ns]
    simp [ByteArray.push]
theorem run_string_row (src dst e : TypeId) (hs : P.underlying src = some (.slice e)) (he : P.underlying e = some (.int .u8)) (hd : P.underlying dst = some .string) (w : World) (A : Option Addr) (c : Nat) (xs : List Int) (h : Kd.C (Kd.int .u8) w A xs.length xs) :
    (convert src dst (.slice A xs.length c)).run P w = .ok (.string (strOfNums xs)) w := by
  rw [run_convert_bytes_string w src dst e A _ c hs he hd]
  have hr := Kd.reads_of_C (enc := Value.int .u8) (d := (0 : Int)) (h1 := fun _ => rfl) h
  cases A with
  | none =>
    have h0 : xs = [] := by
      rcases Nat.eq_zero_or_pos xs.length with h0 | h0
      · exact List.eq_nil_of_length_eq_zero h0
      · obtain ⟨ad, h1, _⟩ := hr.2.2 h0
        cases h1
    subst h0
    rfl
  | some ad =>
    have hl : (loadCells ad xs.length).run P w = .ok (xs.map (Value.int .u8)).toArray w := by
      have := run_loadCells_list (P := P) w ad (xs.map (Value.int .u8)) (fun j v hv => by
        have hj : j < xs.length := by have := (List.getElem?_eq_some_iff.1 hv).1; simpa using this
        obtain ⟨ad', h1, h2⟩ := hr.2.2 (by omega)
        injection h1 with h1
        subst h1
        rw [h2 j hj, ← hv, List.getElem?_map, List.getElem?_eq_getElem hj, List.getD_eq_getElem?_getD, List.getElem?_eq_getElem hj]
        rfl)
      simpa using this
    rw [run_bytesToString w ad _ c xs hl, fold_push]
    simp [strOfNums, ByteArray.empty, ByteArray.emptyWithCapacity]
    try rfl
theorem ex_string_row {o : Oper} {a : Act} (w : World) (src dst e : TypeId) (x : Operand) (ho : o.op = .convert src dst x) (hs : P.underlying src = some (.slice e)) (he : P.underlying e = some (.int .u8)) (hd : P.underlying dst = some .string) (A : Option Addr) (c : Nat) (xs : List Int) (hx : a.eval x = .slice A xs.length c) (h : Kd.C (Kd.int .u8) w A xs.length xs) :
    (execOp a.eval o).run P w = .ok (.value (.string (strOfNums xs))) w := by
  unfold execOp
  simp only [ho, hx, Sem.run_bind, run_string_row src dst e hs he hd w A c xs h, Result.andThen_ok, Sem.run_pure]
theorem seg_C {w : World} {ad : Addr} {n : Nat} {l : List Int} (h : Kd.C (Kd.int .u8) w (some ad) n l) (lo hi : Nat) (h1 : lo ≤ hi) (h2 : hi ≤ n) : Kd.C (Kd.int .u8) w (some (ad.add lo)) (hi - lo) ((l.take hi).drop lo) := by
  have hr := Kd.reads_of_C (enc := Value.int .u8) (d := (0 : Int)) (h1 := fun _ => rfl) h
  have hn : l.length = n := hr.1
  refine Kd.C_of_reads (enc := Value.int .u8) (d := (0 : Int)) (h1 := fun _ => rfl) ⟨by rw [List.length_drop, List.length_take]; omega, by have := hr.2.1; omega, fun h0 => ⟨_, rfl, fun j hj => ?_⟩⟩
  obtain ⟨ad', e1, e2⟩ := hr.2.2 (by omega)
  injection e1 with e1
  subst e1
  have h3 : (ad.add lo).add j = ad.add (lo + j) := by
    unfold Addr.add
    by_cases ha : lo = 0 <;> by_cases hb : j = 0 <;> simp [ha, hb, Nat.add_assoc]
  rw [h3, e2 (lo + j) (by omega)]
  simp [List.getD_eq_getElem?_getD, List.getElem?_drop, List.getElem?_take_of_lt (show lo + j < hi by omega)]
theorem ex_binop {o : Oper} {a : Act} (w : World) (op : BinOp) (t yt : TypeId) (x y : Operand) (ho : o.op = .binOp op t x y yt) (X Y : Value) (hx : a.eval x = X) (hy : a.eval y = Y) (hg : (eqGuard op t x y X Y).run P w = .ok () w) (v : Value) (hr : (binOp op t X Y).run P w = .ok v w) :
    (execOp a.eval o).run P w = .ok (.value v) w := by
  unfold execOp
  simp only [ho, hx, hy, Sem.run_bind, hg, hr, Result.andThen_ok, Sem.run_pure]
end
end Go.Proofs.Ytjpkjakdhbnehaa.Q
