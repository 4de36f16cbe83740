/- EntriesKeep: for every input the statement's function returns true; there is no further condition. Text 2 of 7: this session's texts, and of the words that print.sh has printed those that are needed, laid together by its own program (merge.py). Not trusted: Lean checks them. -/
import Derived.Test.YtkkflgdobgbmmaaProg
import Derived.Below
import Derived.Deep.Draws
import Derived.Deep.AppendLies
import Derived.Maps.AppendAt
import Derived.OwnWalk
import Derived.Laws.BytesArg
import Derived.Laws.MakeOwn
import Derived.Laws.OwnMore
import Derived.Deep.OwnRows
import Derived.Tactics
import Derived.Lib.ConvBytes
import Derived.Laws.Slices
import Derived.WalkKit
import Derived.KernelRfl
import Derived.RowKit3
import Derived.Deep.LoopGhost
import Derived.Deep.QuietTactic
import Derived.BigQuiet
import Derived.WideLaws
import Derived.Deep.DeepCutAuto
import Derived.Deep.CutBlock
import Derived.Deep.RegionHeld3
import Derived.Laws.Rows
import Derived.Lib.AppendStr
import Derived.ArgAppend
import Derived.Laws.IdiomCopy
import Derived.OrdersHeld
import Derived.Laws.BitsLemmas
import Derived.RowKit
import Derived.Laws.CopyOwn
import Derived.Lib.SliceRun
import Derived.Outline
import Derived.Test.YtkkflgdobgbmmaaMEntriesKeep0
import Derived.ProofKit
import Derived.OpenShut
import Derived.ShutString
import Derived.ChangeOld
import Derived.SizedLaws
import Derived.Deep.Grids
import Derived.Laws.CopyRow
import Derived.Laws.ResultCell
import Derived.Laws.StructEq
import Derived.Laws.BytesString
import Derived.Laws.RangeAny
import Derived.Lib.OthersKept
import Derived.Lib.Bytealg
import Derived.WalkMore
import Derived.ScopeJumps
import Derived.Shelf.Strings.IndexAnyAll
section
namespace Go.Proofs.Ytkkflgdobgbmmaa.Q
open Go.RowKit Go.Proofs.YtkkflgdobgbmmaaW.PrintWords Go.Proofs.YtkkflgdobgbmmaaW.PrintLast Go.Proofs.YtkkflgdobgbmmaaW.PrintMore
attribute [local go_sem] max2_int min2_int max_two min_two max_three min_three max_four min_four   -- for this text's walks alone
set_option linter.unusedVariables false
set_option linter.unusedSimpArgs false



def errW : Option Int → Value
  | none => .nilIface
  | some c => .iface 0 (.int .i64 c)
theorem errW_none : errW none = .nilIface := rfl
theorem errW_some (c : Int) : errW (some c) = .iface 0 (.int .i64 c) := rfl

theorem info3 : (Try.prog.info? 3).map (fun i => (i.zero, i.size, i.bytes)) = some (some (.int .i64 0), 1, 8) := by kernel_rfl
theorem info5 : (Try.prog.info? 5).map (fun i => (i.zero, i.size, i.bytes)) = some (some (.int .u8 0), 1, 1) := by kernel_rfl
theorem info9 : (Try.prog.info? 9).map (fun i => (i.zero, i.size, i.bytes)) = some (some (.string ⟨#[]⟩), 1, 16) := by kernel_rfl
theorem info28 : (Try.prog.info? 28).map (fun i => (i.zero, i.size, i.bytes)) = some (some (.agg #[(.string ⟨#[]⟩), (.int .i64 0)]), 2, 24) := by kernel_rfl
/-! #### struct type 28 -/
structure S28 where
  f0 : ByteArray
  f1 : Int
def z28 : S28 := ⟨(⟨#[]⟩ : ByteArray), (0 : Int)⟩
def k28 : Kd S28 := Kd.iso (Kd.pair Kd.string (Kd.int .i64)) (fun x : S28 => (x.f0, x.f1))
theorem k28_open {w : World} {x : S28} {cs : List Value} (h : k28.K w x cs) : cs = [.string x.f0, .int .i64 x.f1] := by
  obtain ⟨_, _, rfl, rfl, rfl⟩ := h
  exact rfl
theorem k28_openM {w : World} {base : Nat} {ok : Nat → Prop} {x : S28} {cs : List Value} (h : k28.M w base ok x cs) : cs = [.string x.f0, .int .i64 x.f1] := by
  obtain ⟨_, _, rfl, rfl, rfl⟩ := h
  exact rfl
theorem k28_mkM (w : World) (base : Nat) (ok : Nat → Prop) (x : S28)  : k28.M w base ok x [.string x.f0, .int .i64 x.f1] := ⟨[.string x.f0], [.int .i64 x.f1], rfl, rfl, rfl⟩
def rd_T28 (xs : List S28) (i : Int) : S28 := xs.getD i.toNat z28
theorem at_T28 {w : World} {A : Option Addr} {n : Nat} {xs : List S28} (h : Kd.C k28 w A n xs) (i : Int) (h0 : 0 ≤ i) (h1 : i < n) : ∃ ad , A = some ad ∧ w.cell? (ad.add (i.toNat * 2)) = some (.string (rd_T28 xs i).f0) ∧ w.cell? ⟨(ad.add (i.toNat * 2)).block, (ad.add (i.toNat * 2)).off + 1, none⟩ = some (.int .i64 (rd_T28 xs i).f1) := by
  obtain ⟨ad, c, e, _, hK, hc0⟩ := Kd.C_get h z28 i h0 h1
  have hc : ∀ j u, c[j]? = some u → w.cell? (ad.add (i.toNat * 2 + j)) = some u := hc0
  obtain rfl := k28_open hK
  exact ⟨ad, e, hc 0 _ rfl, by rw [← add_field _ _ 1 (by omega)]; exact hc 1 _ rfl⟩

/-! #### struct type 55 -/
structure S55 where
  f0 : ByteArray
  f1 : Int
  f2 : Bool
def z55 : S55 := ⟨(⟨#[]⟩ : ByteArray), (0 : Int), false⟩
def k55 : Kd S55 := Kd.iso (Kd.pair Kd.string (Kd.pair (Kd.int .u16) Kd.bool)) (fun x : S55 => (x.f0, x.f1, x.f2))
theorem k55_open {w : World} {x : S55} {cs : List Value} (h : k55.K w x cs) : cs = [.string x.f0, .int .u16 x.f1, .bool x.f2] := by
  obtain ⟨_, _, rfl, rfl, ⟨_, _, rfl, rfl, rfl⟩⟩ := h
  exact rfl
theorem k55_mk (w : World) (x : S55)  : k55.K w x [.string x.f0, .int .u16 x.f1, .bool x.f2] := ⟨[.string x.f0], [.int .u16 x.f1, .bool x.f2], rfl, rfl, ⟨[.int .u16 x.f1], [.bool x.f2], rfl, rfl, rfl⟩⟩
def rd_T55 (xs : List S55) (i : Int) : S55 := xs.getD i.toNat z55
theorem at_T55 {w : World} {A : Option Addr} {n : Nat} {xs : List S55} (h : Kd.C k55 w A n xs) (i : Int) (h0 : 0 ≤ i) (h1 : i < n) : ∃ ad , A = some ad ∧ w.cell? (ad.add (i.toNat * 3)) = some (.string (rd_T55 xs i).f0) ∧ w.cell? ⟨(ad.add (i.toNat * 3)).block, (ad.add (i.toNat * 3)).off + 1, none⟩ = some (.int .u16 (rd_T55 xs i).f1) ∧ w.cell? ⟨(ad.add (i.toNat * 3)).block, (ad.add (i.toNat * 3)).off + 2, none⟩ = some (.bool (rd_T55 xs i).f2) := by
  obtain ⟨ad, c, e, _, hK, hc0⟩ := Kd.C_get h z55 i h0 h1
  have hc : ∀ j u, c[j]? = some u → w.cell? (ad.add (i.toNat * 3 + j)) = some u := hc0
  obtain rfl := k55_open hK
  exact ⟨ad, e, hc 0 _ rfl, by rw [← add_field _ _ 1 (by omega)]; exact hc 1 _ rfl, by rw [← add_field _ _ 2 (by omega)]; exact hc 2 _ rfl⟩

end Go.Proofs.Ytkkflgdobgbmmaa.Q
end
section
/- A slice of acts that comes in. -/
namespace Go.Proofs.Ytkkflgdobgbmmaa.Q
open Go.ChangeShapes Go.WideShapes Go.ChangeAt Go.RowKit Go.Proofs.YtkkflgdobgbmmaaW.PrintWords
set_option linter.unusedVariables false
set_option linter.unusedSimpArgs false
theorem list_of' {α : Type} {p : Nat → α → Prop} : ∀ (n : Nat), (∀ i, i < n → ∃ x, p i x) → ∃ l : List α, l.length = n ∧ ∀ i x, l[i]? = some x → p i x
  | 0, _ => ⟨[], rfl, fun i x h => by simp at h⟩
  | n + 1, h => by
    obtain ⟨l, h1, h2⟩ := list_of' n (fun i hi => h i (by omega))
    obtain ⟨y, hy⟩ := h n (by omega)
    refine ⟨l ++ [y], by simp [h1], fun i x hx => ?_⟩
    by_cases hi : i < l.length
    · rw [List.getElem?_append_left hi] at hx
      exact h2 i x hx
    · have hlt := (List.getElem?_eq_some_iff.1 hx).1
      simp at hlt
      have : i = l.length := by omega
      subst this
      rw [List.getElem?_append_right (Nat.le_refl _), Nat.sub_self] at hx
      simp at hx
      subst hx
      rw [h1]
      exact hy
theorem add_add' {a : Addr} {i j : Nat} : (a.add i).add j = a.add (i + j) := by
  unfold Addr.add
  by_cases ha : i = 0 <;> by_cases hb : j = 0 <;> simp [ha, hb, Nat.add_assoc]
section
variable {H : Type} {enc : TypeId × Value → H} {W : World} {held : Bool} {fuel : Nat} {cs : List Value} {y : DataW H × List MemPlace}
theorem open_act (h : DataW.trod enc Try.prog W 0 (fun _ => true) held fuel 55 cs = some y) : ∃ x : S55, k55.K W x cs ∧ (Lit.int .u16 x.f1).wf = true := by
  obtain ⟨xs, n, _, _, hl, hlen, hff⟩ := DataW.trod_struct Try.underlying55 h
  have hsz : cs.length = 3 := hl.trans (by kernel_rfl)
  obtain ⟨c0, c1, c2, rfl⟩ : ∃ c0 c1 c2 : Value, cs = [c0, c1, c2] := by
    rcases cs with _ | ⟨c0, _ | ⟨c1, _ | ⟨c2, _ | ⟨_, _⟩⟩⟩⟩ <;> simp at hsz
    exact ⟨c0, c1, c2, rfl⟩
  have hq0 := hff 0 _ rfl
  rw [List.getElem?_eq_getElem (show 0 < xs.length by rw [hlen]; decide)] at hq0
  have u0 : Try.prog.cellsOf 9 = 1 := by kernel_rfl
  obtain ⟨s, e0, _, _⟩ := DataW.trod_string Try.underlying9 hq0
  obtain rfl : c0 = .string s := by simpa [u0] using e0
  have hq1 := hff 1 _ rfl
  rw [List.getElem?_eq_getElem (show 1 < xs.length by rw [hlen]; decide)] at hq1
  have u1 : Try.prog.cellsOf 41 = 1 := by kernel_rfl
  obtain ⟨b, e1, _, w1⟩ := DataW.trod_int Try.underlying41 hq1
  obtain rfl : c1 = .int .u16 b := by simpa [u1] using e1
  have hq2 := hff 2 _ rfl
  rw [List.getElem?_eq_getElem (show 2 < xs.length by rw [hlen]; decide)] at hq2
  have u2 : Try.prog.cellsOf 4 = 1 := by kernel_rfl
  obtain ⟨f, e2, _⟩ := DataW.trod_bool Try.underlying4 hq2
  obtain rfl : c2 = .bool f := by simpa [u2] using e2
  exact ⟨⟨s, b, f⟩, k55_mk W ⟨s, b, f⟩, w1⟩
/-- A slice of elements each of which is read. -/
theorem open_row {α : Type} (d : Kd α) (Z : α → Prop) {t e : TypeId} (ht : Try.prog.underlying t = some (.slice e)) (hsz : Try.prog.cellsOf e = d.sz) (he : ∀ (n : Nat) (cs : List Value) (y : DataW H × List MemPlace), DataW.trod enc Try.prog W 0 (fun _ => true) held n e cs = some y → ∃ x, d.K W x cs ∧ Z x)
    (h : DataW.trod enc Try.prog W 0 (fun _ => true) held fuel t cs = some y) : ∃ (A : Option Addr) (xs : List α) (c : Nat), cs = [.slice A xs.length c] ∧ xs.length ≤ c ∧ Kd.C d W A xs.length xs ∧ ∀ x ∈ xs, Z x := by
  rcases DataW.trod_slice ht h with ⟨hcs, _⟩ | ⟨ad, len', cap', elems, rest, n, _, hcs, hx, _, hle, hm, hlen, hel, _, _⟩
  · exact ⟨none, [], 0, hcs, Nat.le_refl _, ⟨rfl, by simp, fun h => absurd h (by simp)⟩, fun x hx => by cases hx⟩
  · obtain ⟨l, h1, h2⟩ := list_of' (p := fun i x => ∃ c : List Value, c.length = d.sz ∧ (d.K W x c ∧ Z x) ∧ ∀ (k : Nat) (u : Value), c[k]? = some u → W.cell? (ad.add (i * d.sz + k)) = some u) len' (fun i hi => by
      have hq := hel i hi
      rw [List.getElem?_eq_getElem (by omega), Option.bind_eq_some_iff] at hq
      obtain ⟨c, hc, hq⟩ := hq
      obtain ⟨x, hx⟩ := he n c _ hq
      rw [hsz] at hc
      obtain ⟨_, hcl, hcg⟩ := World.cells?_some hc
      refine ⟨x, c, hcl, hx, fun k u hu => ?_⟩
      have hk := (List.getElem?_eq_some_iff.1 hu).1
      have := hcg k (by omega)
      rw [add_add'] at this
      rw [this, hu])
    refine ⟨some ad, l, cap', by rw [h1]; exact hcs, by omega, ⟨rfl, by simp only [maxLen] at hm; omega, fun _ => ⟨ad, rfl, fun j p hj => by obtain ⟨c, q1, q2, q3⟩ := h2 j p hj; exact ⟨c, q1, q2.1, q3⟩⟩⟩, fun x hx => by obtain ⟨j, hj⟩ := List.getElem?_of_mem hx; obtain ⟨c, q1, q2, q3⟩ := h2 j x hj; exact q2.2⟩
theorem open_acts (h : DataW.trod enc Try.prog W 0 (fun _ => true) held fuel 51 cs = some y) : ∃ (A : Option Addr) (xs : List S55) (c : Nat), cs = [.slice A xs.length c] ∧ xs.length ≤ c ∧ Kd.C k55 W A xs.length xs ∧ ∀ x ∈ xs, (Lit.int .u16 x.f1).wf = true :=
  open_row k55 (fun x => (Lit.int .u16 x.f1).wf = true) Try.underlying51 (by kernel_rfl) (fun n cs y h => open_act h) h
end
/-- What came in, and what is known of it. -/
structure RowIn (α : Type) where
  a : Option Addr
  c : Nat
  xs : List α
def ActsOk (W : World) (x : RowIn S55) : Prop := Kd.C k55 W x.a x.xs.length x.xs ∧ x.xs.length ≤ x.c ∧ ∀ y ∈ x.xs, (Lit.int .u16 y.f1).wf = true
theorem in_acts {H : Type} {enc : TypeId × Value → H} {W : World} {base : Nat} {r : _} {v : Value} {d : DataW H} {p : List MemPlace} (hv : Value.okWide Try.prog W r base 51 v) (h : DataW.Trod enc Try.prog W 0 (fun _ => true) true 51 v d p) :
    ∃ x : RowIn S55, ActsOk W x ∧ v = .slice x.a x.xs.length x.c := by
  obtain ⟨a, len, cap, rfl⟩ := okWide_slice Try.underlying51 hv
  obtain ⟨fuel, hf⟩ := h
  obtain ⟨A, xs, c, e, hc, hC, hZ⟩ := open_acts hf
  simp [Value.cells] at e
  obtain ⟨rfl, rfl, rfl⟩ := e
  exact ⟨⟨_, _, xs⟩, ⟨hC, hc, hZ⟩, rfl⟩
end Go.Proofs.Ytkkflgdobgbmmaa.Q
end
section
namespace Go.Proofs.Ytkkflgdobgbmmaa.Q
open Go.RowKit Go.Proofs.YtkkflgdobgbmmaaW.PrintWords Go.Proofs.YtkkflgdobgbmmaaW.PrintLast Go.Proofs.YtkkflgdobgbmmaaW.PrintMore
attribute [local go_sem] max2_int min2_int max_two min_two max_three min_three max_four min_four   -- for this text's walks alone
set_option linter.unusedVariables false
set_option linter.unusedSimpArgs false

-- EXT words
/-- copy(v[off:], ys...) into a row of one's own. -/
theorem ext_copy_run {P : Program} {o : Oper} {a : Act} {w0 W : World} (base : Nat) (d s : Operand) (dT sT e : TypeId)
    (ho : o.op = .call { callee := .builtin .copy, args := #[d, s], argTypes := #[dT, sT] })
    (hu : P.underlying dT = some (.slice e)) (hsz : (P.info? e).map (·.size) = some 1)
    (k : IntKind) (ok : Nat → Prop) (g cap : Nat) (xs ys : List Int) (off dLen dCap : Nat) (dp A : Option Addr) (m c : Nat)
    (hd : a.eval d = .slice dp dLen dCap) (hs : a.eval s = .slice A m c)
    (HO : (Kd.int k).R e W base ok (.slice (some ⟨g, 0, none⟩) xs.length cap) xs) (HR : (Kd.int k).C W A m ys)
    (hoff : off + dLen = xs.length) (hdp : 0 < dLen → dp = some ⟨g, off, none⟩) (HB : Below base w0 W) :
    ∃ w', (execOp a.eval o).run P W = .ok (.value (goInt (min m dLen : Nat))) w' ∧ (Kd.int k).R e w' base ok (.slice (some ⟨g, 0, none⟩) xs.length cap) (xs.take off ++ (ys.take dLen ++ xs.drop (off + min m dLen))) ∧ Below base w0 w' ∧ W.grownBy w' (some g) := by
  have hrd := Kd.reads_of_C (enc := Value.int k) (d := (0 : Int)) (h1 := fun _ => rfl) HR
  have hm : ys.length = m := hrd.1
  obtain ⟨hlen, hown⟩ := Kd.own_of_R (enc := Value.int k) (h1 := fun _ => rfl) HO
  rcases hown with ⟨h1, _⟩ | ⟨g', cap', cur, he, hb, hheap, hnc, hcm, hcs, hpre⟩
  · cases h1
  · injection he with ha hn hc
    injection ha with ha
    injection ha with ha
    subst ha
    subst hc
    by_cases h0 : min m dLen = 0
    · have hrun := run_copy_none (P := P) W dT sT o.type e dp A dLen dCap m c hu hsz h0
      have e1 : ys.take dLen = [] := by
        apply List.eq_nil_of_length_eq_zero
        rw [List.length_take]
        omega
      have e2 : xs.take off ++ (ys.take dLen ++ xs.drop (off + min m dLen)) = xs := by
        rw [e1, h0, List.nil_append, Nat.add_zero, List.take_append_drop]
      refine ⟨W, ?_, by rw [e2]; exact HO, HB, World.grownBy.refl W _⟩
      rw [h0]
      simp [execOp, ho, resolve, invoke, builtin, hd, hs, hrun, Result.andThen]
    · have hdp' := hdp (by omega)
      subst hdp'
      obtain ⟨ad, rfl, hcell⟩ := hrd.2.2 (by omega)
      obtain ⟨CS, hCS⟩ : ∃ CS, CS = (ys.take dLen).map (Value.int k) := ⟨_, rfl⟩
      have hcl : CS.length = Nat.min m dLen := by
        rw [hCS]
        simp only [List.length_map, List.length_take]
        show min dLen ys.length = min m dLen
        omega
      have hml : Nat.min m dLen = min m dLen := rfl
      have hrun := run_copy_row (P := P) W dT sT o.type e g off dLen dCap ad m c cur e CS hu hsz hheap hcl ?_ ?_ ?_
      rotate_left
      · intro j v hj
        rw [hCS] at hj
        have hj' : j < ys.length ∧ j < dLen := by
          have := (List.getElem?_eq_some_iff.1 hj).1
          simp only [List.length_map, List.length_take] at this
          omega
        have hv : v = .int k (ys.getD j 0) := by
          rw [List.getElem?_map, List.getElem?_take_of_lt hj'.2, List.getElem?_eq_getElem hj'.1] at hj
          simp only [Option.map_some, Option.some.injEq] at hj
          rw [← hj, List.getD_eq_getElem?_getD, List.getElem?_eq_getElem hj'.1]
          rfl
        rw [hv]
        exact hcell j (by omega)
      · rw [hcl, hml]
        omega
      · intro v hv
        rw [hCS] at hv
        obtain ⟨q, _, rfl⟩ := List.mem_map.1 hv
        rfl
      · rw [hcl, hml] at hrun
        try rw [List.append_assoc] at hrun
        have hold : cur.toList = encs (Value.int k) xs ++ cur.toList.drop xs.length := by
          have := (List.take_append_drop (xs.length * 1) cur.toList).symm
          rw [hpre] at this
          simpa using this
        have hel : (encs (Value.int k) xs).length = xs.length := encs_length xs
        have ht1 : cur.toList.take off = (encs (Value.int k) xs).take off := by
          rw [hold, List.take_append_of_le_length (by omega)]
        have ht2 : cur.toList.drop (off + min m dLen) = (encs (Value.int k) xs).drop (off + min m dLen) ++ cur.toList.drop xs.length := by
          conv => lhs; rw [hold]
          rw [List.drop_append_of_le_length (by omega)]
        have hnew : cur.toList.take off ++ (CS ++ cur.toList.drop (off + min m dLen)) = encs (Value.int k) (xs.take off ++ (ys.take dLen ++ xs.drop (off + min m dLen))) ++ cur.toList.drop xs.length := by
          rw [ht1, ht2, hCS]
          simp only [encs, List.map_append, List.map_take, List.map_drop, List.append_assoc]
        have hnl : (xs.take off ++ (ys.take dLen ++ xs.drop (off + min m dLen))).length = xs.length := by
          simp only [List.length_append, List.length_take, List.length_drop]
          omega
        refine ⟨_, by simp [execOp, ho, resolve, invoke, builtin, hd, hs, hrun, Result.andThen]; rfl, ?_, below_setRow HB hb _, ?_⟩
        · refine Kd.R_of_own (enc := Value.int k) (h1 := fun _ => rfl) ⟨by rw [encs_length]; omega, .inr ⟨g, cap, _, by rw [hnl], hb, setRow_heap W g _ _ e _ hheap, by omega, hcm, ?_, ?_⟩⟩ HO.1
          · rw [hnew]
            simp only [List.size_toArray, List.length_append, encs_length, hnl, List.length_drop, Array.length_toList]
            omega
          · rw [hnew]
            rw [List.take_append_of_le_length (by rw [encs_length]; omega), List.take_of_length_le (by rw [encs_length]; omega)]
        · exact ⟨rfl, rfl, rfl, by simp [World.setRow], fun q hq hne => setRow_other W g q _ (fun e => hne (by rw [e]))⟩

theorem ext_copy {P : Program} {ops : Array Oper} {rest : List Oper} {o : Oper} {a : Act} {Q : Exit → Act → World → Prop} {w0 W : World} (base : Nat) (hgd : o.guard = none) (d s : Operand) (dT sT e : TypeId)
    (ho : o.op = .call { callee := .builtin .copy, args := #[d, s], argTypes := #[dT, sT] })
    (hu : P.underlying dT = some (.slice e)) (hsz : (P.info? e).map (·.size) = some 1)
    (k : IntKind) (ok : Nat → Prop) (g cap : Nat) (xs ys : List Int) (off dLen dCap : Nat) (dp A : Option Addr) (m c : Nat)
    (hd : a.eval d = .slice dp dLen dCap) (hs : a.eval s = .slice A m c)
    (HO : (Kd.int k).R e W base ok (.slice (some ⟨g, 0, none⟩) xs.length cap) xs) (HR : (Kd.int k).C W A m ys)
    (hoff : off + dLen = xs.length) (hdp : 0 < dLen → dp = some ⟨g, off, none⟩) (HB : Below base w0 W)
    (h : ∀ w', (Kd.int k).R e w' base ok (.slice (some ⟨g, 0, none⟩) xs.length cap) (xs.take off ++ (ys.take dLen ++ xs.drop (off + min m dLen))) → Below base w0 w' → W.grownBy w' (some g) → wpList P ops Q rest (a.put o.dst (goInt (min m dLen : Nat))) w') :
    wpList P ops Q (o :: rest) a W := by
  obtain ⟨w', hr, h1, h2, h3⟩ := ext_copy_run base d s dT sT e ho hu hsz k ok g cap xs ys off dLen dCap dp A m c hd hs HO HR hoff hdp HB
  exact Kd.event_run hgd hr (h w' h1 h2 h3)
/-! the number that bytes tell, the lowest first -/
def leval : List Int → Int
  | [] => 0
  | x :: t => x + 256 * leval t
def u8s (l : List Int) : Prop := ∀ x ∈ l, 0 ≤ x ∧ x < 256
instance (l : List Int) : Decidable (u8s l) := by unfold u8s; infer_instance
theorem leval_range : ∀ (l : List Int), u8s l → 0 ≤ leval l ∧ leval l < 256 ^ l.length
  | [], _ => by simp [leval]
  | x :: t, h => by
    have h1 := h x (by simp)
    have h2 := leval_range t (fun y hy => h y (by simp [hy]))
    rw [leval, List.length_cons, Int.pow_succ]
    omega
theorem leval_snoc : ∀ (l : List Int) (x : Int), leval (l ++ [x]) = leval l + x * 256 ^ l.length
  | [], x => by simp [leval]
  | y :: t, x => by
    rw [List.cons_append, leval, leval, leval_snoc t x, List.length_cons, Int.pow_succ, Int.mul_add, ← Int.add_assoc, Int.mul_comm 256 (x * 256 ^ t.length), Int.mul_assoc]
theorem leval_take (l : List Int) (i : Nat) (h : i < l.length) : leval (l.take (i + 1)) = leval (l.take i) + rd l i * 256 ^ i := by
  rw [List.take_succ_eq_append_getElem h, leval_snoc, List.length_take, Nat.min_eq_left (by omega)]
  simp [rd, List.getD_eq_getElem?_getD, List.getElem?_eq_getElem h]
theorem wraps_u64 (n : Int) (h0 : 0 ≤ n) (h1 : n < 2 ^ 64) : IntKind.u64.wrap n = n := by
  simp [IntKind.wrap, IntKind.bits, IntKind.signed]
  omega
theorem pow_mono (b : Nat) (hb : 0 < b) {i j : Nat} (h : i ≤ j) : ((b : Int)) ^ i ≤ (b : Int) ^ j := by exact_mod_cast Nat.pow_le_pow_right hb h
theorem or_u64 (x y : Int) (i : Nat) (hi : i ≤ 64) (hx0 : 0 ≤ x) (hx : x < 2 ^ i) (hy0 : 0 ≤ y) (hy : y % 2 ^ i = 0) (hy1 : y < 2 ^ 64) : Go.bits .or .u64 x y = x + y := by
  have hx1 : x < 2 ^ 64 := Int.lt_of_lt_of_le hx (pow_mono 2 (by decide) hi)
  have hc : Go.bits .or .u64 x y = Go.bits .or .u64 y x := by
    obtain ⟨a, rfl⟩ := Int.eq_ofNat_of_zero_le hx0
    obtain ⟨b, rfl⟩ := Int.eq_ofNat_of_zero_le hy0
    rw [(bits_nat .u64 64 (by decide) wraps_u64 a b (by exact_mod_cast hx1) (by exact_mod_cast hy1)).2, (bits_nat .u64 64 (by decide) wraps_u64 b a (by exact_mod_cast hy1) (by exact_mod_cast hx1)).2, Nat.or_comm]
  rw [hc, bits_join .u64 64 (by decide) wraps_u64 i y x hy0 hy hy1 hx0 hx hx1, Int.add_comm]
theorem pow256 (i : Nat) : (256 : Int) ^ i = 2 ^ (8 * i) := by rw [Int.pow_mul]; rfl
theorem leval_step (l : List Int) (hu : u8s l) (hl : l.length ≤ 8) (i : Int) (h0 : 0 ≤ i) (h1 : i < l.length) :
    Go.bits .or .u64 (leval (l.take i.toNat)) (shl .u64 (IntKind.u64.wrap (rd l i)) (IntKind.u64.wrap (wrap64 (8 * i)))) = leval (l.take (i + 1).toNat) := by
  obtain ⟨n, rfl⟩ := Int.eq_ofNat_of_zero_le h0
  have hn : n < l.length := by omega
  have hb : 0 ≤ rd l n ∧ rd l n < 256 := by
    have := hu (l[n]) (List.getElem_mem hn)
    simpa [rd, List.getD_eq_getElem?_getD, List.getElem?_eq_getElem hn] using this
  have hw : IntKind.u64.wrap (wrap64 (8 * (n : Int))) = 8 * (n : Int) := by
    have : wrap64 (8 * (n : Int)) = 8 * (n : Int) := by unfold wrap64; omega
    rw [this, wraps_u64 _ (by omega) (by omega)]
  have hr := leval_range (l.take n) (fun x hx => hu x (List.mem_of_mem_take hx))
  rw [List.length_take, Nat.min_eq_left (by omega)] at hr
  have e1 : ((n : Int) + 1).toNat = n + 1 := by omega
  have e2 : (8 * (n : Int)).toNat = 8 * n := by omega
  have hp : (256 : Int) ^ n * 256 ≤ 2 ^ 64 := by
    rw [← Int.pow_succ, show (2 : Int) ^ 64 = 256 ^ 8 from by decide]
    exact pow_mono 256 (by decide) (by omega)
  have hp0 : (0 : Int) < 256 ^ n := Int.pow_pos (by decide)
  have hprod : rd l n * 256 ^ n ≤ 255 * 256 ^ n := Int.mul_le_mul_of_nonneg_right (by omega) (by omega)
  have hprod0 : 0 ≤ rd l n * 256 ^ n := Int.mul_nonneg hb.1 (by omega)
  rw [hw, wraps_u64 (rd l n) hb.1 (by omega), Int.toNat_natCast, e1, leval_take l n hn]
  unfold shl
  rw [e2, show IntKind.u64.bits = 64 from rfl, Nat.min_eq_left (by omega), ← pow256, wraps_u64 _ hprod0 (by omega)]
  exact or_u64 _ _ (8 * n) (by omega) hr.1 (by rw [← pow256]; exact hr.2) hprod0 (by rw [← pow256]; exact Int.mul_emod_left _ _) (by omega)
/-- v[:0] of a row of one's own. -/
theorem ext_take0 {P : Program} (t e : TypeId) (kl : IntKind) (ht : P.underlying t = some (.slice e)) (hsz : (P.info? e).map (·.size) = some 1) (g n c : Nat) :
    ∀ W : World, (Instr.slice t (.slice (some ⟨g, 0, none⟩) n c) none (some (.int kl 0)) none).run P W = .ok (.slice (some ⟨g, 0, none⟩) 0 c) W := by
  intro W
  obtain ⟨i, hi, hs⟩ := Option.map_eq_some_iff.1 hsz
  have hel : P.elem t = e := by simp [Program.elem, ht]
  have hu : P.underlying t = some (.slice (P.elem t)) := by rw [hel]; exact ht
  rw [run_slice_h W t (some ⟨g, 0, none⟩) n c hu kl 0 (by omega) (by omega), hel]
  simp [sizeOf, typeInfo, hi, hs, sliced, Result.andThen, Addr.add]
/-- An element of a row of rows that is read. -/
theorem ext_row_at {e : Nat} {α : Type} {d : Kd α} {w : World} {A : Option Addr} {n : Nat} {xs : List (List α)} (h : (Kd.slice e d).C w A n xs) (i : Int) (h0 : 0 ≤ i) (h1 : i < n) :
    ∃ ad A9 c9, A = some ad ∧ w.cell? (ad.add i.toNat) = some (.slice A9 (xs.getD i.toNat []).length c9) ∧ (xs.getD i.toNat []).length ≤ c9 ∧ d.C w A9 (xs.getD i.toNat []).length (xs.getD i.toNat []) := by
  obtain ⟨ad, c, e1, _, ⟨A9, c9, rfl, hl, hr⟩, hc⟩ := Kd.C_get h [] i h0 h1
  have h2 := hc 0 _ rfl
  have h3 : i.toNat * (Kd.slice e d).sz + 0 = i.toNat := by
    show i.toNat * 1 + 0 = i.toNat
    omega
  rw [h3] at h2
  exact ⟨ad, A9, c9, e1, h2, hl, hr⟩
theorem flat_snoc {α : Type} (l : List (List α)) (i : Nat) (h : i < l.length) : (l.take (i + 1)).flatten = (l.take i).flatten ++ l.getD i [] := by
  rw [List.take_succ_eq_append_getElem h, List.flatten_append]
  simp [List.getElem?_eq_getElem h]
theorem flat_le {α : Type} (l : List (List α)) (i : Nat) : (l.take i).flatten.length ≤ l.flatten.length := by
  conv => rhs; rw [← List.take_append_drop i l, List.flatten_append, List.length_append]
  omega
/-! a row of bytes that is only seen: whatever is marked, whatever room is behind it -/
def SeenRow (W : World) (base : Nat) (e : TypeId) (xs : List Int) (v : Value) : Prop :=
  ∃ (g c : Nat) (cells : Array Value) (fr : Nat × Nat), v = .slice (some ⟨g, 0, none⟩) xs.length c ∧ xs.length ≤ c ∧ xs.length ≤ 9223372036854775807 ∧ base ≤ g ∧ W.heap[g]? = some (.cells cells e fr) ∧ cells.toList.take xs.length = encs (Value.int .u8) xs
theorem SeenRow.lt {W : World} {base : Nat} {e : TypeId} {xs : List Int} {v : Value} (h : SeenRow W base e xs v) : ∀ k, v.ownBlock = some k → k < W.heap.size := by
  obtain ⟨g, c, cells, fr, rfl, _, _, _, hh, _⟩ := h
  intro k hk
  have : g = k := by simpa [Value.ownBlock] using hk
  subst this
  exact (Array.getElem?_eq_some_iff.1 hh).1
theorem SeenRow.below {W W1 : World} {base : Nat} {e : TypeId} {xs : List Int} {v : Value} (h : SeenRow W base e xs v) (hb : Below W.heap.size W W1) : SeenRow W1 base e xs v := by
  obtain ⟨g, c, cells, fr, rfl, h1, h2, h3, hh, h4⟩ := h
  exact ⟨g, c, cells, fr, rfl, h1, h2, h3, (hb.block g (Array.getElem?_eq_some_iff.1 hh).1).trans hh, h4⟩
theorem SeenRow.reads {W : World} {base : Nat} {e : TypeId} {xs : List Int} {v : Value} (h : SeenRow W base e xs v) : ∃ A c, v = .slice A xs.length c ∧ xs.length ≤ c ∧ (Kd.int .u8).C W A xs.length xs := by
  obtain ⟨g, c, cells, fr, rfl, h1, h2, h3, hh, h4⟩ := h
  refine ⟨_, c, rfl, h1, Kd.C_of_reads (enc := Value.int .u8) (d := (0 : Int)) (h1 := fun _ => rfl) ⟨rfl, h2, fun hn => ⟨_, rfl, fun j hj => ?_⟩⟩⟩
  rw [add_plain]
  have h5 : cells.toList[j]? = some (.int .u8 (xs.getD j 0)) := by
    have h6 := encs_get (enc := Value.int .u8) (d := (0 : Int)) xs j hj
    rw [← h4, List.getElem?_take_of_lt hj] at h6
    exact h6
  simp only [World.cell?, hh]
  rw [Array.getElem?_toList] at h5
  simpa using h5
/-- '[]byte{..}', as it is laid. -/
theorem SeenRow.lit (W : World) (base : Nat) (e : TypeId) (xs : List Int) (hb : base ≤ W.heap.size) (hn : xs.length ≤ 9223372036854775807) : SeenRow (W.alloc (.cells (encs (Value.int .u8) xs).toArray e)) base e xs (.slice (some ⟨W.heap.size, 0, none⟩) xs.length xs.length) :=
  ⟨W.heap.size, xs.length, (encs (Value.int .u8) xs).toArray, (0, 0), rfl, Nat.le_refl _, hn, hb, heap_alloc_new W _, by show List.take xs.length (encs (Value.int .u8) xs) = _; exact List.take_of_length_le (by rw [encs_length]; exact Nat.le_refl _)⟩
theorem below_freeze {B : Nat} {w W : World} (h : Below B w W) (a : Addr) (n : Nat) (hB : B ≤ a.block) : Below B w (W.freeze a n) := by
  refine h.trans ⟨?_, ?_, ?_, ?_, fun k hk => ?_⟩
  · unfold World.freeze; split <;> rfl
  · unfold World.freeze; split <;> rfl
  · unfold World.freeze; split <;> rfl
  · unfold World.freeze; split <;> simp
  · unfold World.freeze
    split
    · rfl
    · have hne : a.block ≠ k := by omega
      simp [Array.getElem?_modify, hne]
/-- '[]byte("..")' of a constant: the literal's row gets the run-time's mark. -/
theorem SeenRow.mark {P : Program} {w0 W : World} {base : Nat} {t e : TypeId} {xs : List Int} {v : Value} (h : SeenRow W base e xs v) (ht : P.underlying t = some (.slice e)) (he : P.underlying e = some (.int .u8)) (hb : Below base w0 W) :
    ∃ W1 : World, (convert t t v).run P W = .ok v W1 ∧ SeenRow W1 base e xs v ∧ Below base w0 W1 ∧ W1.heap.size = W.heap.size ∧ ∀ k, some k ≠ v.ownBlock → W1.heap[k]? = W.heap[k]? := by
  obtain ⟨g, c, cells, ⟨lo, hi⟩, rfl, h1, h2, h3, hh, h4⟩ := h
  have hsh : W.shape? g = some (e, cells.size) := by unfold World.shape?; rw [hh]
  refine ⟨W.freeze ⟨g, cells.size, none⟩ 1, ?_, ?_, below_freeze hb _ _ h3, by unfold World.freeze; split <;> simp, fun k hk => ?_⟩
  · simp [convert, run_underlying ht, run_underlying he, markStringish, hsh]
  · refine ⟨g, c, cells, (if lo == hi then (cells.size, cells.size + 1) else (min lo cells.size, max hi (cells.size + 1))), rfl, h1, h2, h3, ?_, h4⟩
    unfold World.freeze
    rw [if_neg (by decide)]
    simp [Array.getElem?_modify, hh]
  · have hne : g ≠ k := by
      rintro rfl
      exact hk (by simp [Value.ownBlock])
    unfold World.freeze
    rw [if_neg (by decide)]
    simp [Array.getElem?_modify, hne]
/-- '[]byte(s)': a row of its own, seen. -/
theorem SeenRow.conv (W : World) (base : Nat) (e : TypeId) (s : ByteArray) (hb : base ≤ W.heap.size) (hs : s.size ≤ 9223372036854775807) : SeenRow (Lib.bytesWorld W e s) base e (bytesOf s) (.slice (some ⟨W.heap.size, 0, none⟩) s.size (grownCap W s.size 0 e)) := by
  refine ⟨W.heap.size, grownCap W s.size 0 e, Lib.bytesCells W e s, _, by rw [bytesOf_length], ?_, by rw [bytesOf_length]; exact hs, hb, Lib.bytesWorld_at_new W e s, ?_⟩
  · rw [bytesOf_length]
    exact grownCap_ge _ _ _ _
  · have h1 : (s.data.map fun b => Value.int .u8 b.toNat).toList = encs (Value.int .u8) (bytesOf s) := by
      rw [Array.toList_map, encs, bytesOf, List.map_map]
      rfl
    have h2 : (encs (Value.int .u8) (bytesOf s)).length = s.size := by rw [encs_length, bytesOf_length]
    rw [bytesOf_length]
    unfold Lib.bytesCells
    rw [Array.toList_append, h1, List.take_append_of_le_length (by rw [h2]; exact Nat.le_refl _), List.take_of_length_le (by rw [h2]; exact Nat.le_refl _)]
end Go.Proofs.Ytkkflgdobgbmmaa.Q
end
section
namespace Go.Proofs.Ytkkflgdobgbmmaa.Q
open Go.RowKit Go.Proofs.YtkkflgdobgbmmaaW.PrintWords Go.Proofs.YtkkflgdobgbmmaaW.PrintLast Go.Proofs.YtkkflgdobgbmmaaW.PrintMore
attribute [local go_sem] max2_int min2_int max_two min_two max_three min_three max_four min_four   -- for this text's walks alone
set_option linter.unusedVariables false
set_option linter.unusedSimpArgs false

/-! ### word_size: function 53 -/
def word_size.f (a0 : Int) : Option (Bool) := if a0 ≥ 1 then (some (decide (a0 ≤ 8))) else (some false)
set_option maxHeartbeats 8000000 in
set_option maxRecDepth 100000 in
theorem word_size.calls (a0 : Int) (r : Bool) (w : World) (h : word_size.f a0 = some r) :
    Calls Try.prog 53 #[.int .i64 a0] w fun e w' => e = .returned (.bool r) ∧ Drawn0 w w' := by
  have H : (if a0 ≥ 1 then (some (decide (a0 ≤ 8))) else (some false)) = some r := h
  clear h
  by_cases c2 : a0 ≥ 1
  · rw [if_pos c2] at H
    have c2b0 : decide (1 ≤ a0) = true := decide_eq_true c2
    clear c2
    obtain rfl := Option.some.inj H
    go_enter Try.func53, Try.ntmps53
    go_wp2
    go_ret
    exact ⟨by first | rfl | (simp; done) | (simp [*]; done), by repeat (first | exact Drawn0.refl _ | apply Drawn0.step)⟩
  · rw [if_neg c2] at H
    have c2b0 : decide (1 ≤ a0) = false := decide_eq_false c2
    clear c2
    obtain rfl := Option.some.inj H
    go_enter Try.func53, Try.ntmps53
    go_wp2
    go_ret
    exact ⟨by first | rfl | (simp; done) | (simp [*]; done), by repeat (first | exact Drawn0.refl _ | apply Drawn0.step)⟩

end Go.Proofs.Ytkkflgdobgbmmaa.Q
end
section
namespace Go.Proofs.Ytkkflgdobgbmmaa.Q
open Go.RowKit Go.Proofs.YtkkflgdobgbmmaaW.PrintWords Go.Proofs.YtkkflgdobgbmmaaW.PrintLast Go.Proofs.YtkkflgdobgbmmaaW.PrintMore
attribute [local go_sem] max2_int min2_int max_two min_two max_three min_three max_four min_four   -- for this text's walks alone
set_option linter.unusedVariables false
set_option linter.unusedSimpArgs false

/-! ### word_Put: function 45 -/
def word_Put.l0 : Nat → Int → List Int → Int → Int → Option (List Int)
  | 0, _, _, _, _ => none
  | k + 1, x0, x5, x12, x13 => if x13 < x12 then (if 0 ≤ (IntKind.u64.wrap (wrap64 (8 * x13))) then (if 0 ≤ x13 then (if x13 < (x5.length : Int) then (word_Put.l0 k x0 (x5.set (x13 : Int).toNat ((shr .u64 x0 (IntKind.u64.wrap (wrap64 (8 * x13)))) % 256)) x12 (wrap64 (x13 + 1))) else (none)) else (none)) else (none)) else (some x5)
def word_Put.f (k : Nat) (a0 : Int) (a1 : Int) : Option (List Int) := (word_size.f a1).bind fun t102 => (if t102 = true then (if 0 ≤ a1 then (if (a1 : Int).toNat ≤ 281474976710656 then (word_Put.l0 k a0 (List.replicate (a1 : Int).toNat 0) a1 0) else (none)) else (none)) else (some ([] : List Int)))
set_option maxHeartbeats 8000000 in
set_option maxRecDepth 100000 in
theorem word_Put.calls (k : Nat) (a0 : Int) (a1 : Int) (r : List Int) (w : World) (h : word_Put.f k a0 a1 = some r) :
    Calls Try.prog 45 #[.int .u64 a0, .int .i64 a1] w fun e w' => ∃ v0_ : Value, e = .returned (v0_) ∧ Kd.R (Kd.int .u8) 5 w' w.heap.size (fun _ => True) v0_ r ∧ Below w.heap.size w w' := by
  have HB := Aside0.mk (Below.refl w.heap.size w)
  have H : ((word_size.f a1).bind fun t102 => (if t102 = true then (if 0 ≤ a1 then (if (a1 : Int).toNat ≤ 281474976710656 then (word_Put.l0 k a0 (List.replicate (a1 : Int).toNat 0) a1 0) else (none)) else (none)) else (some ([] : List Int)))) = some r := h
  clear h
  replace H := Option.bind_eq_some_iff.mp H
  obtain ⟨t102, A30, H⟩ := H
  replace H : (if t102 = true then (if 0 ≤ a1 then (if (a1 : Int).toNat ≤ 281474976710656 then (word_Put.l0 k a0 (List.replicate (a1 : Int).toNat 0) a1 0) else (none)) else (none)) else (some ([] : List Int))) = some r := H
  have A3 := Aside0.mk A30
  clear A30
  by_cases c4 : t102 = true
  · subst c4
    have H1 : (if 0 ≤ a1 then (if (a1 : Int).toNat ≤ 281474976710656 then (word_Put.l0 k a0 (List.replicate (a1 : Int).toNat 0) a1 0) else (none)) else (none)) = some r := by rw [if_pos rfl] at H; exact H
    clear H
    have H := H1
    clear H1
    by_cases c5 : 0 ≤ a1
    · rw [if_pos c5] at H
      have c5b0 := eq_true c5
      have c5b1 : decide (0 ≤ a1) = true := decide_eq_true c5
      clear c5
      by_cases c6 : (a1 : Int).toNat ≤ 281474976710656
      · rw [if_pos c6] at H
        have c6b0 := eq_true c6
        have c6b1 : decide ((a1 : Int).toNat ≤ 281474976710656) = true := decide_eq_true c6
        clear c6
        obtain ⟨y103, hy103⟩ : ∃ y_ : List Int, y_ = (List.replicate (a1 : Int).toNat 0) := ⟨_, rfl⟩
        replace H : (word_Put.l0 k a0 y103 a1 0) = some r := by first | (rw [hy103]; with_reducible exact H) | (have H2_ := (Option.bind_some _ _).symm.trans H; rw [hy103]; with_reducible exact H2_) | (have H2_ := (Option.bind_some _ _).symm.trans H; with_reducible exact H2_) | with_reducible exact H | (rw [hy103]; exact H) | exact H
        have Ny103 := Aside0.mk hy103
        clear hy103
        have H' := Aside0.mk H
        clear H
        go_enter Try.func45, Try.ntmps45
        go_wp2_with (first | ((with_reducible refine gate_callee (f := 53) rfl ?_); refine goesL_ (some 8) rfl rfl Try.func53 (by kernel_rfl) rfl #[.int .i64 a1] rfl (by (try simp only [List.map_toArray, List.map_cons, List.map_nil]); first | done | rfl | (simp only [List.length_drop, List.length_take]; rfl)) ?_; (with_reducible refine (word_size.calls a1 true _ A3.out).mono ?_); rintro e w' ⟨rfl, ⟨nd, rfl⟩⟩; refine ⟨_, rfl, ?_⟩) | ((with_reducible refine gate_dst (N := 11) rfl ?_); refine Kd.R_make (Kd.int .u8) _ 5 rfl (N := 11) rfl 23 _ _ rfl a1 rfl rfl Try.underlying23 (.int .u8 0) 1 info5 rfl (by decide) (by omega) 0 (ok := fun _ => True) (okp := fun _ => True) rfl (fun _ hk => hk) trivial (of_decide_eq_true (by first | (with_reducible assumption) | assumption)) (Nat.le_trans (Nat.mul_le_mul_right _ (of_decide_eq_true (by first | (with_reducible assumption) | assumption) : a1.toNat ≤ 281474976710656)) (by omega)) (Below.refl _ _) (Nat.le_refl _) ?_; intro v104 w7 ho8 hb hg_ hnew_; clear hg_ hnew_; (first | rw [← Ny103.out] at ho8 | (simp only [Int.reduceToNat] at ho8; rw [← Ny103.out] at ho8)); have n0_ := Aside0.mk (Kd.R_lower ho8 (below_size (by repeat (first | (with_reducible first | exact HB.out | apply below_alloc | apply pw_below_drewN | apply below_drew1) | exact HB.out)))); have n1_ := Aside0.mk (below_step (by repeat (first | (with_reducible first | exact HB.out | apply below_alloc | apply pw_below_drewN | apply below_drew1) | exact HB.out)) hb); clear HB; have HO105 := n0_; have HB := n1_; clear n0_ n1_; clear hb ho8))
        go_loopg [13] k (fun kq v13 w' => ∃ (x5_1 : List Int) (x13_1 : Int), v13 = .int .i64 x13_1 ∧ Aside0 (word_Put.l0 kq a0 x5_1 a1 x13_1 = some r) ∧ Aside0 (kq ≤ k) ∧ Aside0 (Kd.R (Kd.int .u8) 5 w' w.heap.size (fun _ => True) v104 x5_1) ∧ Aside0 (Below w.heap.size w w'))
        case atStart => exact ⟨(y103), (0), (by first | rfl | (simp; done) | (simp [*]; done)), H', ⟨Nat.le_refl _⟩, ⟨by (with_reducible repeat (first | apply Kd.R_alloc | apply Kd.R_drewN | apply Kd.R_drew)); exact HO105.out⟩, ⟨by repeat (first | (with_reducible first | exact HB.out | apply below_alloc | apply pw_below_drewN | apply below_drew1) | exact HB.out)⟩⟩
        case round =>
          clear H'
          try clear p2
          try clear c4
          try clear c5
          try clear c5b0
          try clear c5b1
          try clear c6
          try clear c6b0
          try clear c6b1
          obtain ⟨x5_1, x13_1, rfl, HA, HK1, HO_5, HB⟩ := hrel
          cases gk with
          | zero => exact absurd HA.out (by simp [word_Put.l0])
          | succ k1 =>
            have H := HA.out
            clear HA
            simp only [word_Put.l0] at H
            by_cases c9 : x13_1 < a1
            · rw [if_pos c9] at H
              have c9b0 : decide (x13_1 < a1) = true := decide_eq_true c9
              clear c9
              obtain ⟨ji10, hji10⟩ : ∃ j_ : Int, (IntKind.u64.wrap (wrap64 (8 * x13_1))) = j_ := ⟨_, rfl⟩
              replace H : (if 0 ≤ (ji10) then (if 0 ≤ x13_1 then (if x13_1 < (x5_1.length : Int) then (word_Put.l0 k1 a0 (x5_1.set (x13_1 : Int).toNat ((shr .u64 a0 (ji10)) % 256)) a1 (wrap64 (x13_1 + 1))) else (none)) else (none)) else (none)) = some r := by first | (rw [hji10] at H; exact H) | (simp only [hji10] at H ⊢; exact H)
              by_cases c11 : 0 ≤ (ji10)
              · rw [if_pos c11] at H
                have c11b0 := eq_true c11
                have c11b1 : decide (0 ≤ (ji10)) = true := decide_eq_true c11
                clear c11
                obtain ⟨ji12, hji12⟩ : ∃ j_ : Int, (shr .u64 a0 (ji10)) = j_ := ⟨_, rfl⟩
                replace H : (if 0 ≤ x13_1 then (if x13_1 < (x5_1.length : Int) then (word_Put.l0 k1 a0 (x5_1.set (x13_1 : Int).toNat ((ji12) % 256)) a1 (wrap64 (x13_1 + 1))) else (none)) else (none)) = some r := by first | (rw [hji12] at H; exact H) | (simp only [hji12] at H ⊢; exact H)
                have hji12_ : (a0 / 2 ^ min (ji10).toNat 64) = ji12 := hji12
                have hji12z : (ji10) ≤ 64 → (a0 / 2 ^ (ji10).toNat) = ji12 := shr_small hji12
                by_cases c13 : 0 ≤ x13_1
                · rw [if_pos c13] at H
                  have c13b0 : decide (0 ≤ x13_1) = true := decide_eq_true c13
                  clear c13
                  by_cases c14 : x13_1 < (x5_1.length : Int)
                  · rw [if_pos c14] at H
                    have c14b0 : decide (x13_1 < (x5_1.length : Int)) = true := decide_eq_true c14
                    clear c14
                    obtain ⟨y106, hy106⟩ : ∃ y_ : List Int, y_ = (x5_1.set (x13_1 : Int).toNat ((ji12) % 256)) := ⟨_, rfl⟩
                    replace H : (word_Put.l0 k1 a0 y106 a1 (wrap64 (x13_1 + 1))) = some r := by first | (rw [hy106]; with_reducible exact H) | (have H2_ := (Option.bind_some _ _).symm.trans H; rw [hy106]; with_reducible exact H2_) | (have H2_ := (Option.bind_some _ _).symm.trans H; with_reducible exact H2_) | with_reducible exact H | (rw [hy106]; exact H) | exact H
                    have Ny106 := Aside0.mk hy106
                    clear hy106
                    have H' := Aside0.mk H
                    clear H
                    have p15 : 0 ≤ (x13_1 : Int) := of_decide_eq_true (by first | (with_reducible assumption) | assumption)
                    have q15 : (x13_1 : Int) < ((x5_1.length : Int) : Int) := of_decide_eq_true (by first | (with_reducible assumption) | assumption)
                    obtain ⟨go15, co15, eo15, gb15, gl15, cl15, HG15⟩ := Kd.R_form HO_5.out (by omega)
                    (first | cases eo15 | (injection eo15 with ea_ en_ ec_; (first | subst ea_ | (injection ea_ with ea_; subst ea_)); subst ec_; clear en_))
                    have GB15 := Aside0.mk gb15
                    have GG15 := Aside0.mk HG15
                    clear gb15 gl15 HG15
                    obtain ⟨hx15_0, hf15_0⟩ := Kd.R_celln 0 HO_5.out (x13_1 : Int) p15 q15
                    replace p15 := eq_true p15
                    replace q15 := eq_true q15
                    have HP16 := Kd.R_putg HO_5.out (x13_1 : Int) ((ji12) % 256)
                    go_wp2_with (first | ((with_reducible refine gate_store (t := 5) (p := 24) rfl ?_); refine store_event (t := 5) (p := 24) (v := ?vo_w17) (w1 := (wr.setCell ⟨go15, (x13_1 : Int).toNat, none⟩ (.int .u8 ((ji12) % 256)))) ?hg ?ho ?hn ?hr ?_; (case ho => rfl); (case hg => rfl); (case hn => rfl); (case hr => first | (go_simp; done) | (go_simp; rfl)); intro w17 hw; have hg : wr.grownBy w17 (some go15) := (by rw [hw]; exact HP16.2); have hp_ : Kd.R (Kd.int .u8) 5 w17 w.heap.size (fun _ => True) (.slice (some ⟨go15, 0, none⟩) x5_1.length co15) y106 := (by rw [hw, Ny106.out]; exact HP16.1); clear HP16; have n0_ := Aside0.mk (hp_); have n1_ := Aside0.mk ((by rw [hw]; exact below_set (HB.out) GB15.out : Below w.heap.size w w17)); clear HO_5; clear HB; have HO_5 := n0_; have HB := n1_; clear n0_ n1_; clear hg hw hp_))
                    go_roundg k1
                    case measure => have := HK1.out; omega
                    case rel => exact ⟨(y106), (wrap64 (x13_1 + 1)), (by first | rfl | (simp; done) | (simp [*]; done)), H', ⟨by have := HK1.out; omega⟩, ⟨by (with_reducible repeat (first | apply Kd.R_alloc | apply Kd.R_drewN | apply Kd.R_drew)); exact HO_5.out⟩, ⟨by repeat (first | (with_reducible first | exact HB.out | apply below_alloc | apply pw_below_drewN | apply below_drew1) | exact HB.out)⟩⟩
                  · rw [if_neg c14] at H
                    exact absurd H (by simp)
                · rw [if_neg c13] at H
                  exact absurd H (by simp)
              · rw [if_neg c11] at H
                exact absurd H (by simp)
            · rw [if_neg c9] at H
              have c9b0 : decide (x13_1 < a1) = false := decide_eq_false c9
              clear c9
              obtain rfl := Option.some.inj H
              go_wp2
              go_ret
              exact ⟨_, by first | rfl | (simp [errW_none, errW_some] <;> rfl) | (simp [*, errW_none, errW_some] <;> rfl), by (with_reducible repeat (first | apply Kd.R_alloc | apply Kd.R_drewN | apply Kd.R_drew)); exact HO_5.out, by repeat (first | (with_reducible first | exact HB.out | apply below_alloc | apply pw_below_drewN | apply below_drew1) | exact HB.out)⟩
      · rw [if_neg c6] at H
        exact absurd H (by simp)
    · rw [if_neg c5] at H
      exact absurd H (by simp)
  · replace c4 := Bool.eq_false_iff.mpr c4
    subst c4
    have H1 : (some ([] : List Int)) = some r := by rw [if_neg (show ¬ (false = true) by decide)] at H; exact H
    clear H
    have H := H1
    clear H1
    obtain rfl := Option.some.inj H
    go_enter Try.func45, Try.ntmps45
    go_wp2_with (first | ((with_reducible refine gate_callee (f := 53) rfl ?_); refine goesL_ (some 8) rfl rfl Try.func53 (by kernel_rfl) rfl #[.int .i64 a1] rfl (by (try simp only [List.map_toArray, List.map_cons, List.map_nil]); first | done | rfl | (simp only [List.length_drop, List.length_take]; rfl)) ?_; (with_reducible refine (word_size.calls a1 false _ A3.out).mono ?_); rintro e w' ⟨rfl, ⟨nd, rfl⟩⟩; refine ⟨_, rfl, ?_⟩))
    go_ret
    exact ⟨_, by first | rfl | (simp [errW_none, errW_some] <;> rfl) | (simp [*, errW_none, errW_some] <;> rfl), by first | exact Kd.R_nil _ _ _ _ _ | exact Kd.N_nil _ _ _ _ _ | exact Kd.V_nil _ _ _ _ _ | exact Kd.Q_nil _ _ _ _ _ | exact Kd.S_nil _ _ _ _ _, by repeat (first | (with_reducible first | exact HB.out | apply below_alloc | apply pw_below_drewN | apply below_drew1) | exact HB.out)⟩

end Go.Proofs.Ytkkflgdobgbmmaa.Q
end
section
namespace Go.Proofs.Ytkkflgdobgbmmaa.Q
open Go.RowKit Go.Proofs.YtkkflgdobgbmmaaW.PrintWords Go.Proofs.YtkkflgdobgbmmaaW.PrintLast Go.Proofs.YtkkflgdobgbmmaaW.PrintMore
attribute [local go_sem] max2_int min2_int max_two min_two max_three min_three max_four min_four   -- for this text's walks alone
set_option linter.unusedVariables false
set_option linter.unusedSimpArgs false

/-! ### word_inside: function 51 -/
def word_inside.f (l0 : List Int) (a1 : Int) (a2 : Int) : Option (Int) := (word_size.f a2).bind fun t107 => (if t107 = true then (if a1 < 0 then (some 12) else (if a1 > (l0.length : Int) then (some 12) else (if (wrap64 ((l0.length : Int) - a1)) < a2 then (some 12) else (some 0)))) else (some 1))
set_option maxHeartbeats 8000000 in
set_option maxRecDepth 100000 in
theorem word_inside.calls (A0 : Option Addr) (c0 : Nat) (l0 : List Int) (a1 : Int) (a2 : Int) (r : Int) (w : World) (hr0 : Kd.C (Kd.int .u8) w A0 l0.length l0) (hc0 : l0.length ≤ c0) (h : word_inside.f l0 a1 a2 = some r) :
    Calls Try.prog 51 #[.slice A0 l0.length c0, .int .i64 a1, .int .i64 a2] w fun e w' => e = .returned (.int .i64 r) ∧ Drawn0 w w' := by
  have HR0 := Aside0.mk hr0
  have HC0 := Aside0.mk hc0
  clear hr0 hc0
  have H : ((word_size.f a2).bind fun t107 => (if t107 = true then (if a1 < 0 then (some 12) else (if a1 > (l0.length : Int) then (some 12) else (if (wrap64 ((l0.length : Int) - a1)) < a2 then (some 12) else (some 0)))) else (some 1))) = some r := h
  clear h
  replace H := Option.bind_eq_some_iff.mp H
  obtain ⟨t107, A40, H⟩ := H
  replace H : (if t107 = true then (if a1 < 0 then (some 12) else (if a1 > (l0.length : Int) then (some 12) else (if (wrap64 ((l0.length : Int) - a1)) < a2 then (some 12) else (some 0)))) else (some 1)) = some r := H
  have A4 := Aside0.mk A40
  clear A40
  by_cases c5 : t107 = true
  · subst c5
    have H1 : (if a1 < 0 then (some 12) else (if a1 > (l0.length : Int) then (some 12) else (if (wrap64 ((l0.length : Int) - a1)) < a2 then (some 12) else (some 0)))) = some r := by rw [if_pos rfl] at H; exact H
    clear H
    have H := H1
    clear H1
    by_cases c6 : a1 < 0
    · rw [if_pos c6] at H
      have c6b0 : decide (a1 < 0) = true := decide_eq_true c6
      clear c6
      obtain rfl := Option.some.inj H
      go_enter Try.func51, Try.ntmps51
      go_wp2_with (first | ((with_reducible refine gate_callee (f := 53) rfl ?_); refine goesL_ (some 9) rfl rfl Try.func53 (by kernel_rfl) rfl #[.int .i64 a2] rfl (by (try simp only [List.map_toArray, List.map_cons, List.map_nil]); first | done | rfl | (simp only [List.length_drop, List.length_take]; rfl)) ?_; (with_reducible refine (word_size.calls a2 true _ A4.out).mono ?_); rintro e w' ⟨rfl, ⟨nd, rfl⟩⟩; refine ⟨_, rfl, ?_⟩))
      go_ret
      exact ⟨by first | rfl | (simp; done) | (simp [*]; done), by repeat (first | exact Drawn0.refl _ | apply Drawn0.step)⟩
    · rw [if_neg c6] at H
      have c6b0 : decide (a1 < 0) = false := decide_eq_false c6
      clear c6
      by_cases c7 : a1 > (l0.length : Int)
      · rw [if_pos c7] at H
        have c7b0 : decide ((l0.length : Int) < a1) = true := decide_eq_true c7
        clear c7
        obtain rfl := Option.some.inj H
        go_enter Try.func51, Try.ntmps51
        go_wp2_with (first | ((with_reducible refine gate_callee (f := 53) rfl ?_); refine goesL_ (some 9) rfl rfl Try.func53 (by kernel_rfl) rfl #[.int .i64 a2] rfl (by (try simp only [List.map_toArray, List.map_cons, List.map_nil]); first | done | rfl | (simp only [List.length_drop, List.length_take]; rfl)) ?_; (with_reducible refine (word_size.calls a2 true _ A4.out).mono ?_); rintro e w' ⟨rfl, ⟨nd, rfl⟩⟩; refine ⟨_, rfl, ?_⟩))
        go_ret
        exact ⟨by first | rfl | (simp; done) | (simp [*]; done), by repeat (first | exact Drawn0.refl _ | apply Drawn0.step)⟩
      · rw [if_neg c7] at H
        have c7b0 : decide ((l0.length : Int) < a1) = false := decide_eq_false c7
        clear c7
        by_cases c8 : (wrap64 ((l0.length : Int) - a1)) < a2
        · rw [if_pos c8] at H
          have c8b0 : decide ((wrap64 ((l0.length : Int) - a1)) < a2) = true := decide_eq_true c8
          clear c8
          obtain rfl := Option.some.inj H
          go_enter Try.func51, Try.ntmps51
          go_wp2_with (first | ((with_reducible refine gate_callee (f := 53) rfl ?_); refine goesL_ (some 9) rfl rfl Try.func53 (by kernel_rfl) rfl #[.int .i64 a2] rfl (by (try simp only [List.map_toArray, List.map_cons, List.map_nil]); first | done | rfl | (simp only [List.length_drop, List.length_take]; rfl)) ?_; (with_reducible refine (word_size.calls a2 true _ A4.out).mono ?_); rintro e w' ⟨rfl, ⟨nd, rfl⟩⟩; refine ⟨_, rfl, ?_⟩))
          go_ret
          exact ⟨by first | rfl | (simp; done) | (simp [*]; done), by repeat (first | exact Drawn0.refl _ | apply Drawn0.step)⟩
        · rw [if_neg c8] at H
          have c8b0 : decide ((wrap64 ((l0.length : Int) - a1)) < a2) = false := decide_eq_false c8
          clear c8
          obtain rfl := Option.some.inj H
          go_enter Try.func51, Try.ntmps51
          go_wp2_with (first | ((with_reducible refine gate_callee (f := 53) rfl ?_); refine goesL_ (some 9) rfl rfl Try.func53 (by kernel_rfl) rfl #[.int .i64 a2] rfl (by (try simp only [List.map_toArray, List.map_cons, List.map_nil]); first | done | rfl | (simp only [List.length_drop, List.length_take]; rfl)) ?_; (with_reducible refine (word_size.calls a2 true _ A4.out).mono ?_); rintro e w' ⟨rfl, ⟨nd, rfl⟩⟩; refine ⟨_, rfl, ?_⟩))
          go_ret
          exact ⟨by first | rfl | (simp; done) | (simp [*]; done), by repeat (first | exact Drawn0.refl _ | apply Drawn0.step)⟩
  · replace c5 := Bool.eq_false_iff.mpr c5
    subst c5
    have H1 : (some 1) = some r := by rw [if_neg (show ¬ (false = true) by decide)] at H; exact H
    clear H
    have H := H1
    clear H1
    obtain rfl := Option.some.inj H
    go_enter Try.func51, Try.ntmps51
    go_wp2_with (first | ((with_reducible refine gate_callee (f := 53) rfl ?_); refine goesL_ (some 9) rfl rfl Try.func53 (by kernel_rfl) rfl #[.int .i64 a2] rfl (by (try simp only [List.map_toArray, List.map_cons, List.map_nil]); first | done | rfl | (simp only [List.length_drop, List.length_take]; rfl)) ?_; (with_reducible refine (word_size.calls a2 false _ A4.out).mono ?_); rintro e w' ⟨rfl, ⟨nd, rfl⟩⟩; refine ⟨_, rfl, ?_⟩))
    go_ret
    exact ⟨by first | rfl | (simp; done) | (simp [*]; done), by repeat (first | exact Drawn0.refl _ | apply Drawn0.step)⟩

end Go.Proofs.Ytkkflgdobgbmmaa.Q
end
section
namespace Go.Proofs.Ytkkflgdobgbmmaa.Q
open Go.RowKit Go.Proofs.YtkkflgdobgbmmaaW.PrintWords Go.Proofs.YtkkflgdobgbmmaaW.PrintLast Go.Proofs.YtkkflgdobgbmmaaW.PrintMore
attribute [local go_sem] max2_int min2_int max_two min_two max_three min_three max_four min_four   -- for this text's walks alone
set_option linter.unusedVariables false
set_option linter.unusedSimpArgs false

-- EXT word_Get: function 40
/-! ### word_Get: function 40 -/
def word_Get.f (l0 : List Int) (a1 : Int) (a2 : Int) : Option (Int × Int) := (word_inside.f l0 a1 a2).bind fun t => if t = 0 then (if 0 ≤ a1 ∧ 1 ≤ a2 ∧ a2 ≤ 8 ∧ a1 + a2 ≤ l0.length ∧ l0.length ≤ 140737488351232 ∧ u8s ((l0.take (a1 + a2).toNat).drop a1.toNat) then some (leval ((l0.take (a1 + a2).toNat).drop a1.toNat), 0) else none) else some (0, t)
set_option maxHeartbeats 8000000 in
set_option maxRecDepth 100000 in
theorem word_Get.calls (A0 : Option Addr) (c0 : Nat) (l0 : List Int) (a1 : Int) (a2 : Int) (r1 : Int) (r2 : Int) (w : World) (hr0 : Kd.C (Kd.int .u8) w A0 l0.length l0) (hc0 : l0.length ≤ c0) (h : word_Get.f l0 a1 a2 = some (r1, r2)) :
    Calls Try.prog 40 #[.slice A0 l0.length c0, .int .i64 a1, .int .i64 a2] w fun e w' => e = .returned (.tuple #[.int .u64 r1, .int .i64 r2]) ∧ Drawn0 w w' := by
  have HR0 := Aside0.mk hr0
  have HC0 := Aside0.mk hc0
  clear hr0 hc0
  unfold word_Get.f at h
  obtain ⟨t, hin, h⟩ := Option.bind_eq_some_iff.mp h
  have HIN := Aside0.mk hin
  clear hin
  by_cases c1 : t = 0
  · rw [if_pos c1] at h
    subst c1
    obtain ⟨seg, hseg⟩ : ∃ s : List Int, s = (l0.take (a1 + a2).toNat).drop a1.toNat := ⟨_, rfl⟩
    by_cases c2 : 0 ≤ a1 ∧ 1 ≤ a2 ∧ a2 ≤ 8 ∧ a1 + a2 ≤ l0.length ∧ l0.length ≤ 140737488351232 ∧ u8s ((l0.take (a1 + a2).toNat).drop a1.toNat)
    · rw [if_pos c2, ← hseg] at h
      have h2 := Option.some.inj h
      obtain ⟨hr1, rfl⟩ := (Prod.mk.injEq _ _ _ _).mp h2
      have hw : wrap64 (a1 + a2) = a1 + a2 := by unfold wrap64; omega
      obtain ⟨i0, hi0, _, hsz0, _⟩ := info_parts info5
      obtain ⟨A9, hcut, hA9, hC9⟩ := print_mid_of (P := Try.prog) (Value.int .u8) 0 23 5 .i64 .i64 Try.underlying23 hi0 hsz0 A0 c0 l0 a1 (a1 + a2) c2.1 (by omega) (by omega) HC0.out
      have hread := Kd.C_of_reads (h1 := fun _ => rfl) (hA9 _ (Kd.reads_of_C HR0.out))
      have hlen : seg.length ≤ 8 := by rw [hseg, List.length_drop, List.length_take]; omega
      have hus := c2.2.2.2.2.2
      rw [← hseg] at hcut hread hus
      rw [← hw] at hcut
      have HRS := Aside0.mk hread
      have HUS := Aside0.mk hus
      have HLEN := Aside0.mk hlen
      have HR1 := Aside0.mk hr1
      have b1 := eq_true c2.1
      have b2 : decide (0 ≤ a1) = true := decide_eq_true c2.1
      clear h h2 hr1 c2 hw hi0 hsz0 hA9 hC9 hread hlen hseg hus
      go_enter Try.func40, Try.ntmps40
      go_wp2_with (first | ((with_reducible refine gate_callee (f := 51) rfl ?_); refine goesL_ (some 15) rfl rfl Try.func51 (by kernel_rfl) rfl #[.slice A0 l0.length c0, .int .i64 a1, .int .i64 a2] rfl (by (try simp only [List.map_toArray, List.map_cons, List.map_nil]); first | done | rfl | (simp only [List.length_drop, List.length_take]; rfl)) ?_; (with_reducible refine (word_inside.calls _ _ l0 a1 a2 0 _ HR0.out HC0.out HIN.out).mono ?_); rintro e w' ⟨rfl, ⟨nd, rfl⟩⟩; refine ⟨_, rfl, ?_⟩))
      go_loopg [9, 26] seg.length (fun gk v9 v26 w' => ∃ (x i : Int), v9 = .int .u64 x ∧ v26 = .int .i64 i ∧ Aside0 (0 ≤ i ∧ (gk : Int) + i = seg.length) ∧ Aside0 (x = leval (seg.take i.toNat)) ∧ Drawn0 w w')
      case atStart => exact ⟨0, 0, rfl, rfl, ⟨by omega⟩, ⟨by simp [leval]⟩, by repeat (first | exact Drawn0.refl _ | apply Drawn0.step)⟩
      case round =>
        obtain ⟨x, i, rfl, rfl, HX, HA, ⟨m1, rfl⟩⟩ := hrel
        by_cases c2 : i < (seg.length : Int)
        · have p1 := HX.out.1
          have hx := Aside0.mk (Kd.at_int HRS.out i p1 c2)
          obtain ⟨ad, e1, hcell⟩ := hx.out
          have hst := leval_step seg HUS.out HLEN.out i p1 c2
          rw [← HA.out] at hst
          have c2b : decide (i < (seg.length : Int)) = true := decide_eq_true c2
          have HW := Aside0.mk (show wrap64 (i + 1) = i + 1 from by have := HLEN.out; unfold wrap64; omega)
          obtain ⟨ji13, hji13⟩ : ∃ j_ : Int, (IntKind.u64.wrap (wrap64 (8 * i))) = j_ := ⟨_, rfl⟩
          rw [hji13] at hst
          have c14 : 0 ≤ ji13 := by
            rw [← hji13]
            simp [IntKind.wrap, IntKind.bits, IntKind.signed]
            omega
          obtain ⟨ji15, hji15⟩ : ∃ j_ : Int, (shl .u64 (IntKind.u64.wrap (rd seg i)) ji13) = j_ := ⟨_, rfl⟩
          rw [hji15] at hst
          have HST := Aside0.mk hst
          have c14b0 := eq_true c14
          have c14b1 : decide (0 ≤ (ji13)) = true := decide_eq_true c14
          have hji15_ : (IntKind.u64.wrap ((IntKind.u64.wrap (rd seg i)) * 2 ^ min (ji13).toNat 64)) = ji15 := hji15
          have hji15z : (ji13) ≤ 64 → (IntKind.u64.wrap ((IntKind.u64.wrap (rd seg i)) * 2 ^ (ji13).toNat)) = ji15 := shl_small hji15
          cases e1
          have c2' := Aside0.mk c2
          have p1' : decide (0 ≤ i) = true := decide_eq_true p1
          have p2 := eq_true p1
          have q2 := eq_true c2
          clear hx hst HA c2 p1 c14
          go_wp2
          go_roundg (gk - 1)
          case measure => have := HX.out; have := c2'.out; omega
          case rel => exact ⟨Go.bits .or .u64 x ji15, i + 1, (by first | rfl | (simp; done) | (simp only [← hji15] <;> (first | rfl | simp)) | (simp [*]; done)), by rw [HW.out], ⟨by have := HX.out; have := c2'.out; omega⟩, HST, by repeat (first | exact Drawn0.refl _ | apply Drawn0.step)⟩
        · have hend : x = r1 := by rw [HA.out, ← HR1.out, List.take_of_length_le (by have := HX.out; omega)]
          subst hend
          have c2b : decide (i < (seg.length : Int)) = false := decide_eq_false c2
          clear c2 HA
          go_wp2
          go_ret2
          exact ⟨rfl, by repeat (first | exact Drawn0.refl _ | apply Drawn0.step)⟩
    · rw [if_neg c2] at h
      exact absurd h (by simp)
  · rw [if_neg c1] at h
    have h2 := Option.some.inj h
    obtain ⟨rfl, rfl⟩ := (Prod.mk.injEq _ _ _ _).mp h2
    have c1b1 : (t != 0) = true := bne_iff_ne.mpr c1
    have c1b0 : (t == 0) = false := beq_eq_false_iff_ne.mpr c1
    clear h h2 c1
    go_enter Try.func40, Try.ntmps40
    go_wp2_with (first | ((with_reducible refine gate_callee (f := 51) rfl ?_); refine goesL_ (some 15) rfl rfl Try.func51 (by kernel_rfl) rfl #[.slice A0 l0.length c0, .int .i64 a1, .int .i64 a2] rfl (by (try simp only [List.map_toArray, List.map_cons, List.map_nil]); first | done | rfl | (simp only [List.length_drop, List.length_take]; rfl)) ?_; (with_reducible refine (word_inside.calls _ _ l0 a1 a2 t _ HR0.out HC0.out HIN.out).mono ?_); rintro e w' ⟨rfl, ⟨nd, rfl⟩⟩; refine ⟨_, rfl, ?_⟩))
    go_ret2
    exact ⟨rfl, by repeat (first | exact Drawn0.refl _ | apply Drawn0.step)⟩

end Go.Proofs.Ytkkflgdobgbmmaa.Q
end
section
namespace Go.Proofs.Ytkkflgdobgbmmaa.Q
open Go.RowKit Go.Proofs.YtkkflgdobgbmmaaW.PrintWords Go.Proofs.YtkkflgdobgbmmaaW.PrintLast Go.Proofs.YtkkflgdobgbmmaaW.PrintMore
attribute [local go_sem] max2_int min2_int max_two min_two max_three min_three max_four min_four   -- for this text's walks alone
set_option linter.unusedVariables false
set_option linter.unusedSimpArgs false

-- EXT word_Pad: function 43
/-! ### word_Pad: function 43 -/
def word_Pad.f (l0 : List Int) (a1 : Int) : Option (List Int) := if a1 < 1 then some [] else if a1.toNat ≤ 281474976710656 then some (l0.take a1.toNat ++ List.replicate (a1.toNat - l0.length) 0) else none
set_option maxHeartbeats 8000000 in
set_option maxRecDepth 100000 in
theorem word_Pad.calls (A0 : Option Addr) (c0 : Nat) (l0 : List Int) (a1 : Int) (r : List Int) (w : World) (hr0 : Kd.C (Kd.int .u8) w A0 l0.length l0) (hc0 : l0.length ≤ c0) (h : word_Pad.f l0 a1 = some r) :
    Calls Try.prog 43 #[.slice A0 l0.length c0, .int .i64 a1] w fun e w' => ∃ v0_ : Value, e = .returned (v0_) ∧ Kd.R (Kd.int .u8) 5 w' w.heap.size (fun _ => True) v0_ r ∧ Below w.heap.size w w' := by
  have HB := Aside0.mk (Below.refl w.heap.size w)
  have HR0 := Aside0.mk hr0
  clear hr0 hc0
  unfold word_Pad.f at h
  by_cases c1 : a1 < 1
  · rw [if_pos c1] at h
    obtain rfl := Option.some.inj h
    have c1b : decide (a1 < 1) = true := decide_eq_true c1
    clear c1 h
    go_enter Try.func43, Try.ntmps43
    go_wp2
    go_ret
    exact ⟨_, rfl, Kd.R_nil _ _ _ _ _, HB.out⟩
  · rw [if_neg c1] at h
    by_cases c2 : a1.toNat ≤ 281474976710656
    · rw [if_pos c2] at h
      have hr := Option.some.inj h
      have hz : r = (List.replicate a1.toNat (0 : Int)).take 0 ++ (l0.take a1.toNat ++ (List.replicate a1.toNat (0 : Int)).drop (0 + min l0.length a1.toNat)) := by
        rw [← hr, List.take_zero, List.nil_append, List.drop_replicate]
        congr 2
        omega
      have HZ := Aside0.mk hz
      have H0 := Aside0.mk (show 0 ≤ a1 by omega)
      have H1 := Aside0.mk (show 0 < a1.toNat by omega)
      have H2 := Aside0.mk c2
      have c1b : decide (a1 < 1) = false := decide_eq_false c1
      have hsz : (Try.prog.info? 5).map (·.size) = some 1 := by kernel_rfl
      have HS := Aside0.mk hsz
      clear c1 c2 h hr hz hsz
      go_enter Try.func43, Try.ntmps43
      go_wp2_with (first | ((with_reducible refine gate_dst (N := 9) rfl ?_); refine Kd.R_make (Kd.int .u8) _ 5 rfl (N := 9) rfl 23 _ _ rfl a1 rfl rfl Try.underlying23 (.int .u8 0) 1 info5 rfl (by decide) (by omega) 0 (ok := fun _ => True) (okp := fun _ => True) rfl (fun _ hk => hk) trivial H0.out (by have := H2.out; omega) (Below.refl _ _) (Nat.le_refl _) ?_; intro v1 w1 ho hb hg_ hn_; clear hg_ hn_; obtain ⟨go, co, eo, gb, gl, cl⟩ := Kd.R_form ho (by rw [List.length_replicate]; exact H1.out); cases eo; have HO := Aside0.mk ho; have HC1 := Aside0.mk (Kd.C_below HR0.out hb); have HB1 := Aside0.mk hb; clear ho hb gb gl cl) | ((with_reducible refine gate_builtin (b := .copy) (xs := #[.tmp 10, .tmp 11]) rfl ?_); refine ext_copy (w0 := w) w.heap.size rfl (.tmp 10) (.tmp 11) 23 23 5 rfl Try.underlying23 HS.out .u8 (fun _ => True) go co (List.replicate a1.toNat 0) l0 0 a1.toNat co (some ⟨go, 0, none⟩) A0 l0.length c0 rfl rfl HO.out HC1.out (by simp) (fun _ => rfl) HB1.out ?_; intro w2 ho2 hb2 hg2; clear hg2; rw [← HZ.out] at ho2; have HO2 := Aside0.mk ho2; have HB2 := Aside0.mk hb2; clear ho2 hb2))
      go_ret
      have ho3 := HO2.out
      rw [List.length_replicate] at ho3
      exact ⟨_, rfl, ho3, HB2.out⟩
    · rw [if_neg c2] at h
      exact absurd h (by simp)

end Go.Proofs.Ytkkflgdobgbmmaa.Q
end
section
namespace Go.Proofs.Ytkkflgdobgbmmaa.Q
open Go.RowKit Go.Proofs.YtkkflgdobgbmmaaW.PrintWords Go.Proofs.YtkkflgdobgbmmaaW.PrintLast Go.Proofs.YtkkflgdobgbmmaaW.PrintMore
attribute [local go_sem] max2_int min2_int max_two min_two max_three min_three max_four min_four   -- for this text's walks alone
set_option linter.unusedVariables false
set_option linter.unusedSimpArgs false

/-! ### slices_Equal_byte_byte: function 41 -/
def slices_Equal_byte_byte.l0 : Nat → List Int → List Int → Int → Int → Option (Bool)
  | 0, _, _, _, _ => none
  | k + 1, x0, x1, x12, x13 => if x13 < x12 then (if 0 ≤ x13 then (if x13 < (x0.length : Int) then (if x13 < (x1.length : Int) then (if (rd x0 x13) = (rd x1 x13) then (slices_Equal_byte_byte.l0 k x0 x1 x12 (wrap64 (x13 + 1))) else (some false)) else (none)) else (none)) else (none)) else (some true)
def slices_Equal_byte_byte.f (k : Nat) (l0 : List Int) (l1 : List Int) : Option (Bool) := if (l0.length : Int) = (l1.length : Int) then (slices_Equal_byte_byte.l0 k l0 l1 (l0.length : Int) 0) else (some false)
set_option maxHeartbeats 8000000 in
set_option maxRecDepth 100000 in
theorem slices_Equal_byte_byte.calls (k : Nat) (A0 : Option Addr) (c0 : Nat) (l0 : List Int) (A1 : Option Addr) (c1 : Nat) (l1 : List Int) (r : Bool) (w : World) (hr0 : Kd.C (Kd.int .u8) w A0 l0.length l0) (hc0 : l0.length ≤ c0) (hr1 : Kd.C (Kd.int .u8) w A1 l1.length l1) (hc1 : l1.length ≤ c1) (h : slices_Equal_byte_byte.f k l0 l1 = some r) :
    Calls Try.prog 41 #[.slice A0 l0.length c0, .slice A1 l1.length c1] w fun e w' => e = .returned (.bool r) ∧ Drawn0 w w' := by
  have HR0 := Aside0.mk hr0
  have HC0 := Aside0.mk hc0
  clear hr0 hc0
  have HR1 := Aside0.mk hr1
  have HC1 := Aside0.mk hc1
  clear hr1 hc1
  have H : (if (l0.length : Int) = (l1.length : Int) then (slices_Equal_byte_byte.l0 k l0 l1 (l0.length : Int) 0) else (some false)) = some r := h
  clear h
  by_cases c3 : (l0.length : Int) = (l1.length : Int)
  · rw [if_pos c3] at H
    have c3b0 : ((l0.length : Int) == (l1.length : Int)) = true := beq_iff_eq.mpr c3
    have c3b1 : ((l0.length : Int) != (l1.length : Int)) = false := bne_eq_false_iff_eq.mpr c3
    have c3b2 : (l0.length == l1.length) = true := by first | simpa using c3 | (simp at c3 ⊢; omega)
    clear c3
    have H' := Aside0.mk H
    clear H
    go_enter Try.func41, Try.ntmps41
    go_wp2
    repeat (go_quiet (fail); try go_wp2)
    go_loopg [13] k (fun kq v13 w' => ∃ (x13_1 : Int), v13 = .int .i64 x13_1 ∧ Aside0 (slices_Equal_byte_byte.l0 kq l0 l1 (l0.length : Int) x13_1 = some r) ∧ Aside0 (kq ≤ k) ∧ Drawn0 w w')
    case atStart => exact ⟨(0), (by first | rfl | (simp; done) | (simp [*]; done)), H', ⟨Nat.le_refl _⟩, by repeat (first | exact Drawn0.refl _ | apply Drawn0.step)⟩
    case round =>
      clear H'
      try clear c1
      try clear p2
      try clear c3
      try clear c3b0
      try clear c3b1
      try clear c3b2
      obtain ⟨x13_1, rfl, HA, HK1, ⟨m1, rfl⟩⟩ := hrel
      cases gk with
      | zero => exact absurd HA.out (by simp [slices_Equal_byte_byte.l0])
      | succ k1 =>
        have H := HA.out
        clear HA
        simp only [slices_Equal_byte_byte.l0] at H
        by_cases c4 : x13_1 < (l0.length : Int)
        · rw [if_pos c4] at H
          have c4b0 : decide (x13_1 < (l0.length : Int)) = true := decide_eq_true c4
          clear c4
          by_cases c5 : 0 ≤ x13_1
          · rw [if_pos c5] at H
            have c5b0 : decide (0 ≤ x13_1) = true := decide_eq_true c5
            clear c5
            by_cases c6 : x13_1 < (l0.length : Int)
            · rw [if_pos c6] at H
              have c6b0 : decide (x13_1 < (l0.length : Int)) = true := decide_eq_true c6
              clear c6
              by_cases c7 : x13_1 < (l1.length : Int)
              · rw [if_pos c7] at H
                have c7b0 : decide (x13_1 < (l1.length : Int)) = true := decide_eq_true c7
                clear c7
                by_cases c8 : (rd l0 x13_1) = (rd l1 x13_1)
                · rw [if_pos c8] at H
                  have c8b0 : ((rd l0 x13_1) == (rd l1 x13_1)) = true := beq_iff_eq.mpr c8
                  have c8b1 : ((rd l0 x13_1) != (rd l1 x13_1)) = false := bne_eq_false_iff_eq.mpr c8
                  clear c8
                  have H' := Aside0.mk H
                  clear H
                  have p108 : 0 ≤ (x13_1 : Int) := of_decide_eq_true (by first | (with_reducible assumption) | assumption)
                  have q108 : x13_1 < (l0.length : Int) := of_decide_eq_true (by first | (with_reducible assumption) | assumption)
                  obtain ⟨ad108, e108, hx108_0⟩ := Kd.at_int HR0.out x13_1 p108 q108
                  cases e108
                  replace p108 := eq_true p108
                  replace q108 := eq_true q108
                  have p109 : 0 ≤ (x13_1 : Int) := of_decide_eq_true (by first | (with_reducible assumption) | assumption)
                  have q109 : x13_1 < (l1.length : Int) := of_decide_eq_true (by first | (with_reducible assumption) | assumption)
                  obtain ⟨ad109, e109, hx109_0⟩ := Kd.at_int HR1.out x13_1 p109 q109
                  cases e109
                  replace p109 := eq_true p109
                  replace q109 := eq_true q109
                  go_wp2
                  repeat (go_quiet (fail); try go_wp2)
                  go_roundg k1
                  case measure => have := HK1.out; omega
                  case rel => exact ⟨(wrap64 (x13_1 + 1)), (by first | rfl | (simp; done) | (simp [*]; done)), H', ⟨by have := HK1.out; omega⟩, by repeat (first | exact Drawn0.refl _ | apply Drawn0.step)⟩
                · rw [if_neg c8] at H
                  have c8b0 : ((rd l0 x13_1) == (rd l1 x13_1)) = false := beq_eq_false_iff_ne.mpr c8
                  have c8b1 : ((rd l0 x13_1) != (rd l1 x13_1)) = true := bne_iff_ne.mpr c8
                  obtain rfl := Option.some.inj H
                  have p108 : 0 ≤ (x13_1 : Int) := of_decide_eq_true (by first | (with_reducible assumption) | assumption)
                  have q108 : x13_1 < (l0.length : Int) := of_decide_eq_true (by first | (with_reducible assumption) | assumption)
                  obtain ⟨ad108, e108, hx108_0⟩ := Kd.at_int HR0.out x13_1 p108 q108
                  cases e108
                  replace p108 := eq_true p108
                  replace q108 := eq_true q108
                  have p109 : 0 ≤ (x13_1 : Int) := of_decide_eq_true (by first | (with_reducible assumption) | assumption)
                  have q109 : x13_1 < (l1.length : Int) := of_decide_eq_true (by first | (with_reducible assumption) | assumption)
                  obtain ⟨ad109, e109, hx109_0⟩ := Kd.at_int HR1.out x13_1 p109 q109
                  cases e109
                  replace p109 := eq_true p109
                  replace q109 := eq_true q109
                  go_wp2
                  repeat (go_quiet (fail); try go_wp2)
                  go_ret
                  exact ⟨by first | rfl | (simp; done) | (simp [*]; done), by repeat (first | exact Drawn0.refl _ | apply Drawn0.step)⟩
              · rw [if_neg c7] at H
                exact absurd H (by simp)
            · rw [if_neg c6] at H
              exact absurd H (by simp)
          · rw [if_neg c5] at H
            exact absurd H (by simp)
        · rw [if_neg c4] at H
          have c4b0 : decide (x13_1 < (l0.length : Int)) = false := decide_eq_false c4
          clear c4
          obtain rfl := Option.some.inj H
          go_wp2
          repeat (go_quiet (fail); try go_wp2)
          go_ret
          exact ⟨by first | rfl | (simp; done) | (simp [*]; done), by repeat (first | exact Drawn0.refl _ | apply Drawn0.step)⟩
  · rw [if_neg c3] at H
    have c3b0 : ((l0.length : Int) == (l1.length : Int)) = false := beq_eq_false_iff_ne.mpr c3
    have c3b1 : ((l0.length : Int) != (l1.length : Int)) = true := bne_iff_ne.mpr c3
    have c3b2 : (l0.length == l1.length) = false := by first | simpa using c3 | (simp at c3 ⊢; omega)
    obtain rfl := Option.some.inj H
    go_enter Try.func41, Try.ntmps41
    go_wp2
    repeat (go_quiet (fail); try go_wp2)
    go_ret
    exact ⟨by first | rfl | (simp; done) | (simp [*]; done), by repeat (first | exact Drawn0.refl _ | apply Drawn0.step)⟩

end Go.Proofs.Ytkkflgdobgbmmaa.Q
end
section
namespace Go.Proofs.Ytkkflgdobgbmmaa.Q
open Go.RowKit Go.Proofs.YtkkflgdobgbmmaaW.PrintWords Go.Proofs.YtkkflgdobgbmmaaW.PrintLast Go.Proofs.YtkkflgdobgbmmaaW.PrintMore
attribute [local go_sem] max2_int min2_int max_two min_two max_three min_three max_four min_four   -- for this text's walks alone
set_option linter.unusedVariables false
set_option linter.unusedSimpArgs false

-- EXT slices_Concat_byte_byte: function 44
/-! ### slices_Concat_byte_byte: function 44 -/
set_option maxHeartbeats 8000000 in
set_option maxRecDepth 100000 in
theorem slices_Grow_nil (n : Int) (h0 : 0 ≤ n) (hn : n.toNat ≤ 140737488351232) (w : World) :
    Calls Try.prog 52 #[.slice none 0 0, .int .i64 n] w fun e w' => ∃ v0_ : Value, e = .returned (v0_) ∧ Kd.R (Kd.int .u8) 5 w' w.heap.size (fun _ => True) v0_ [] ∧ Below w.heap.size w w' := by
  have HB := Aside0.mk (Below.refl w.heap.size w)
  have HN := Aside0.mk hn
  have H0 := Aside0.mk h0
  have hsz : (Try.prog.info? 5).map (·.size) = some 1 := by kernel_rfl
  have HS := Aside0.mk hsz
  clear hn hsz
  by_cases c : n = 0
  · subst c
    go_enter Try.func52, Try.ntmps52
    go_wp2
    go_ret
    exact ⟨_, rfl, Kd.R_nil _ _ _ _ _, HB.out⟩
  · have b1 : decide (n < 0) = false := decide_eq_false (by omega)
    have b2 : decide (0 < n) = true := decide_eq_true (by omega)
    have HP := Aside0.mk (show 0 < n by omega)
    have h1 : n ≤ 140737488351232 := by have := HN.out; omega
    clear c
    go_enter Try.func52, Try.ntmps52
    go_wp2_with (first | ((with_reducible refine gate_builtin (b := .append) (xs := #[.tmp 20, .tmp 21]) rfl ?_); refine Kd.R_append_zeros (Kd.int .u8) (w0 := w) w.heap.size rfl (.tmp 20) (.tmp 21) 23 3 5 (.int .u8 0) 1 rfl Try.underlying23 Try.underlying3 info5 rfl (by decide) (by decide) (.slice none 0 0) ([] : List Int) 0 n (fun _ => True) rfl rfl rfl (fun _ _ => trivial) (Kd.R_nil _ _ _ _ _) H0.out HB.out (Nat.le_refl _) (by have := HN.out; simp; omega) ?_; intro v1 w1 ho hb hg hat; clear hg hat; rw [List.nil_append] at ho; obtain ⟨go, co, eo, gb, gl, cl⟩ := Kd.R_form ho (by have := HP.out; rw [List.length_replicate]; omega); cases eo; have ho2 := Kd.R_take ho (Nat.zero_le _); rw [List.take_zero] at ho2; have hcut := ext_take0 (P := Try.prog) 23 5 .i64 Try.underlying23 HS.out go n.toNat co; have HO := Aside0.mk ho2; have HB1 := Aside0.mk hb; clear ho ho2 hb gb gl cl))
    go_ret
    exact ⟨_, rfl, HO.out, HB1.out⟩
def slices_Concat_byte_byte.f (l0 : List (List Int)) : Option (List Int) := if l0.flatten.length ≤ 140737488351232 then some l0.flatten else none
set_option maxHeartbeats 8000000 in
set_option maxRecDepth 100000 in
theorem slices_Concat_byte_byte.calls (A0 : Option Addr) (c0 : Nat) (l0 : List (List Int)) (r : List Int) (w : World) (hr0 : Kd.C (Kd.slice 5 (Kd.int .u8)) w A0 l0.length l0) (hc0 : l0.length ≤ c0) (h : slices_Concat_byte_byte.f l0 = some r) :
    Calls Try.prog 44 #[.slice A0 l0.length c0] w fun e w' => ∃ v0_ : Value, e = .returned (v0_) ∧ Kd.R (Kd.int .u8) 5 w' w.heap.size (fun _ => True) v0_ r ∧ Below w.heap.size w w' := by
  have HB := Aside0.mk (Below.refl w.heap.size w)
  have HR0 := Aside0.mk hr0
  have HM := Aside0.mk hr0.2.1
  clear hr0 hc0
  unfold slices_Concat_byte_byte.f at h
  by_cases c1 : l0.flatten.length ≤ 140737488351232
  · rw [if_pos c1] at h
    have HF := Aside0.mk (Option.some.inj h)
    have HL := Aside0.mk c1
    clear c1 h
    go_enter Try.func44, Try.ntmps44
    go_wp2
    go_loopg [3, 11] l0.length (fun gk v3 v11 w' => ∃ (S x : Int), v3 = .int .i64 S ∧ v11 = .int .i64 x ∧ Aside0 (0 ≤ x ∧ (gk : Int) + x = l0.length) ∧ Aside0 (S = ((l0.take x.toNat).flatten.length : Int)) ∧ Drawn0 w w')
    case atStart => exact ⟨0, 0, rfl, rfl, ⟨by omega⟩, ⟨by simp⟩, Drawn0.refl _⟩
    case round =>
      obtain ⟨S, x, rfl, rfl, HX, HA, ⟨m1, rfl⟩⟩ := hrel
      by_cases c2 : x < (l0.length : Int)
      · have p1 := HX.out.1
        have hx := Aside0.mk (ext_row_at HR0.out x p1 c2)
        obtain ⟨ad, A9, c9, e1, hcell, _, _⟩ := hx.out
        have hs := flat_snoc l0 x.toNat (by omega)
        have hs1 := flat_le l0 (x.toNat + 1)
        obtain ⟨E, hE⟩ : ∃ E, E = l0.getD x.toNat [] := ⟨_, rfl⟩
        rw [← hE] at hcell hs
        have hs2 : ((l0.take (x.toNat + 1)).flatten.length : Int) = S + E.length := by rw [hs, List.length_append, HA.out]; omega
        have HS2 := Aside0.mk hs2
        have s0 : 0 ≤ S := by rw [HA.out]; omega
        have s1 : S + (E.length : Int) ≤ 140737488351232 := by have := HL.out; omega
        have HW := Aside0.mk (show wrap64 (x + 1) = x + 1 from by have := HM.out; unfold wrap64; omega)
        have c2b : decide (x < (l0.length : Int)) = true := decide_eq_true c2
        have c2' := Aside0.mk c2
        have p1' : decide (0 ≤ x) = true := decide_eq_true p1
        have p2 := eq_true p1
        have q2 := eq_true c2
        cases e1
        clear hx hs hs1 hs2 hE HA c2 p1
        go_wp2
        go_roundg (gk - 1)
        case measure => have := HX.out; have := c2'.out; omega
        case rel => exact ⟨S + E.length, x + 1, rfl, by rw [HW.out], ⟨by have := HX.out; have := c2'.out; omega⟩, ⟨by rw [← HS2.out]; have := HX.out; rw [show (x + 1).toNat = x.toNat + 1 by omega]⟩, by repeat (first | exact Drawn0.refl _ | apply Drawn0.step)⟩
      · have hS : S = (l0.flatten.length : Int) := by rw [HA.out, List.take_of_length_le (by have := HX.out; omega)]
        have HSS := Aside0.mk hS
        have c2b : decide (x < (l0.length : Int)) = false := decide_eq_false c2
        clear c2 HA hS
        go_wp2_with (first | ((with_reducible refine gate_callee (f := 52) rfl ?_); refine goesL_ (some 24) rfl rfl Try.func52 (by kernel_rfl) rfl #[.slice none 0 0, .int .i64 S] rfl (by (try simp only [List.map_toArray, List.map_cons, List.map_nil]); first | done | rfl | (simp only [List.length_drop, List.length_take]; rfl)) ?_; (with_reducible refine (slices_Grow_nil S (by have := HSS.out; omega) (by have := HSS.out; have := HL.out; omega) _).mono ?_); rintro e w1 ⟨v1, rfl, ho, hb⟩; refine ⟨_, rfl, ?_⟩; have HO := Aside0.mk ho; have HB1 := Aside0.mk (show Below w.heap.size w w1 from below_step (pw_below_drewN HB.out _) hb); clear ho hb))
        go_loopg [6, 27] l0.length (fun gk v6 v27 w' => ∃ (x : Int), v27 = .int .i64 x ∧ Aside0 (0 ≤ x ∧ (gk : Int) + x = l0.length) ∧ Aside0 (Kd.R (Kd.int .u8) 5 w' w.heap.size (fun _ => True) v6 (l0.take x.toNat).flatten) ∧ Aside0 (Below w.heap.size w w'))
        case atStart => exact ⟨0, rfl, ⟨by omega⟩, ⟨by simpa using HO.out⟩, HB1⟩
        case round =>
          obtain ⟨y, rfl, HY, HO2, HB2⟩ := hrel
          by_cases c3 : y < (l0.length : Int)
          · have p1 := HY.out.1
            have hx := Aside0.mk (ext_row_at (Kd.C_below HR0.out HB2.out) y p1 c3)
            obtain ⟨ad, A9, c9, e1, hcell, _, hrow⟩ := hx.out
            have hs := flat_snoc l0 y.toNat (by omega)
            have hs1 := flat_le l0 (y.toNat + 1)
            obtain ⟨E, hE⟩ : ∃ E, E = l0.getD y.toNat [] := ⟨_, rfl⟩
            rw [← hE] at hcell hs hrow
            obtain ⟨F, hF⟩ : ∃ F, F = (l0.take y.toNat).flatten := ⟨_, rfl⟩
            rw [← hF] at HO2 hs
            have HROW := Aside0.mk hrow
            have HSN := Aside0.mk hs
            have HLN := Aside0.mk (show F.length + E.length ≤ 140737488351232 by have := HL.out; rw [hs, List.length_append] at hs1; omega)
            have HW := Aside0.mk (show wrap64 (y + 1) = y + 1 from by have := HM.out; unfold wrap64; omega)
            have c3b : decide (y < (l0.length : Int)) = true := decide_eq_true c3
            have c3' := Aside0.mk c3
            have p1' : decide (0 ≤ y) = true := decide_eq_true p1
            have p2 := eq_true p1
            have q2 := eq_true c3
            cases e1
            clear hx hs hs1 hE hF hrow c3 p1
            go_wp2_with (first | ((with_reducible refine gate_builtin (b := .append) (xs := #[.tmp 31, .tmp 32]) rfl ?_); at_builtin; refine Kd.R_append_row (Value.int .u8) (0 : Int) (h1 := fun _ => rfl) (w0 := w) w.heap.size rfl (.tmp 31) (.tmp 32) 23 5 (.int .u8 0) 1 rfl Try.underlying23 info5 rfl (by decide) _ F E A9 E.length c9 (fun _ => True) rfl rfl (fun _ _ => trivial) HO2.out HROW.out HB2.out HB2.out.size (by have := HLN.out; omega) ?_; intro v4 w4 ho4 hb4 hg4 hat4; clear hg4 hat4; have HO4 := Aside0.mk ho4; have HB4 := Aside0.mk hb4; clear ho4 hb4 HO2 HB2 HROW))
            go_roundg (gk - 1)
            case measure => have := HY.out; have := c3'.out; omega
            case rel => exact ⟨y + 1, by rw [HW.out], ⟨by have := HY.out; have := c3'.out; omega⟩, ⟨by have := HY.out; rw [show (y + 1).toNat = y.toNat + 1 by omega, HSN.out]; exact HO4.out⟩, HB4⟩
          · have hF : (l0.take y.toNat).flatten = r := by rw [List.take_of_length_le (by have := HY.out; omega), HF.out]
            rw [hF] at HO2
            have c3b : decide (y < (l0.length : Int)) = false := decide_eq_false c3
            clear c3 hF
            go_wp2
            go_ret
            exact ⟨_, rfl, HO2.out, HB2.out⟩
  · rw [if_neg c1] at h
    exact absurd h (by simp)

end Go.Proofs.Ytkkflgdobgbmmaa.Q
end
section
/- What the package word and its reference compute, in plain words: numbers as bytes, the lowest first. -/
namespace Go.Proofs.Ytkkflgdobgbmmaa.Pure
open Go.RowKit Go.Proofs.Ytkkflgdobgbmmaa.Q Go.Proofs.YtkkflgdobgbmmaaW.PrintWords Go.Proofs.YtkkflgdobgbmmaaW.PrintLast Go.Proofs.YtkkflgdobgbmmaaW.PrintMore
set_option linter.unusedVariables false
set_option linter.unusedSimpArgs false

theorem wrap64_id {n : Int} (h0 : -9223372036854775808 ≤ n) (h1 : n ≤ 9223372036854775807) : wrap64 n = n := by unfold wrap64; omega
theorem wrapu_id {n : Int} (h0 : 0 ≤ n) (h1 : n < 18446744073709551616) : IntKind.u64.wrap n = n := wraps_u64 n h0 h1
theorem rd_nat (l : List Int) (i : Nat) (h : i < l.length) : rd l (i : Int) = l[i] := by simp [rd, List.getD_eq_getElem?_getD, List.getElem?_eq_getElem h]
theorem wf_u16 {n : Int} (h : (Lit.int .u16 n).wf = true) : 0 ≤ n ∧ n < 65536 := by
  simp [Lit.wf, IntKind.min, IntKind.max, IntKind.signed, IntKind.bits] at h
  omega
def lebytes : Nat → Int → List Int
  | 0, _ => []
  | n + 1, x => x % 256 :: lebytes n (x / 256)
theorem lebytes_length : ∀ (n : Nat) (x : Int), (lebytes n x).length = n
  | 0, _ => rfl
  | n + 1, x => by rw [lebytes, List.length_cons, lebytes_length n]
theorem lebytes_u8s : ∀ (n : Nat) (x : Int), u8s (lebytes n x)
  | 0, _ => by simp [lebytes, u8s]
  | n + 1, x => by
    intro y hy
    rw [lebytes, List.mem_cons] at hy
    rcases hy with rfl | hy
    · omega
    · exact lebytes_u8s n _ y hy
theorem lebytes_get : ∀ (n i : Nat) (x : Int) (h : i < (lebytes n x).length), (lebytes n x)[i] = x / 256 ^ i % 256
  | 0, _, _, h => by simp [lebytes] at h
  | n + 1, 0, x, _ => by simp [lebytes]
  | n + 1, i + 1, x, h => by
    have := lebytes_get n i (x / 256) (by simpa [lebytes] using h)
    simp only [lebytes, List.getElem_cons_succ]
    rw [this, Int.pow_succ, Int.mul_comm, Int.ediv_ediv_of_nonneg (by decide)]
def putV (x n : Int) : List Int := if 1 ≤ n ∧ n ≤ 8 then lebytes n.toNat x else []
/-! word.Put -/
theorem set_fill (l : List Int) (i : Nat) (h : i < l.length) : (l.take i ++ List.replicate (l.length - i) 0).set i l[i] = l.take (i + 1) ++ List.replicate (l.length - (i + 1)) 0 := by
  have h1 : (l.take i).length = i := by rw [List.length_take]; omega
  rw [List.set_append, if_neg (by omega), h1, Nat.sub_self, show l.length - i = (l.length - (i + 1)) + 1 by omega, List.replicate_succ, List.set_cons_zero, List.take_succ_eq_append_getElem h, List.append_assoc]
  rfl
theorem put_loop (x : Int) (hx : 0 ≤ x) (n : Nat) (hn : n ≤ 8) (d : Nat) : ∀ (k i : Nat), n - i = d → i ≤ n → d < k →
    word_Put.l0 k x ((lebytes n x).take i ++ List.replicate ((lebytes n x).length - i) 0) n i = some (lebytes n x) := by
  induction d with
  | zero =>
    intro k i hd hi hk
    obtain ⟨k, rfl⟩ : ∃ m, k = m + 1 := ⟨k - 1, by omega⟩
    simp only [word_Put.l0]
    rw [if_neg (by omega), lebytes_length, show n - i = 0 by omega, List.replicate_zero, List.append_nil, List.take_of_length_le (by rw [lebytes_length]; omega)]
  | succ d ih =>
    intro k i hd hi hk
    obtain ⟨k, rfl⟩ : ∃ m, k = m + 1 := ⟨k - 1, by omega⟩
    have hlen := lebytes_length n x
    have hil : i < (lebytes n x).length := by omega
    have hw : IntKind.u64.wrap (wrap64 (8 * (i : Int))) = 8 * (i : Int) := by rw [wrap64_id (by omega) (by omega), wrapu_id (by omega) (by omega)]
    have hv : shr .u64 x (8 * (i : Int)) % 256 = (lebytes n x)[i] := by
      rw [lebytes_get]
      unfold shr
      rw [show (8 * (i : Int)).toNat = 8 * i by omega, show IntKind.u64.bits = 64 from rfl, Nat.min_eq_left (by omega), ← pow256]
    simp only [word_Put.l0]
    rw [if_pos (by omega), hw, if_pos (by omega), if_pos (by omega), if_pos (by rw [List.length_append, List.length_take, List.length_replicate]; omega), Int.toNat_natCast, hv, set_fill _ _ hil, wrap64_id (by omega) (by omega)]
    exact ih k (i + 1) (by omega) (by omega) (by omega)
theorem word_size_eq (n : Int) : word_size.f n = some (decide (1 ≤ n ∧ n ≤ 8)) := by
  unfold word_size.f
  by_cases h : n ≥ 1
  · rw [if_pos h]; congr 1; simp; omega
  · rw [if_neg h]; congr 1; symm; simp; omega
theorem word_Put_eq (k : Nat) (hk : 9 ≤ k) (x n : Int) (hx : 0 ≤ x) : word_Put.f k x n = some (putV x n) := by
  unfold word_Put.f putV
  rw [word_size_eq, Option.bind_some]
  by_cases h : 1 ≤ n ∧ n ≤ 8
  · rw [if_pos (by simpa using h), if_pos h, if_pos (by omega), if_pos (by omega)]
    obtain ⟨m, rfl⟩ := Int.eq_ofNat_of_zero_le (show 0 ≤ n by omega)
    have := put_loop x hx m (by omega) m k 0 (by omega) (by omega) (by omega)
    rw [lebytes_length] at this
    simpa using this
  · rw [if_neg (by simpa using h), if_neg h]

/-! word.Get -/
def insideV (len a n : Int) : Int := if ¬ (1 ≤ n ∧ n ≤ 8) then 1 else if a < 0 ∨ len < a ∨ len - a < n then 12 else 0
def cutV (l : List Int) (a n : Int) : List Int := (l.take (a + n).toNat).drop a.toNat
def getV (l : List Int) (a n : Int) : Int × Int := if insideV l.length a n = 0 then (leval (cutV l a n), 0) else (0, insideV l.length a n)
theorem u8s_cut {l : List Int} (h : u8s l) (a n : Int) : u8s (cutV l a n) := fun x hx => h x (List.mem_of_mem_take (List.mem_of_mem_drop hx))
theorem insideV_zero {len a n : Int} (h : insideV len a n = 0) : 0 ≤ a ∧ 1 ≤ n ∧ n ≤ 8 ∧ a + n ≤ len := by
  unfold insideV at h
  split at h
  · omega
  · split at h <;> omega
theorem word_inside_eq (l : List Int) (a n : Int) (hl : l.length ≤ 140737488351232) (ha1 : a ≤ 9223372036854775807) : word_inside.f l a n = some (insideV l.length a n) := by
  unfold word_inside.f insideV
  rw [word_size_eq, Option.bind_some]
  by_cases h : 1 ≤ n ∧ n ≤ 8
  · rw [if_pos (show decide (1 ≤ n ∧ n ≤ 8) = true by simpa using h), if_neg (show ¬ ¬ (1 ≤ n ∧ n ≤ 8) by simpa using h)]
    by_cases h1 : a < 0
    · rw [if_pos h1, if_pos (by omega)]
    · rw [if_neg h1]
      by_cases h2 : a > l.length
      · rw [if_pos h2, if_pos (by omega)]
      · rw [if_neg h2, wrap64_id (by omega) (by omega)]
        by_cases h3 : (l.length : Int) - a < n
        · rw [if_pos h3, if_pos (by omega)]
        · rw [if_neg h3, if_neg (by omega)]
  · rw [if_neg (show ¬ decide (1 ≤ n ∧ n ≤ 8) = true by simpa using h), if_pos h]
theorem word_Get_eq (l : List Int) (a n : Int) (hu : u8s l) (hl : l.length ≤ 140737488351232) (ha1 : a ≤ 9223372036854775807) : word_Get.f l a n = some (getV l a n) := by
  unfold word_Get.f getV
  rw [word_inside_eq l a n hl ha1, Option.bind_some]
  by_cases h : insideV l.length a n = 0
  · have h1 := insideV_zero h
    rw [if_pos h, if_pos h, if_pos ⟨h1.1, h1.2.1, h1.2.2.1, h1.2.2.2, hl, u8s_cut hu a n⟩]
    rfl
  · rw [if_neg h, if_neg h]

/-! Pad -/
def padV (l : List Int) (n : Int) : List Int := l.take n.toNat ++ List.replicate (n.toNat - l.length) 0
theorem padV_length (l : List Int) (n : Int) : (padV l n).length = n.toNat := by unfold padV; rw [List.length_append, List.length_take, List.length_replicate]; omega
theorem word_Pad_eq (l : List Int) (n : Int) (hn : n ≤ 281474976710656) : word_Pad.f l n = some (padV l n) := by
  unfold word_Pad.f padV
  by_cases h : n < 1
  · rw [if_pos h, show n.toNat = 0 by omega]
    simp
  · rw [if_neg h, if_pos (by omega)]
/-! slices.Equal -/
theorem equal_loop (l m : List Int) (hlm : l.length = m.length) (hl : l.length ≤ 140737488351232) (d : Nat) : ∀ (k i : Nat), l.length - i = d → i ≤ l.length → d < k → l.take i = m.take i →
    slices_Equal_byte_byte.l0 k l m (l.length : Int) i = some (decide (l = m)) := by
  induction d with
  | zero =>
    intro k i hd hi hk ht
    obtain ⟨k, rfl⟩ : ∃ q, k = q + 1 := ⟨k - 1, by omega⟩
    simp only [slices_Equal_byte_byte.l0]
    rw [if_neg (by omega)]
    rw [List.take_of_length_le (by omega), List.take_of_length_le (by omega)] at ht
    rw [decide_eq_true ht]
  | succ d ih =>
    intro k i hd hi hk ht
    obtain ⟨k, rfl⟩ : ∃ q, k = q + 1 := ⟨k - 1, by omega⟩
    simp only [slices_Equal_byte_byte.l0]
    rw [if_pos (by omega), if_pos (by omega), if_pos (by omega), if_pos (by omega), rd_nat l i (by omega), rd_nat m i (by omega), wrap64_id (by omega) (by omega)]
    by_cases h : l[i] = m[i]
    · rw [if_pos h]
      exact ih k (i + 1) (by omega) (by omega) (by omega) (by rw [List.take_succ_eq_append_getElem (by omega), List.take_succ_eq_append_getElem (by omega), ht, h])
    · rw [if_neg h]
      have : ¬ l = m := fun e => h (by subst e; rfl)
      rw [decide_eq_false this]
theorem slices_Equal_eq (k : Nat) (l m : List Int) (hk : l.length < k) (hl : l.length ≤ 140737488351232) : slices_Equal_byte_byte.f k l m = some (decide (l = m)) := by
  unfold slices_Equal_byte_byte.f
  by_cases h : l.length = m.length
  · rw [if_pos (by omega)]
    exact equal_loop l m h hl l.length k 0 (by omega) (by omega) hk (by simp)
  · rw [if_neg (by omega)]
    have : ¬ l = m := fun e => h (by rw [e])
    rw [decide_eq_false this]
theorem slices_Concat_eq (l : List (List Int)) (h : l.flatten.length ≤ 140737488351232) : slices_Concat_byte_byte.f l = some l.flatten := by unfold slices_Concat_byte_byte.f; rw [if_pos h]
end Go.Proofs.Ytkkflgdobgbmmaa.Pure
end
section
/- Strings of bytes, compared. -/
namespace Go.Proofs.Ytkkflgdobgbmmaa.Pure
open Go.RowKit Go.Proofs.Ytkkflgdobgbmmaa.Q Go.Proofs.YtkkflgdobgbmmaaW.PrintWords Go.Proofs.YtkkflgdobgbmmaaW.PrintLast Go.Proofs.YtkkflgdobgbmmaaW.PrintMore
set_option linter.unusedVariables false
set_option linter.unusedSimpArgs false

end Go.Proofs.Ytkkflgdobgbmmaa.Pure
end
section
/- Bytes, as a string and back. -/

namespace Go.Proofs.Ytkkflgdobgbmmaa.Pure
open Go.RowKit Go.Proofs.Ytkkflgdobgbmmaa.Q Go.Proofs.YtkkflgdobgbmmaaW.PrintWords Go.Proofs.YtkkflgdobgbmmaaW.PrintLast Go.Proofs.YtkkflgdobgbmmaaW.PrintMore
set_option linter.unusedVariables false
set_option linter.unusedSimpArgs false

theorem u8s_take {l : List Int} (h : u8s l) (n : Nat) : u8s (l.take n) := fun x hx => h x (List.mem_of_mem_take hx)
end Go.Proofs.Ytkkflgdobgbmmaa.Pure
end
section
/- A region that draws its order, of which each operation only reads, or makes new memory: what is known of each destination once its operation is listed stays known. -/
namespace Go.Proofs.Ytkkflgdobgbmmaa.Q
open Go.RowKit Go.Proofs.YtkkflgdobgbmmaaW.PrintWords Go.Proofs.YtkkflgdobgbmmaaW.PrintLast Go.Proofs.YtkkflgdobgbmmaaW.PrintMore
set_option linter.unusedVariables false
set_option linter.unusedSimpArgs false

/-- What is known of a value, and stays known while memory only grows. -/
structure VP where
  p : Value → World → Prop
  st : ∀ v w w', p v w → Below w.heap.size w w' → p v w'
/-- The value itself. -/
def VP.is (X : Value) : VP := ⟨fun v _ => v = X, fun _ _ _ h _ => h⟩
def VP.any : VP := ⟨fun _ _ => True, fun _ _ _ _ _ => trivial⟩
/-- A slice that reads as a list. -/
def VP.row {α : Type} (d : Kd α) (xs : List α) : VP := ⟨fun v w => ∃ A c, v = .slice A xs.length c ∧ xs.length ≤ c ∧ d.C w A xs.length xs, fun _ _ _ ⟨A, c, h1, h2, h3⟩ hb => ⟨A, c, h1, h2, Kd.C_below h3 hb⟩⟩
/-- The head of a block that is known whole. -/
def VP.blk (base : Nat) (cs : Array Value) (t : TypeId) : VP := ⟨fun v w => ∃ g, v = .pointer (some ⟨g, 0, none⟩) ∧ base ≤ g ∧ w.heap[g]? = some (.cells cs t (0, 0)), fun _ _ _ ⟨g, h1, h2, h3⟩ hb => ⟨g, h1, h2, blk_below h3 hb⟩⟩
/-- A row of the call's own. -/
def VP.own {α : Type} (d : Kd α) (e base : Nat) (xs : List α) : VP := ⟨fun v w => d.R e w base (fun _ => True) v xs, fun _ _ _ h hb => Kd.R_below h hb⟩

/-- The operation comes to a value (of itself, or by a call), and R holds of it. -/
def Does (P : Program) (o : Oper) (a : Act) (w : World) (R : Value → World → Prop) : Prop :=
  (∃ v w', (execOp a.eval o).run P w = .ok (.value v) w' ∧ R v w') ∨ (∃ f args, (execOp a.eval o).run P w = .ok (.enter f args) w ∧ Calls P f args w fun e w' => ∃ v, e = .returned v ∧ R v w')
abbrev Facts := List (Nat × Tmp × VP)
def MI (L : Facts) (a0 : Act) (w0 : World) (b : Nat → Bool) (a : Act) (w : World) : Prop :=
  Below w0.heap.size w0 w ∧ a.defers = a0.defers ∧ a.tmps.size = a0.tmps.size ∧ (∀ t, (L.all fun e => !(e.2.1 == t)) = true → a.tmps[t]? = a0.tmps[t]?) ∧
    ∀ e ∈ L, (b e.1 = false → a.tmps[e.2.1]? = a0.tmps[e.2.1]?) ∧ (b e.1 = true → ∃ v, a.tmps[e.2.1]? = some v ∧ e.2.2.p v w)
/-- What a step may use. -/
structure Have (L : Facts) (B : List Nat) (a0 : Act) (w0 : World) (i : Nat) (a : Act) (w : World) : Prop where
  below : Below w0.heap.size w0 w
  amb : ∀ t, (L.all fun e => !(e.2.1 == t)) = true → a.tmps[t]? = a0.tmps[t]?
  old : ∀ e ∈ L, (B.getD e.1 0).testBit i = true → a.tmps[e.2.1]? = a0.tmps[e.2.1]?
  new : ∀ e ∈ L, (B.getD i 0).testBit e.1 = true → ∃ v, a.tmps[e.2.1]? = some v ∧ e.2.2.p v w
theorem Have.tmp {L : Facts} {B : List Nat} {a0 : Act} {w0 : World} {i : Nat} {a : Act} {w : World} (H : Have L B a0 w0 i a w) {t : Tmp} {v : Value} (hv : a0.tmps[t]? = some v) (h : (L.all fun e => !(e.2.1 == t)) = true) : a.tmps[t]? = some v := (H.amb t h).trans hv
theorem Have.on {L : Facts} {B : List Nat} {a0 : Act} {w0 : World} {i : Nat} {a : Act} {w : World} (H : Have L B a0 w0 i a w) (k : Nat) {j : Nat} {t : Tmp} {p : VP} (hk : L[k]? = some (j, t, p)) (h : (B.getD i 0).testBit j = true) : ∃ v, a.tmps[t]? = some v ∧ p.p v w :=
  H.new _ (List.mem_of_getElem? hk) h
def MStep (P : Program) (ops : Array Oper) (L : Facts) (B : List Nat) (a0 : Act) (w0 : World) (e : Nat × Tmp × VP) : Prop :=
  ∀ a w, Have L B a0 w0 e.1 a w → ∃ oi, ops[e.1]? = some oi ∧ oi.dst = some e.2.1 ∧
    ((Region.wanted oi (yielded ops a.tmps) = true ∧ Does P oi a w fun v w' => Below w.heap.size w w' ∧ e.2.2.p v w') ∨ (Region.wanted oi (yielded ops a.tmps) = false ∧ e.2.2.p undef w))
/-- Behind the region: each destination has its value. -/
def Ends (w : World) (Q : Act → Prop) : Facts → Act → Prop
  | [], a => Q a
  | e :: r, a => ∀ v, e.2.2.p v w → Ends w Q r (a.put (some e.2.1) v)
def distinctB (L : Facts) : Bool := decide ((L.map (·.1)).Nodup) && decide ((L.map (·.2.1)).Nodup)
def insideB (L : Facts) (n : Nat) : Bool := L.all fun e => Nat.ble (e.2.1 + 1) n
section
variable {P : Program} {ops : Array Oper} {Q : Exit → Act → World → Prop} {T : Bool × List (List Nat × List Nat)} {B : List Nat} {O : List Nat} {L : Facts} {a0 : Act} {w0 : World}
theorem nodup_key {α β : Type} {f : α → β} : ∀ {l : List α}, (l.map f).Nodup → ∀ {x y : α}, x ∈ l → y ∈ l → f x = f y → x = y
  | [], _, _, _, h, _, _ => by cases h
  | z :: l, hn, x, y, hx, hy, he => by
    rw [List.map_cons, List.nodup_cons] at hn
    rcases List.mem_cons.1 hx with e1 | hx1
    · rcases List.mem_cons.1 hy with e2 | hy1
      · rw [e1, e2]
      · have := List.mem_map_of_mem (f := f) hy1
        rw [← he, e1] at this
        exact absurd this hn.1
    · rcases List.mem_cons.1 hy with e2 | hy1
      · have := List.mem_map_of_mem (f := f) hx1
        rw [he, e2] at this
        exact absurd this hn.1
      · exact nodup_key hn.2 hx1 hy1 he
theorem tmps_put {a : Act} {t u : Tmp} {v : Value} (h : t < a.tmps.size) : (a.put (some t) v).tmps[u]? = if t = u then some v else a.tmps[u]? := by
  show (a.tmps.setIfInBounds t v)[u]? = _
  rw [Array.getElem?_setIfInBounds]
  by_cases e : t = u
  · subst e
    simp [h]
  · simp [e]
/-- One step keeps what is known. -/
theorem MI_step (hd : distinctB L = true) (hin : insideB L a0.tmps.size = true) {e : Nat × Tmp × VP} (he : e ∈ L) {b : Nat → Bool} {a : Act} {w w' : World} (h : MI L a0 w0 b a w) (hbe : b e.1 = false) {v : Value} (hb : Below w.heap.size w w') (hp : e.2.2.p v w') :
    MI L a0 w0 (up b e.1) (a.put (some e.2.1) v) w' := by
  obtain ⟨h1, h2, h3, h4, h5⟩ := h
  simp only [distinctB, Bool.and_eq_true, decide_eq_true_eq] at hd
  have hlt : e.2.1 < a.tmps.size := by
    rw [h3]
    exact Nat.le_of_ble_eq_true (List.all_eq_true.1 hin e he)
  refine ⟨h1.trans (hb.mono h1.size), h2, by show (a.tmps.setIfInBounds _ _).size = _; rw [Array.size_setIfInBounds]; exact h3, fun t ht => ?_, fun e' he' => ?_⟩
  · have hne : e.2.1 ≠ t := by have := List.all_eq_true.1 ht e he; simpa using this
    rw [tmps_put hlt, if_neg hne]
    exact h4 t ht
  · by_cases hq : e.1 = e'.1
    · obtain rfl := nodup_key hd.1 he he' hq
      refine ⟨fun hf => (by rw [up_self] at hf; cases hf), fun _ => ⟨v, by rw [tmps_put hlt, if_pos rfl], hp⟩⟩
    · have hs : e.2.1 ≠ e'.2.1 := fun hs => hq (by rw [nodup_key hd.2 he he' hs])
      rw [up_ne (fun z => hq z.symm), tmps_put hlt, if_neg hs]
      refine ⟨(h5 e' he').1, fun hb' => ?_⟩
      obtain ⟨v', hv', hp'⟩ := (h5 e' he').2 hb'
      exact ⟨v', hv', e'.2.2.st _ _ _ hp' hb⟩
theorem MI_start (w : World) (hw : Below w0.heap.size w0 w) : MI L a0 w0 (fun _ => false) a0 w := ⟨hw, rfl, rfl, fun _ _ => rfl, fun _ _ => ⟨fun _ => rfl, fun h => by cases h⟩⟩
theorem MI_have {b : Nat → Bool} {a : Act} {w : World} (h : MI L a0 w0 b a w) (hL : ∀ e ∈ L, O.contains e.1 = true) {i : Nat} (hon : ∀ j, (O.contains j && (B.getD i 0).testBit j) = true → b j = true) (hoff : ∀ d, (O.contains d && (B.getD d 0).testBit i) = true → b d = false) : Have L B a0 w0 i a w :=
  ⟨h.1, h.2.2.2.1, fun e he hbit => (h.2.2.2.2 e he).1 (hoff _ (by rw [hL e he, hbit]; rfl)), fun e he hbit => (h.2.2.2.2 e he).2 (hon _ (by rw [hL e he, hbit]; rfl))⟩
theorem Ends_of {w : World} {R : Act → Prop} : ∀ {L : Facts} {a a' : Act}, Ends w R L a → (L.map (·.2.1)).Nodup → (∀ e ∈ L, e.2.1 < a.tmps.size) → a'.defers = a.defers → a'.tmps.size = a.tmps.size → (∀ t, (L.all fun e => !(e.2.1 == t)) = true → a'.tmps[t]? = a.tmps[t]?) → (∀ e ∈ L, ∃ v, a'.tmps[e.2.1]? = some v ∧ e.2.2.p v w) → R a'
  | [], a, a', h, _, _, hd, hs, ht, _ => by
    have : a' = a := by
      cases a; cases a'
      simp only at hd ht
      congr
      exact Array.ext_getElem? (fun t => ht t rfl)
    rw [this]
    exact h
  | e :: r, a, a', h, hn, hin, hd, hs, ht, hf => by
    obtain ⟨v, hv, hp⟩ := hf e List.mem_cons_self
    rw [List.map_cons, List.nodup_cons] at hn
    have hlt := hin e List.mem_cons_self
    refine Ends_of (h v hp) hn.2 (fun e' he' => by show _ < (a.tmps.setIfInBounds _ _).size; rw [Array.size_setIfInBounds]; exact hin e' (List.mem_cons_of_mem _ he')) hd (by show _ = (a.tmps.setIfInBounds _ _).size; rw [Array.size_setIfInBounds]; exact hs) (fun t hall => ?_) (fun e' he' => hf e' (List.mem_cons_of_mem _ he'))
    rw [tmps_put hlt]
    by_cases hq : e.2.1 = t
    · subst hq
      rw [if_pos rfl]
      exact hv
    · rw [if_neg hq]
      exact ht t (by rw [List.all_cons, hall, Bool.and_true]; simpa using hq)
theorem does_wp {oi : Oper} {a : Act} {w : World} {t : Tmp} {K : Act → World → Prop} {R : Value → World → Prop} (hdst : oi.dst = some t) (hw : Region.wanted oi (yielded ops a.tmps) = true) (h : Does P oi a w R) (hK : ∀ v w', R v w' → K (a.put (some t) v) w') :
    if Region.wanted oi (yielded ops a.tmps) = true then Oper.wp P oi a w K Q else K (a.put oi.dst undef) w := by
  rw [if_pos hw]
  unfold Oper.wp
  rcases h with ⟨v, w', hr, hR⟩ | ⟨f, args, hr, hc⟩
  · rw [hr]
    show K (a.put oi.dst v) w'
    rw [hdst]
    exact hK _ _ hR
  · rw [hr]
    refine hc.mono ?_
    rintro e w' ⟨v, rfl, hR⟩
    show K (a.put oi.dst v) w'
    rw [hdst]
    exact hK _ _ hR
theorem mono_steps (hd : distinctB L = true) (hin : insideB L a0.tmps.size = true) (hL : ∀ e ∈ L, O.contains e.1 = true) {e : Nat × Tmp × VP} (he : e ∈ L) (hs : MStep P ops L B a0 w0 e) : StepAt P ops Q B O (MI L a0 w0) e.1 := by
  intro b a w h hbi hon hoff
  obtain ⟨oi, ho, hdst, h1⟩ := hs a w (MI_have h hL hon hoff)
  refine ⟨oi, ho, fun K hK => ?_⟩
  rcases h1 with ⟨hw, hdo⟩ | ⟨hw, hp⟩
  · exact does_wp hdst hw hdo (fun v w' hR => hK.out _ _ (MI_step hd hin he h hbi hR.1 hR.2))
  · rw [hw, if_neg (by simp), hdst]
    exact hK.out _ _ (MI_step hd hin he h hbi (Below.refl _ _) hp)
/-- THE REGION: all its operations are of this kind. -/
theorem mono_region {id n : Nat} (L : Facts) (hT : rtab .any ops = T) (hw : waitsOk T.2 B = true) (hm : P.follows .mixedOrders = true) (hn : ops.size = n)
    (hk : baseOk T.2 (List.range n) = true) (hl : (lof T.2.length (List.range n) (fun _ => false) == List.replicate n false) = true)
    (hd : distinctB L = true) (hin : insideB L a0.tmps.size = true) (hL : (L.map (·.1) == List.range n) = true)
    (hs : ∀ e ∈ L, MStep P ops L B a0 w0 e)
    (hend : ∀ w, Below w0.heap.size w0 w → Ends w (fun a => Q .normal a w) L a0) : (Code.region id ops true).wp P Q a0 w0 := by
  have hmem : ∀ e ∈ L, (List.range n).contains e.1 = true := fun e he => by
    rw [← beq_iff_eq.1 hL]
    simpa using List.mem_map_of_mem (f := (·.1)) he
  refine start_ (n := n) (S := fun _ => True) (ds := []) (Array.replicate n false) hm hn rfl trivial (fun _ => ?_)
  refine inv_ (List.range n) (MI L a0 w0) hT hw hk (by rw [Array.toList_replicate, hl]; simp) (MI_start _ (below_drew (Below.refl _ _))) (fun i hi => ?_) (fun b a w hall h => ?_)
  · have : i ∈ L.map (·.1) := by rw [beq_iff_eq.1 hL]; exact hi
    obtain ⟨e, he, rfl⟩ := List.mem_map.1 this
    exact mono_steps hd hin hmem he (hs e he)
  · obtain ⟨h1, h2, h3, h4, h5⟩ := h
    simp only [distinctB, Bool.and_eq_true, decide_eq_true_eq] at hd
    exact Ends_of (R := fun a => Q .normal a w) (hend w h1) hd.2 (fun e he => Nat.le_of_ble_eq_true (List.all_eq_true.1 hin e he)) h2 h3 h4 (fun e he => (h5 e he).2 (hall _ (hmem e he)))
end
theorem ms_nil {M : Nat × Tmp × VP → Prop} : ∀ e ∈ ([] : Facts), M e := fun _ h => by cases h
theorem ms_cons {M : Nat × Tmp × VP → Prop} {e : Nat × Tmp × VP} {r : Facts} (h : M e) (hs : ∀ x ∈ r, M x) : ∀ x ∈ e :: r, M x := fun x hx => by
  rcases List.mem_cons.1 hx with rfl | hx
  · exact h
  · exact hs x hx
/-- An operation without a guard that comes to a value by itself. -/
theorem ms_val {P : Program} {ops : Array Oper} {oi : Oper} {a : Act} {w : World} {t : Tmp} {p : VP} {i : Nat} (hi : ops[i]? = some oi) (hd : oi.dst = some t) (hw : Region.wanted oi (yielded ops a.tmps) = true) (v : Value) (w' : World) (hr : (execOp a.eval oi).run P w = .ok (.value v) w') (hb : Below w.heap.size w w') (hp : p.p v w') :
    ∃ oi, ops[i]? = some oi ∧ oi.dst = some t ∧ ((Region.wanted oi (yielded ops a.tmps) = true ∧ Does P oi a w fun v w' => Below w.heap.size w w' ∧ p.p v w') ∨ (Region.wanted oi (yielded ops a.tmps) = false ∧ p.p undef w)) :=
  ⟨oi, hi, hd, .inl ⟨hw, .inl ⟨v, w', hr, hb, hp⟩⟩⟩
theorem ms_call {P : Program} {ops : Array Oper} {oi : Oper} {a : Act} {w : World} {t : Tmp} {p : VP} {i : Nat} (hi : ops[i]? = some oi) (hd : oi.dst = some t) (hw : Region.wanted oi (yielded ops a.tmps) = true) {f : FuncId} {fn : Func} {xs : Array Operand} {ts : Array TypeId} (hf : P.funcs[f]? = some fn) (hname : (fn.name == "runtime.NumGoroutine") = false) (hbd : fn.body.isSome = true) (args : Array Value)
    (hop : oi.op = .call { callee := .value (.func f), args := xs, argTypes := ts }) (hargs : xs.map a.eval = args) (h : Calls P f args w fun e w' => ∃ v, e = .returned v ∧ Below w.heap.size w w' ∧ p.p v w') :
    ∃ oi, ops[i]? = some oi ∧ oi.dst = some t ∧ ((Region.wanted oi (yielded ops a.tmps) = true ∧ Does P oi a w fun v w' => Below w.heap.size w w' ∧ p.p v w') ∨ (Region.wanted oi (yielded ops a.tmps) = false ∧ p.p undef w)) :=
  ⟨oi, hi, hd, .inl ⟨hw, .inr ⟨f, args, by
    have he := enters_ hf hname hbd args w
    unfold execOp
    simp [hop, resolve, Deferred.ofValue, invoke, Act.eval, hargs, he], h⟩⟩⟩
end Go.Proofs.Ytkkflgdobgbmmaa.Q
end
section
/- Structs and arrays in blocks that are known whole: loads, stores, new ones, results. -/
namespace Go.Proofs.Ytkkflgdobgbmmaa.Q
open Go.RowKit Go.Proofs.YtkkflgdobgbmmaaW.PrintWords Go.Proofs.YtkkflgdobgbmmaaW.PrintLast Go.Proofs.YtkkflgdobgbmmaaW.PrintMore
set_option linter.unusedVariables false
set_option linter.unusedSimpArgs false
section
variable {P : Program}
theorem ex_load_cell {o : Oper} {a : Act} (w : World) (ty : TypeId) (x : Operand) (ho : o.op = .load ty x) (ad : Addr) (hx : a.eval x = .pointer (some ad)) (v : Value) (hv : w.cell? ad = some v) (d : TypeDesc)
    (hu : P.underlying ty = some d) (hd : (match d with | .struct _ | .array _ _ => true | _ => false) = false) : (execOp a.eval o).run P w = .ok (.value v) w := by
  have hagg : (isAgg ty).run P w = .ok false w := by
    unfold isAgg
    rw [Sem.run_bind, run_underlying hu w]
    cases d <;> simp_all
  unfold execOp
  simp [ho, hx, Instr.loadAt, Instr.sureAddr, loadVar, Sem.run_bind, hagg, hv]
/-- A struct or array (or one cell) is stored into a block that is known whole. -/
theorem ex_store_agg {o : Oper} {a : Act} (w : World) (ty : TypeId) (x y : Operand) (ho : o.op = .store ty x y) (g off : Nat) (hx : a.eval x = .pointer (some ⟨g, off, none⟩)) (cur : Array Value) (t : TypeId) (hg : w.heap[g]? = some (.cells cur t (0, 0)))
    (v : Value) (hy : a.eval y = v) (hle : off + v.cells.size ≤ cur.size) (h1 : ∀ u ∈ v.cells.toList, u.oneCell' = true) (hi : (P.info? ty).map (·.size) = some v.cells.size) :
    ∃ w', (execOp a.eval o).run P w = .ok .skip w' ∧ w'.heap[g]? = some (.cells (cur.toList.take off ++ v.cells.toList ++ cur.toList.drop (off + v.cells.size)).toArray t (0, 0)) ∧ w.grownBy w' (some g) ∧ w'.heap.size = w.heap.size := by
  have hst := run_storeCells_at P g off t v.cells.toList 0 cur w hg (by simpa using hle) h1
  have hrun : (storeVar ty ⟨g, off, none⟩ v).run P w = .ok () (w.setRow g (cur.toList.take (off + 0) ++ v.cells.toList ++ cur.toList.drop (off + 0 + v.cells.toList.length)).toArray) := by
    cases hq : P.info? ty with
    | none => simp [hq] at hi
    | some i =>
      have hs : v.cells.size = i.size := by simp [hq] at hi; omega
      simp only [Nat.add_zero] at hst ⊢
      simp [storeVar, sizeOf, typeInfo, hq, ← hs]
      simpa using hst
  refine ⟨_, ?_, setRow_heap w g cur _ t _ hg, ⟨rfl, rfl, rfl, by simp [World.setRow], fun q hq hne => setRow_other w g q _ (fun e => hne (by rw [e]))⟩, by simp⟩
  unfold execOp
  simp only [ho, hx, hy, Instr.storeAt, Instr.sureAddr, Sem.run_bind, Sem.run_pure, Result.andThen_ok, hrun]
  simp [Result.andThen]
end
section
variable {P : Program} {ops : Array Oper} {rest : List Oper} {o : Oper} {a : Act} {Q : Exit → Act → World → Prop}
theorem wl_store_agg {W : World} (hgd : o.guard = none) (hdst : o.dst = none) (ty : TypeId) (x y : Operand) (ho : o.op = .store ty x y) (g off : Nat) (hx : a.eval x = .pointer (some ⟨g, off, none⟩)) (cur : Array Value) (t : TypeId) (hg : W.heap[g]? = some (.cells cur t (0, 0)))
    (v : Value) (hy : a.eval y = v) (hle : off + v.cells.size ≤ cur.size) (h1 : ∀ u ∈ v.cells.toList, u.oneCell' = true) (hi : (P.info? ty).map (·.size) = some v.cells.size)
    (h : ∀ w1, w1.heap[g]? = some (.cells (cur.toList.take off ++ v.cells.toList ++ cur.toList.drop (off + v.cells.size)).toArray t (0, 0)) → W.grownBy w1 (some g) → w1.heap.size = W.heap.size → wpList P ops Q rest a w1) : wpList P ops Q (o :: rest) a W := by
  obtain ⟨w1, hr, h2, h3, h4⟩ := ex_store_agg (P := P) (o := o) (a := a) W ty x y ho g off hx cur t hg v hy hle h1 hi
  refine wpList_plain hgd fun K hK => ?_
  unfold Oper.wp
  rw [hr]
  show K (a.put o.dst undef) w1
  rw [hdst]
  exact hK _ _ (h w1 h2 h3 h4)
theorem ex_store_all {o : Oper} {a : Act} (w : World) (ty : TypeId) (x y : Operand) (ho : o.op = .store ty x y) (g : Nat) (hx : a.eval x = .pointer (some ⟨g, 0, none⟩)) (cur : Array Value) (t : TypeId) (hg : w.heap[g]? = some (.cells cur t (0, 0)))
    (v : Value) (hy : a.eval y = v) (hle : v.cells.size = cur.size) (h1 : ∀ u ∈ v.cells.toList, u.oneCell' = true) (hi : (P.info? ty).map (·.size) = some v.cells.size) :
    ∃ w', (execOp a.eval o).run P w = .ok .skip w' ∧ w'.heap[g]? = some (.cells v.cells t (0, 0)) ∧ w.grownBy w' (some g) ∧ w'.heap.size = w.heap.size := by
  obtain ⟨w', h2, h3, h4, h5⟩ := ex_store_agg (P := P) (o := o) (a := a) w ty x y ho g 0 hx cur t hg v hy (by omega) h1 hi
  refine ⟨w', h2, ?_, h4, h5⟩
  rw [h3, List.take_zero, List.nil_append, Nat.zero_add, List.drop_of_length_le (by rw [Array.length_toList]; omega), List.append_nil, Array.toArray_toList]
theorem wl_store_all {W : World} (hgd : o.guard = none) (hdst : o.dst = none) (ty : TypeId) (x y : Operand) (ho : o.op = .store ty x y) (g : Nat) (hx : a.eval x = .pointer (some ⟨g, 0, none⟩)) (cur : Array Value) (t : TypeId) (hg : W.heap[g]? = some (.cells cur t (0, 0)))
    (v : Value) (hy : a.eval y = v) (hle : v.cells.size = cur.size) (h1 : ∀ u ∈ v.cells.toList, u.oneCell' = true) (hi : (P.info? ty).map (·.size) = some v.cells.size)
    (h : ∀ w1, w1.heap[g]? = some (.cells v.cells t (0, 0)) → W.grownBy w1 (some g) → w1.heap.size = W.heap.size → wpList P ops Q rest a w1) : wpList P ops Q (o :: rest) a W := by
  obtain ⟨w1, hr, h2, h3, h4⟩ := ex_store_all (P := P) (o := o) (a := a) W ty x y ho g hx cur t hg v hy hle h1 hi
  refine wpList_plain hgd fun K hK => ?_
  unfold Oper.wp
  rw [hr]
  show K (a.put o.dst undef) w1
  rw [hdst]
  exact hK _ _ (h w1 h2 h3 h4)
/-- A new variable of a type whose value of noughts is known. -/
theorem ex_alloc {o : Oper} {a : Act} (W : World) (ty : TypeId) (ho : o.op = .alloc ty) (z : Value) (hz : (P.info? ty).map (·.zero) = some (some z)) :
    (execOp a.eval o).run P W = .ok (.value (.pointer (some ⟨W.heap.size, 0, none⟩))) (W.alloc (.cells z.cells ty (0, 0))) := by
  cases hq : P.info? ty with
  | none => simp [hq] at hz
  | some i =>
    have hz' : i.zero = some z := by simpa [hq] using hz
    unfold execOp
    simp [ho, Instr.alloc, zeroValue, typeInfo, hq, hz', newVar, newRow, newObj, Result.andThen]
    rfl
theorem wl_alloc {W : World} (hgd : o.guard = none) (ty : TypeId) (ho : o.op = .alloc ty) (z : Value) (hz : (P.info? ty).map (·.zero) = some (some z))
    (h : ∀ g, g = W.heap.size → ∀ w1, w1.heap[g]? = some (.cells z.cells ty (0, 0)) → Below W.heap.size W w1 → w1.heap.size = W.heap.size + 1 → wpList P ops Q rest (a.put o.dst (.pointer (some ⟨g, 0, none⟩))) w1) : wpList P ops Q (o :: rest) a W :=
  Kd.event_run hgd (ex_alloc W ty ho z hz) (h _ rfl _ (blk_new W _) (below_alloc (Below.refl _ _) _) (by simp))
theorem ex_box {o : Oper} {a : Act} (W : World) (ty : TypeId) (x : Operand) (ho : o.op = .box ty x) (v : Value) (hx : a.eval x = v) :
    (execOp a.eval o).run P W = .ok (.value (.pointer (some ⟨W.heap.size, 0, none⟩))) (W.alloc (.cells v.cells ty (0, 0))) := by
  unfold execOp
  simp [ho, hx, Instr.box, newVar, newRow, newObj, Result.andThen]
  rfl
theorem wl_box {W : World} (hgd : o.guard = none) (ty : TypeId) (x : Operand) (ho : o.op = .box ty x) (v : Value) (hx : a.eval x = v)
    (h : ∀ g, g = W.heap.size → ∀ w1, w1.heap[g]? = some (.cells v.cells ty (0, 0)) → Below W.heap.size W w1 → w1.heap.size = W.heap.size + 1 → wpList P ops Q rest (a.put o.dst (.pointer (some ⟨g, 0, none⟩))) w1) : wpList P ops Q (o :: rest) a W :=
  Kd.event_run hgd (ex_box W ty x ho v hx) (h _ rfl _ (blk_new W _) (below_alloc (Below.refl _ _) _) (by simp))
/-- '[]T{..}' of numbers: a row of one's own. -/
theorem lit_own (k : IntKind) (W : World) (e : TypeId) (xs : List Int) (hm : xs.length ≤ maxLen) : (Kd.int k).R e (W.alloc (.cells (encs (Value.int k) xs).toArray e)) W.heap.size (fun _ => True) (.slice (some ⟨W.heap.size, 0, none⟩) xs.length xs.length) xs :=
  Kd.R_of_own (enc := Value.int k) (h1 := fun _ => rfl) ⟨by rw [encs_length]; omega, .inr ⟨W.heap.size, xs.length, (encs (Value.int k) xs).toArray, rfl, Nat.le_refl _, by simpa using heap_alloc_new W _, Nat.le_refl _, hm, by simp [encs_length], by simp only [Nat.mul_one]; exact List.take_of_length_le (by rw [encs_length]; exact Nat.le_refl _)⟩⟩ (fun _ _ => trivial)
theorem gate_op {W : World} {N : Op} (_hN : o.op = N) (h : wpList P ops Q (o :: rest) a W) : wpList P ops Q (o :: rest) a W := h
end
section
variable {P : Program}
theorem grown_below {w0 w w1 : World} {B g : Nat} (hb : Below B w0 w) (h : w.grownBy w1 (some g)) (hB : B ≤ w.heap.size) (hg : B ≤ g) : Below B w0 w1 := hb.grown h hB (fun k hk => by injection hk with hk; omega)
end
end Go.Proofs.Ytkkflgdobgbmmaa.Q
end
section
/- '==' of arrays of numbers; strings out of rows of bytes. -/
namespace Go.Proofs.Ytkkflgdobgbmmaa.Q
open Go.RowKit Go.Proofs.YtkkflgdobgbmmaaW.PrintWords Go.Proofs.YtkkflgdobgbmmaaW.PrintLast Go.Proofs.YtkkflgdobgbmmaaW.PrintMore
set_option linter.unusedVariables false
set_option linter.unusedSimpArgs false
section
variable {P : Program}
/-- 'string(row)'. -/
theorem fold_push : ∀ (ns : List Int) (s : ByteArray), ns.foldl (fun r n => r.push (UInt8.ofNat n.toNat)) s = ⟨s.data ++ (ns.map fun n => UInt8.ofNat n.toNat).toArray⟩
  | [], s => by simp
  | n :: ns, s => by
    rw [List.foldl_cons, fold_push ns]
    simp [ByteArray.push]
theorem run_string_row (src dst e : TypeId) (hs : P.underlying src = some (.slice e)) (he : P.underlying e = some (.int .u8)) (hd : P.underlying dst = some .string) (w : World) (A : Option Addr) (c : Nat) (xs : List Int) (h : Kd.C (Kd.int .u8) w A xs.length xs) :
    (convert src dst (.slice A xs.length c)).run P w = .ok (.string (strOfNums xs)) w := by
  rw [run_convert_bytes_string w src dst e A _ c hs he hd]
  have hr := Kd.reads_of_C (enc := Value.int .u8) (d := (0 : Int)) (h1 := fun _ => rfl) h
  cases A with
  | none =>
    have h0 : xs = [] := by
      rcases Nat.eq_zero_or_pos xs.length with h0 | h0
      · exact List.eq_nil_of_length_eq_zero h0
      · obtain ⟨ad, h1, _⟩ := hr.2.2 h0
        cases h1
    subst h0
    rfl
  | some ad =>
    have hl : (loadCells ad xs.length).run P w = .ok (xs.map (Value.int .u8)).toArray w := by
      have := run_loadCells_list (P := P) w ad (xs.map (Value.int .u8)) (fun j v hv => by
        have hj : j < xs.length := by have := (List.getElem?_eq_some_iff.1 hv).1; simpa using this
        obtain ⟨ad', h1, h2⟩ := hr.2.2 (by omega)
        injection h1 with h1
        subst h1
        rw [h2 j hj, ← hv, List.getElem?_map, List.getElem?_eq_getElem hj, List.getD_eq_getElem?_getD, List.getElem?_eq_getElem hj]
        rfl)
      simpa using this
    rw [run_bytesToString w ad _ c xs hl, fold_push]
    simp [strOfNums, ByteArray.empty, ByteArray.emptyWithCapacity]
    try rfl
end
end Go.Proofs.Ytkkflgdobgbmmaa.Q
end
section
/- Strings read by index; '[]byte(s)' by hand (for seats other than law19's, which has these in C19RGet). -/
namespace Go.Proofs.Ytkkflgdobgbmmaa.Q
open Go.RowKit Go.Proofs.YtkkflgdobgbmmaaW.PrintWords Go.Proofs.YtkkflgdobgbmmaaW.PrintLast Go.Proofs.YtkkflgdobgbmmaaW.PrintMore Go.Proofs.Ytkkflgdobgbmmaa.Pure
set_option linter.unusedVariables false
set_option linter.unusedSimpArgs false
theorem run_index_bt {P : Program} (w : World) (t : TypeId) (s : ByteArray) (k : IntKind) (i : Int) (h : P.underlying t = some .string) (h0 : 0 ≤ i) (h1 : i < s.size) : (Instr.index t (.string s) (.int k i)).run P w = .ok (.int .u8 (bt s i)) w := by
  rw [run_index_string w t s k i h, dif_pos ⟨h0, h1⟩, bt_at]
theorem cell_congr {w1 w2 : World} {g : Nat} (h : w2.heap[g]? = w1.heap[g]?) (a : Addr) (ha : a.block = g) : w2.cell? a = w1.cell? a := by unfold World.cell?; rw [ha, h]
theorem add_block (a : Addr) (j : Nat) : (a.add j).block = a.block := by unfold Addr.add; split <;> rfl
/-- '[]byte(s)': its block tells the row. -/
theorem conv_row (W : World) (e : TypeId) (s : ByteArray) (hs : s.size ≤ 200) : ∃ ob, (Lib.bytesWorld W e s).heap[W.heap.size]? = some ob ∧ ∀ W2 : World, W2.heap[W.heap.size]? = some ob → Kd.C (Kd.int .u8) W2 (some ⟨W.heap.size, 0, none⟩) (bytesOf s).length (bytesOf s) := by
  refine ⟨_, Lib.bytesWorld_at_new W e s, fun W2 h2 => ?_⟩
  have hr := bytes_reads W e s (by omega)
  rw [← bytesOf_length] at hr
  refine Kd.C_of_reads (enc := Value.int .u8) (d := (0 : Int)) (h1 := fun _ => rfl) ⟨rfl, by rw [bytesOf_length]; omega, fun h0 => ⟨_, rfl, fun j hj => ?_⟩⟩
  obtain ⟨ad, e1, e2⟩ := hr.2.2 h0
  injection e1 with e1
  subst e1
  rw [← e2 j hj]
  have := cell_congr (h2.trans (Lib.bytesWorld_at_new W e s).symm)
  exact this _ (add_block _ _)
end Go.Proofs.Ytkkflgdobgbmmaa.Q
end
section
namespace Go.Proofs.Ytkkflgdobgbmmaa.Q
open Go.RowKit Go.Proofs.YtkkflgdobgbmmaaW.PrintWords Go.Proofs.YtkkflgdobgbmmaaW.PrintLast Go.Proofs.YtkkflgdobgbmmaaW.PrintMore
attribute [local go_sem] max2_int min2_int max_two min_two max_three min_three max_four min_four   -- for this text's walks alone
set_option linter.unusedVariables false
set_option linter.unusedSimpArgs false

/-! ### utf8_ValidRune: function 55 -/
def utf8_ValidRune.j0 : Nat → Int → Bool → Option (Bool)
  | 0, _, _ => none
  | k + 1, x0, x3 => if x3 = true then (some true) else (if 57343 < x0 then (if x0 ≤ 1114111 then (some true) else (some false)) else (some false))
def utf8_ValidRune.f (k : Nat) (a0 : Int) : Option (Bool) := if 0 ≤ a0 then (utf8_ValidRune.j0 k a0 (decide (a0 < 55296))) else (utf8_ValidRune.j0 k a0 false)
set_option maxHeartbeats 8000000 in
set_option maxRecDepth 100000 in
theorem utf8_ValidRune.calls (k : Nat) (a0 : Int) (r : Bool) (w : World) (h : utf8_ValidRune.f k a0 = some r) :
    Calls Try.prog 55 #[.int .i32 a0] w fun e w' => e = .returned (.bool r) ∧ Drawn0 w w' := by
  have H : (if 0 ≤ a0 then (utf8_ValidRune.j0 k a0 (decide (a0 < 55296))) else (utf8_ValidRune.j0 k a0 false)) = some r := h
  clear h
  have HC2 := Aside0.mk H
  clear H
  go_enter Try.func55, Try.ntmps55
  go_upto_region 1 with (fail)
  go_cut [3] (fun v3 wc => ∃ (kq : Nat) (x3_1 : Bool), v3 = .bool x3_1 ∧ Aside0 (utf8_ValidRune.j0 kq a0 x3_1 = some r) ∧ Aside0 (kq ≤ k) ∧ Drawn0 w wc)
  case first =>
    have H := HC2.out
    clear HC2
    by_cases c3 : 0 ≤ a0
    · rw [if_pos c3] at H
      have c3b0 : decide (0 ≤ a0) = true := decide_eq_true c3
      clear c3
      (first | rw [c3b0] | (simp only [i64_w, i32_w]; rw [c3b0]) | skip)
      have H' := Aside0.mk H
      clear H
      go_wp2
      go_meet
      case rel => exact ⟨_, (decide (a0 < 55296)), (by first | rfl | (simp; done) | (simp [*]; done)), H', ⟨by first | omega | exact Nat.le_refl _⟩, by repeat (first | exact Drawn0.refl _ | apply Drawn0.step)⟩
    · rw [if_neg c3] at H
      have c3b0 : decide (0 ≤ a0) = false := decide_eq_false c3
      clear c3
      (first | rw [c3b0] | (simp only [i64_w, i32_w]; rw [c3b0]) | skip)
      have H' := Aside0.mk H
      clear H
      go_wp2
      go_meet
      case rel => exact ⟨_, (false), (by first | rfl | (simp; done) | (simp [*]; done)), H', ⟨by first | omega | exact Nat.le_refl _⟩, by repeat (first | exact Drawn0.refl _ | apply Drawn0.step)⟩
  case rest =>
    clear HC2
    try clear p2
    try clear c3
    try clear c3b0
    obtain ⟨kq, x3_1, rfl, HA, HJ1, ⟨mc1, rfl⟩⟩ := hcut
    cases kq with
    | zero => exact absurd HA.out (by simp [utf8_ValidRune.j0])
    | succ kj1 =>
      have H := HA.out
      clear HA
      simp only [utf8_ValidRune.j0] at H
      by_cases c4 : x3_1 = true
      · subst c4
        have H1 : (some true) = some r := by rw [if_pos rfl] at H; exact H
        clear H
        have H := H1
        clear H1
        obtain rfl := Option.some.inj H
        go_wp2
        go_ret
        exact ⟨by first | rfl | (simp; done) | (simp [*]; done), by repeat (first | exact Drawn0.refl _ | apply Drawn0.step)⟩
      · replace c4 := Bool.eq_false_iff.mpr c4
        subst c4
        have H1 : (if 57343 < a0 then (if a0 ≤ 1114111 then (some true) else (some false)) else (some false)) = some r := by rw [if_neg (show ¬ (false = true) by decide)] at H; exact H
        clear H
        have H := H1
        clear H1
        by_cases c5 : 57343 < a0
        · rw [if_pos c5] at H
          have c5b0 : decide (57343 < a0) = true := decide_eq_true c5
          clear c5
          by_cases c6 : a0 ≤ 1114111
          · rw [if_pos c6] at H
            have c6b0 : decide (a0 ≤ 1114111) = true := decide_eq_true c6
            clear c6
            obtain rfl := Option.some.inj H
            go_wp2
            go_ret
            exact ⟨by first | rfl | (simp; done) | (simp [*]; done), by repeat (first | exact Drawn0.refl _ | apply Drawn0.step)⟩
          · rw [if_neg c6] at H
            have c6b0 : decide (a0 ≤ 1114111) = false := decide_eq_false c6
            clear c6
            obtain rfl := Option.some.inj H
            go_wp2
            go_ret
            exact ⟨by first | rfl | (simp; done) | (simp [*]; done), by repeat (first | exact Drawn0.refl _ | apply Drawn0.step)⟩
        · rw [if_neg c5] at H
          have c5b0 : decide (57343 < a0) = false := decide_eq_false c5
          clear c5
          obtain rfl := Option.some.inj H
          go_wp2
          go_ret
          exact ⟨by first | rfl | (simp; done) | (simp [*]; done), by repeat (first | exact Drawn0.refl _ | apply Drawn0.step)⟩

end Go.Proofs.Ytkkflgdobgbmmaa.Q
end
section
namespace Go.Proofs.Ytkkflgdobgbmmaa.Q
open Go.RowKit Go.Proofs.YtkkflgdobgbmmaaW.PrintWords Go.Proofs.YtkkflgdobgbmmaaW.PrintLast Go.Proofs.YtkkflgdobgbmmaaW.PrintMore
attribute [local go_sem] max2_int min2_int max_two min_two max_three min_three max_four min_four   -- for this text's walks alone
set_option linter.unusedVariables false
set_option linter.unusedSimpArgs false

/-! ### strings_shouldUseASCIISet: function 47 -/
def strings_shouldUseASCIISet.f (a0 : Int) : Option (Bool) := some (decide (a0 > 8))
set_option maxHeartbeats 8000000 in
set_option maxRecDepth 100000 in
theorem strings_shouldUseASCIISet.calls (a0 : Int) (r : Bool) (w : World) (h : strings_shouldUseASCIISet.f a0 = some r) :
    Calls Try.prog 47 #[.int .i64 a0] w fun e w' => e = .returned (.bool r) ∧ Drawn0 w w' := by
  have H : (some (decide (a0 > 8))) = some r := h
  clear h
  obtain rfl := Option.some.inj H
  go_enter Try.func47, Try.ntmps47
  go_wp2
  go_ret
  exact ⟨by first | rfl | (simp; done) | (simp [*]; done), by repeat (first | exact Drawn0.refl _ | apply Drawn0.step)⟩

end Go.Proofs.Ytkkflgdobgbmmaa.Q
end
section
/- strings.ContainsAny(s, "/" and a nought), s of any bytes. -/
namespace Go.Proofs.Ytkkflgdobgbmmaa.Q
open Go.RowKit Go.Proofs.YtkkflgdobgbmmaaW.PrintWords Go.Proofs.YtkkflgdobgbmmaaW.PrintLast Go.Proofs.YtkkflgdobgbmmaaW.PrintMore Go.Proofs.Ytkkflgdobgbmmaa.Pure
attribute [local go_sem] max2_int min2_int max_two min_two max_three min_three max_four min_four
set_option linter.unusedVariables false
set_option linter.unusedSimpArgs false
/-! what is decoded -/
theorem decode_spec (s : ByteArray) (pos : Nat) (h : pos < s.size) (hh : 128 ≤ (s[pos]'h).toNat) :
    1 ≤ (Utf8.decode s pos).2 ∧ pos + (Utf8.decode s pos).2 ≤ s.size ∧ ((Utf8.decode s pos).1 = 65533 ∨ (128 ≤ (Utf8.decode s pos).1 ∧ Utf8.valid (Utf8.decode s pos).1 = true)) ∧ ∀ k, k < (Utf8.decode s pos).2 → 128 ≤ (s.get! (pos + k)).toNat := by
  have hn : ¬ (s[pos]'h).toNat < 128 := by omega
  have h0 : 128 ≤ (s.get! (pos + 0)).toNat := by rw [get_at s pos h]; exact hh
  have one : 1 ≤ 1 ∧ pos + 1 ≤ s.size ∧ (65533 = 65533 ∨ (128 ≤ 65533 ∧ Utf8.valid ((65533 : Nat) : Int) = true)) ∧ ∀ k, k < 1 → 128 ≤ (s.get! (pos + k)).toNat :=
    ⟨Nat.le_refl _, by omega, .inl rfl, fun k hk => by
      have : k = 0 := by omega
      subst this
      exact h0⟩
  have hb1 := (s.get! (pos + 1)).toNat_lt
  have hb2 := (s.get! (pos + 2)).toNat_lt
  have hb3 := (s.get! (pos + 3)).toNat_lt
  simp only [Utf8.decode]
  rw [if_neg (by rw [get_at s pos h]; exact hn)]
  split
  · rename_i c1
    simp only [Bool.and_eq_true, beq_iff_eq, decide_eq_true_eq] at c1
    split
    · rename_i c2
      refine ⟨show 1 ≤ 2 by decide, by show pos + 2 ≤ s.size; omega, .inr ⟨c2, ?_⟩, fun k hk => ?_⟩
      · unfold Utf8.valid
        simp only [Bool.or_eq_true, Bool.and_eq_true, decide_eq_true_eq]
        left
        omega
      · have hk2 : k < 2 := hk
        rcases Nat.lt_or_ge k 1 with hk1 | hk1
        · have : k = 0 := by omega
          subst this
          exact h0
        · have : k = 1 := by omega
          subst this
          omega
    · exact one
  · split
    · rename_i c1
      simp only [Bool.and_eq_true, beq_iff_eq, decide_eq_true_eq] at c1
      split
      · rename_i c2
        simp only [Bool.and_eq_true, decide_eq_true_eq] at c2
        refine ⟨show 1 ≤ 3 by decide, by show pos + 3 ≤ s.size; omega, .inr ⟨by omega, c2.2⟩, fun k hk => ?_⟩
        have hk2 : k < 3 := hk
        rcases Nat.lt_or_ge k 1 with hk1 | hk1
        · have : k = 0 := by omega
          subst this
          exact h0
        · rcases Nat.lt_or_ge k 2 with hk3 | hk3
          · have : k = 1 := by omega
            subst this
            omega
          · have : k = 2 := by omega
            subst this
            omega
      · exact one
    · split
      · rename_i c1
        simp only [Bool.and_eq_true, beq_iff_eq, decide_eq_true_eq] at c1
        split
        · rename_i c2
          simp only [Bool.and_eq_true, decide_eq_true_eq] at c2
          refine ⟨show 1 ≤ 4 by decide, by show pos + 4 ≤ s.size; omega, .inr ⟨by omega, c2.2⟩, fun k hk => ?_⟩
          have hk2 : k < 4 := hk
          rcases Nat.lt_or_ge k 1 with hk1 | hk1
          · have : k = 0 := by omega
            subst this
            exact h0
          · rcases Nat.lt_or_ge k 2 with hk3 | hk3
            · have : k = 1 := by omega
              subst this
              omega
            · rcases Nat.lt_or_ge k 3 with hk4 | hk4
              · have : k = 2 := by omega
                subst this
                omega
              · have : k = 3 := by omega
                subst this
                omega
        · exact one
      · exact one
theorem encode_spec (r : Nat) (h : 128 ≤ r) (hv : Utf8.valid (r : Int) = true) : (∃ a b : UInt8, Utf8.encode (r : Int) = ⟨#[a, b]⟩ ∧ 128 ≤ b.toNat) ∨ (∃ a b c : UInt8, Utf8.encode (r : Int) = ⟨#[a, b, c]⟩) ∨ ∃ a b c d : UInt8, Utf8.encode (r : Int) = ⟨#[a, b, c, d]⟩ := by
  unfold Utf8.encode
  simp only [hv, if_true, Int.toNat_natCast]
  rw [if_neg (by omega)]
  split
  · exact .inl ⟨_, _, rfl, by rw [UInt8.toNat_ofNat']; omega⟩
  · split
    · exact .inr (.inl ⟨_, _, _, rfl⟩)
    · exact .inr (.inr ⟨_, _, _, _, rfl⟩)
def slashNull : ByteArray := ⟨#[47, 0]⟩
def badB (b : UInt8) : Bool := b == 47 || b == 0
/-! strings.IndexByte -/
set_option maxHeartbeats 1000000 in
theorem ixb.calls (s : ByteArray) (c : Int) (w : World) :
    Calls Try.prog 54 #[.string s, .int .u8 c] w fun e w' => e = .returned (.int .i64 (Lib.indexByte s.data.toList c.toNat.toUInt8)) ∧ w' = w := by
  go_enter Try.func54, Try.ntmps54
  go_wp2
  rw [run_callFunc_extern Try.func59 (by kernel_rfl) (by kernel_rfl) (by kernel_rfl) (e := Extern.BytealgIndexByte.indexByte) (by kernel_rfl), Lib.run_indexByteString]
  simp only [Result.andThen]
  rw [Oper.upon_value]
  go_wp2
  go_ret
  exact ⟨rfl, rfl⟩
theorem ixSN (c : UInt8) : Lib.indexByte slashNull.data.toList c = if c = 47 then 0 else if c = 0 then 1 else -1 := by
  unfold slashNull
  simp only [Lib.indexByte]
  by_cases h : c = 47
  · subst h; rfl
  · by_cases h2 : c = 0
    · subst h2; rfl
    · have e1 : ((47 : UInt8) == c) = false := beq_eq_false_iff_ne.mpr (fun e => h e.symm)
      have e2 : ((0 : UInt8) == c) = false := beq_eq_false_iff_ne.mpr (fun e => h2 e.symm)
      simp [e1, e2, h, h2]
/-! strings.IndexRune in these two bytes -/
set_option maxHeartbeats 2000000 in
set_option maxRecDepth 1000000 in
theorem ixrA.calls (b : UInt8) (hb : b.toNat < 128) (r : Int) (hr : (if b = 47 then 0 else if b = 0 then 1 else -1) = r) (w : World) :
    Calls Try.prog 46 #[.string slashNull, .int .i32 (b.toNat : Int)] w fun e w' => e = .returned (.int .i64 r) ∧ Below w.heap.size w w' := by
  have h1 : (0 : Int) ≤ (b.toNat : Int) := by omega
  have h2 : (b.toNat : Int) < 128 := by omega
  have hc : IntKind.u8.wrap (b.toNat : Int) = (b.toNat : Int) := by simp [IntKind.wrap, IntKind.bits, IntKind.signed]; omega
  have hback : ((b.toNat : Int)).toNat.toUInt8 = b := by simp
  have HX := Aside0.mk ((ixSN b).trans hr)
  clear hr
  go_enter Try.func46, Try.ntmps46
  go_wp2_with (go_at_call 54; refine (ixb.calls _ _ _).mono ?_; rintro e w' ⟨rfl, hw⟩; rw [hw, hback, HX.out])
  go_ret
  exact ⟨rfl, Below.refl _ _⟩
theorem below_iter (w : World) (s : ByteArray) (pos : Nat) : Below w.heap.size w (w.iter s pos) := below_alloc (Below.refl _ _) _
set_option maxHeartbeats 2000000 in
set_option maxRecDepth 1000000 in
theorem ixrE.calls (w : World) :
    Calls Try.prog 46 #[.string slashNull, .int .i32 65533] w fun e w' => e = .returned (.int .i64 (-1)) ∧ Below w.heap.size w w' := by
  go_enter Try.func46, Try.ntmps46
  go_wp2
  go_loopg [5, 6] 2 (fun g _ _ wx => ∃ i : Nat, i + g = 2 ∧ wx = w.iter slashNull i)
  case atStart => exact ⟨0, rfl, rfl⟩
  case round =>
    obtain ⟨i, hig, rfl⟩ := hrel
    cases gk with
    | zero =>
      obtain rfl : i = 2 := by omega
      have hnx := run_next_end (P := Try.prog) w slashNull 2
      have hd : ¬ (2 < slashNull.size) := by decide
      go_wp2
      go_ret
      exact ⟨rfl, below_iter _ _ _⟩
    | succ g =>
      have hi : i < slashNull.size := by show i < 2; omega
      have h128 : (slashNull[i]'hi).toNat < 128 := by
        rcases Nat.lt_or_ge i 1 with h | h
        · have : i = 0 := by omega
          subst this
          show (47 : UInt8).toNat < 128
          decide
        · have : i = 1 := by omega
          subst this
          show (0 : UInt8).toNat < 128
          decide
      have hnx := fun ty => run_next_ascii (P := Try.prog) w slashNull i ty hi h128
      obtain ⟨x, hx⟩ : ∃ x : UInt8, slashNull[i]'hi = x := ⟨_, rfl⟩
      rw [hx] at hnx h128
      have hne : (((x.toNat : Nat) : Int) == 65533) = false := beq_eq_false_iff_ne.mpr (by omega)
      clear hx
      go_wp2
      go_roundg g
      case measure => omega
      case rel => exact ⟨i + 1, by omega, rfl⟩
end Go.Proofs.Ytkkflgdobgbmmaa.Q
end
section
/- strings.IndexRune in these two bytes, at a rune of more than one byte. -/
namespace Go.Proofs.Ytkkflgdobgbmmaa.Q
open Go.RowKit Go.Proofs.YtkkflgdobgbmmaaW.PrintWords Go.Proofs.YtkkflgdobgbmmaaW.PrintLast Go.Proofs.YtkkflgdobgbmmaaW.PrintMore Go.Proofs.Ytkkflgdobgbmmaa.Pure
attribute [local go_sem] max2_int min2_int max_two min_two max_three min_three max_four min_four
set_option linter.unusedVariables false
set_option linter.unusedSimpArgs false
theorem validRune_ok (r : Nat) (hv : Utf8.valid (r : Int) = true) : utf8_ValidRune.f 3 (r : Int) = some true := by
  unfold Utf8.valid at hv
  simp only [Bool.or_eq_true, Bool.and_eq_true, decide_eq_true_eq] at hv
  unfold utf8_ValidRune.f
  rw [if_pos (by omega)]
  simp only [utf8_ValidRune.j0]
  by_cases c : (r : Int) < 55296
  · rw [decide_eq_true c, if_pos rfl]
  · rw [decide_eq_false c, if_neg (by decide), if_pos (by omega), if_pos (by omega)]
set_option maxHeartbeats 4000000 in
set_option maxRecDepth 1000000 in
theorem ixrV.calls (r : Nat) (h : 128 ≤ r) (hv : Utf8.valid (r : Int) = true) (hne : r ≠ 65533) (w : World) :
    Calls Try.prog 46 #[.string slashNull, .int .i32 (r : Int)] w fun e w' => e = .returned (.int .i64 (-1)) ∧ Below w.heap.size w w' := by
  have h1 : decide ((r : Int) < 128) = false := decide_eq_false (by omega)
  have h2 : ((r : Int) == 65533) = false := beq_eq_false_iff_ne.mpr (by omega)
  have h3 : decide ((0 : Int) ≤ (r : Int)) = true := decide_eq_true (by omega)
  have HV := Aside0.mk (validRune_ok r hv)
  rcases encode_spec r h hv with ⟨a, b, he, hb⟩ | ⟨a, b, c, he⟩ | ⟨a, b, c, d, he⟩
  · go_enter Try.func46, Try.ntmps46
    go_wp2_with (go_at_call 55; refine (utf8_ValidRune.calls 3 _ true _ HV.out).mono ?_; rintro e w' ⟨rfl, hw⟩)
    go_step3
    go_wp2
    have HB := Aside0.mk (hw.below)
    go_loopg [9] 0 (fun gk v9 w' => v9 = .int .i64 1 ∧ Aside0 (Below w.heap.size w w'))
    case atStart => exact ⟨rfl, HB⟩
    case round =>
      clear HB
      obtain ⟨rfl, HB⟩ := hrel
      have HB6 := Aside0.mk (show ¬ bt slashNull 1 = bt ⟨#[a, b]⟩ 1 from by
        have e1 : bt slashNull 1 = 0 := by decide
        have e2 : bt ⟨#[a, b]⟩ 1 = (b.toNat : Int) := rfl
        rw [e1, e2]; omega)
      have d1 : decide ((1 : Int) < (slashNull.size : Int)) = true := by decide
      go_wp2
      go_step3
      refine wp_seq ?_
      refine wp_seq ?_
      refine mono_region (T := _) (B := [0, 0, 3, 0, 0, 24, 63]) (n := 7) [(0, 27, VP.is (Value.string slashNull)), (1, 28, VP.is (Value.int .i64 1)), (2, 29, VP.is (Value.int .u8 (bt slashNull 1))), (3, 30, VP.is (Value.string ⟨#[a, b]⟩)), (4, 31, VP.is (Value.int .i64 1)), (5, 32, VP.is (Value.int .u8 (bt ⟨#[a, b]⟩ 1))), (6, 33, VP.is (Value.bool true))] rfl (by kernel_rfl) (by kernel_rfl) rfl (by kernel_rfl) (by kernel_rfl) (by kernel_rfl) (by kernel_rfl) (by kernel_rfl) ?_ ?_
      · refine ms_cons ?_ <| ms_cons ?_ <| ms_cons ?_ <| ms_cons ?_ <| ms_cons ?_ <| ms_cons ?_ <| ms_cons ?_ <| ms_nil
        · intro act_ w' H
          have e0 := H.tmp (t := 0) rfl (by kernel_rfl)
          have ev0 := eval_of e0
          refine ms_val rfl rfl rfl (Value.string slashNull) w' ?_ (Below.refl _ _) rfl
          · go_simp
            try rfl
        · intro act_ w' H
          have e9 := H.tmp (t := 9) rfl (by kernel_rfl)
          have ev9 := eval_of e9
          refine ms_val rfl rfl rfl (Value.int .i64 1) w' ?_ (Below.refl _ _) rfl
          · go_simp
            try rfl
        · intro act_ w' H
          obtain ⟨_, e27, rfl⟩ := H.on 0 rfl (by kernel_rfl)
          have ev27 := eval_of e27
          obtain ⟨_, e28, rfl⟩ := H.on 1 rfl (by kernel_rfl)
          have ev28 := eval_of e28
          have hrun := run_index_bt (P := Try.prog) w' 9 slashNull .i64 1 Try.underlying9 (by decide) (by decide)
          refine ms_val rfl rfl rfl (Value.int .u8 (bt slashNull 1)) w' ?_ (Below.refl _ _) rfl
          · go_simp
            try rfl
        · intro act_ w' H
          have e7 := H.tmp (t := 7) rfl (by kernel_rfl)
          have ev7 := eval_of e7
          refine ms_val rfl rfl rfl (Value.string ⟨#[a, b]⟩) w' ?_ (Below.refl _ _) rfl
          · go_simp
            try rfl
        · intro act_ w' H
          have e8 := H.tmp (t := 8) rfl (by kernel_rfl)
          have ev8 := eval_of e8
          refine ms_val rfl rfl rfl (Value.int .i64 1) w' ?_ (Below.refl _ _) rfl
          · go_simp
            try rfl
        · intro act_ w' H
          obtain ⟨_, e30, rfl⟩ := H.on 3 rfl (by kernel_rfl)
          have ev30 := eval_of e30
          obtain ⟨_, e31, rfl⟩ := H.on 4 rfl (by kernel_rfl)
          have ev31 := eval_of e31
          have hrun := run_index_bt (P := Try.prog) w' 9 ⟨#[a, b]⟩ .i64 1 Try.underlying9 (by decide) (by show (1 : Int) < 2; decide)
          refine ms_val rfl rfl rfl (Value.int .u8 (bt ⟨#[a, b]⟩ 1)) w' ?_ (Below.refl _ _) rfl
          · go_simp
            try rfl
        · intro act_ w' H
          obtain ⟨_, e29, rfl⟩ := H.on 2 rfl (by kernel_rfl)
          have ev29 := eval_of e29
          obtain ⟨_, e32, rfl⟩ := H.on 5 rfl (by kernel_rfl)
          have ev32 := eval_of e32
          have hb6 := HB6.out
          refine ms_val rfl rfl rfl (Value.bool true) w' ?_ (Below.refl _ _) rfl
          · go_simp
            try rfl
      intro w2 hb2
      rintro _ rfl _ rfl _ rfl _ rfl _ rfl _ rfl _ rfl
      simp only [Ends, Act.put, List.setIfInBounds_toArray, List.set_cons_zero, List.set_cons_succ]
      have n0_ := Aside0.mk (HB.out.trans (hb2.mono HB.out.size))
      clear HB hb2
      have HB := n0_
      clear n0_
      have HIX := Aside0.mk (show Lib.indexByte (ByteArray.empty).data.toList (bt ⟨#[a, b]⟩ 1).toNat.toUInt8 = -1 from rfl)
      go_wp2
      refine mono_region (T := _) (B := [0, 0, 2, 7, 0, 0, 48, 127, 255]) (n := 9) [(0, 34, VP.is (Value.string slashNull)), (1, 35, VP.is (Value.int .i64 1)), (2, 36, VP.is (Value.int .i64 2)), (3, 37, VP.is (Value.string ByteArray.empty)), (4, 38, VP.is (Value.string ⟨#[a, b]⟩)), (5, 39, VP.is (Value.int .i64 1)), (6, 40, VP.is (Value.int .u8 (bt ⟨#[a, b]⟩ 1))), (7, 41, VP.is (Value.int .i64 (-1))), (8, 11, VP.is (Value.int .i64 (-1)))] rfl (by kernel_rfl) (by kernel_rfl) rfl (by kernel_rfl) (by kernel_rfl) (by kernel_rfl) (by kernel_rfl) (by kernel_rfl) ?_ ?_
      · refine ms_cons ?_ <| ms_cons ?_ <| ms_cons ?_ <| ms_cons ?_ <| ms_cons ?_ <| ms_cons ?_ <| ms_cons ?_ <| ms_cons ?_ <| ms_cons ?_ <| ms_nil
        · intro act_ w' H
          have e0 := H.tmp (t := 0) rfl (by kernel_rfl)
          have ev0 := eval_of e0
          refine ms_val rfl rfl rfl (Value.string slashNull) w' ?_ (Below.refl _ _) rfl
          · go_simp
            try rfl
        · intro act_ w' H
          have e9 := H.tmp (t := 9) rfl (by kernel_rfl)
          have ev9 := eval_of e9
          refine ms_val rfl rfl rfl (Value.int .i64 1) w' ?_ (Below.refl _ _) rfl
          · go_simp
            try rfl
        · intro act_ w' H
          obtain ⟨_, e35, rfl⟩ := H.on 1 rfl (by kernel_rfl)
          have ev35 := eval_of e35
          refine ms_val rfl rfl rfl (Value.int .i64 2) w' ?_ (Below.refl _ _) rfl
          · go_simp
            try rfl
        · intro act_ w' H
          obtain ⟨_, e34, rfl⟩ := H.on 0 rfl (by kernel_rfl)
          have ev34 := eval_of e34
          obtain ⟨_, e36, rfl⟩ := H.on 2 rfl (by kernel_rfl)
          have ev36 := eval_of e36
          refine ms_val rfl rfl rfl (Value.string ByteArray.empty) w' ?_ (Below.refl _ _) rfl
          · go_simp
            try rfl
        · intro act_ w' H
          have e7 := H.tmp (t := 7) rfl (by kernel_rfl)
          have ev7 := eval_of e7
          refine ms_val rfl rfl rfl (Value.string ⟨#[a, b]⟩) w' ?_ (Below.refl _ _) rfl
          · go_simp
            try rfl
        · intro act_ w' H
          have e8 := H.tmp (t := 8) rfl (by kernel_rfl)
          have ev8 := eval_of e8
          refine ms_val rfl rfl rfl (Value.int .i64 1) w' ?_ (Below.refl _ _) rfl
          · go_simp
            try rfl
        · intro act_ w' H
          obtain ⟨_, e38, rfl⟩ := H.on 4 rfl (by kernel_rfl)
          have ev38 := eval_of e38
          obtain ⟨_, e39, rfl⟩ := H.on 5 rfl (by kernel_rfl)
          have ev39 := eval_of e39
          have hrun := run_index_bt (P := Try.prog) w' 9 ⟨#[a, b]⟩ .i64 1 Try.underlying9 (by decide) (by show (1 : Int) < 2; decide)
          refine ms_val rfl rfl rfl (Value.int .u8 (bt ⟨#[a, b]⟩ 1)) w' ?_ (Below.refl _ _) rfl
          · go_simp
            try rfl
        · intro act_ w' H
          obtain ⟨_, e37, rfl⟩ := H.on 3 rfl (by kernel_rfl)
          have ev37 := eval_of e37
          obtain ⟨_, e40, rfl⟩ := H.on 6 rfl (by kernel_rfl)
          have ev40 := eval_of e40
          exact ms_call rfl rfl rfl Try.func54 (by kernel_rfl) rfl #[.string ByteArray.empty, .int .u8 (bt ⟨#[a, b]⟩ 1)] rfl (by simp [ev37, ev40]) ((ixb.calls _ _ _).mono fun e w1 h => ⟨_, h.1.trans (by rw [HIX.out]), by rw [h.2]; exact Below.refl _ _, rfl⟩)
        · intro act_ w' H
          obtain ⟨_, e41, rfl⟩ := H.on 7 rfl (by kernel_rfl)
          have ev41 := eval_of e41
          refine ms_val rfl rfl rfl (Value.int .i64 (-1)) w' ?_ (Below.refl _ _) rfl
          · go_simp
            try rfl
      intro w3 hb3
      rintro _ rfl _ rfl _ rfl _ rfl _ rfl _ rfl _ rfl _ rfl _ rfl
      simp only [Ends, Act.put, List.setIfInBounds_toArray, List.set_cons_zero, List.set_cons_succ]
      have n0_ := Aside0.mk (HB.out.trans (hb3.mono HB.out.size))
      clear HB hb3
      have HB := n0_
      clear n0_
      go_wp2
      simp only [Exit.noGoto, Exit.inBlock, Exit.then]
      go_ret
      exact ⟨rfl, HB.out⟩
  · go_enter Try.func46, Try.ntmps46
    go_wp2_with (go_at_call 55; refine (utf8_ValidRune.calls 3 _ true _ HV.out).mono ?_; rintro e w' ⟨rfl, hw⟩)
    go_step3
    go_wp2
    have HB := Aside0.mk (hw.below)
    go_loopg [9] 0 (fun gk v9 w' => v9 = .int .i64 2 ∧ Aside0 (Below w.heap.size w w'))
    case atStart => exact ⟨rfl, HB⟩
    case round =>
      clear HB
      obtain ⟨rfl, HB⟩ := hrel
      have d1 : decide ((2 : Int) < (slashNull.size : Int)) = false := by decide
      go_wp2
      repeat rw [Exit.noGoto_ret]
      go_ret
      exact ⟨rfl, HB.out⟩
  · go_enter Try.func46, Try.ntmps46
    go_wp2_with (go_at_call 55; refine (utf8_ValidRune.calls 3 _ true _ HV.out).mono ?_; rintro e w' ⟨rfl, hw⟩)
    go_step3
    go_wp2
    have HB := Aside0.mk (hw.below)
    go_loopg [9] 0 (fun gk v9 w' => v9 = .int .i64 3 ∧ Aside0 (Below w.heap.size w w'))
    case atStart => exact ⟨rfl, HB⟩
    case round =>
      clear HB
      obtain ⟨rfl, HB⟩ := hrel
      have d1 : decide ((3 : Int) < (slashNull.size : Int)) = false := by decide
      go_wp2
      repeat rw [Exit.noGoto_ret]
      go_ret
      exact ⟨rfl, HB.out⟩
end Go.Proofs.Ytkkflgdobgbmmaa.Q
end
section
/- strings.IndexAny, the long road, at these two bytes: the shelf's proof, laid in plain words. -/
namespace Go.Proofs.Ytkkflgdobgbmmaa.Q
open Go.RowKit Go.Shelf Go.Proofs.YtkkflgdobgbmmaaW.PrintWords Go.Proofs.YtkkflgdobgbmmaaW.PrintLast Go.Proofs.YtkkflgdobgbmmaaW.PrintMore Go.Proofs.Ytkkflgdobgbmmaa.Pure
def lays153_ren : Go.Shelf.Ren := ⟨fun | 153 => 38 | 152 => 46 | 226 => 47 | 227 => 48 | 228 => 49 | 137 => 54 | 119 => 55 | 224 => 56 | 225 => 57 | 217 => 58 | 266 => 59 | n => n, fun | 9 => 9 | 3 => 3 | 4 => 4 | 5 => 5 | 21 => 21 | 117 => 86 | 116 => 85 | 0 => 0 | 46 => 91 | 124 => 96 | n => n, fun | n => n⟩
theorem lays153 : Go.Proofs.Lays.n153 Try.prog lays153_ren where
  mixed := by kernel_rfl
  f119 := Try.func55.trans (congrArg some (by kernel_rfl))
  f137 := Try.func54.trans (congrArg some (by kernel_rfl))
  f152 := Try.func46.trans (congrArg some (by kernel_rfl))
  f153 := Try.func38.trans (congrArg some (by kernel_rfl))
  f217 := Try.func58.trans (congrArg some (by kernel_rfl))
  f224 := Try.func56.trans (congrArg some (by kernel_rfl))
  f225 := Try.func57.trans (congrArg some (by kernel_rfl))
  f226 := Try.func47.trans (congrArg some (by kernel_rfl))
  f227 := Try.func48.trans (congrArg some (by kernel_rfl))
  f228 := Try.func49.trans (congrArg some (by kernel_rfl))
  f266 := Try.func59.trans (congrArg some (by kernel_rfl))
  t0 := Try.underlying0
  a0 := Try.isAgg0
  z0 := Try.sizeOf0
  v0 := Try.zeroValue0
  t3 := Try.underlying3
  a3 := Try.isAgg3
  z3 := Try.sizeOf3
  v3 := Try.zeroValue3
  t4 := Try.underlying4
  a4 := Try.isAgg4
  z4 := Try.sizeOf4
  v4 := Try.zeroValue4
  t5 := Try.underlying5
  a5 := Try.isAgg5
  z5 := Try.sizeOf5
  v5 := Try.zeroValue5
  t9 := Try.underlying9
  a9 := Try.isAgg9
  z9 := Try.sizeOf9
  v9 := Try.zeroValue9
  t21 := Try.underlying21
  a21 := Try.isAgg21
  z21 := Try.sizeOf21
  v21 := Try.zeroValue21
  t46 := Try.underlying91
  a46 := Try.isAgg91
  z46 := Try.sizeOf91
  v46 := Try.zeroValue91
  t116 := Try.underlying85
  a116 := Try.isAgg85
  z116 := Try.sizeOf85
  t117 := Try.underlying86
  a117 := Try.isAgg86
  z117 := Try.sizeOf86
  v117 := Try.zeroValue86
  t124 := Try.underlying96
  a124 := Try.isAgg96
  z124 := Try.sizeOf96
  v124 := Try.zeroValue96
theorem set153 : (Try.prog.info? (lays153_ren.t 116)).map (fun i => (i.zero, i.size)) = some (some (.agg (Array.replicate 256 (.bool false))), 256) := by kernel_rfl
theorem slash_ascii : ∀ (j : Nat) b, slashNull.data.toList[j]? = some b → b.toNat < 128 := fun j b hb => by
  match j, hb with
  | 0, hb => injection hb with hb; subst hb; decide
  | 1, hb => injection hb with hb; subst hb; decide
theorem ixyL.calls (s : ByteArray) (h8 : 8 < s.size) (hs : s.size ≤ 200) (w : World) :
    Calls Try.prog 38 #[.string s, .string slashNull] w fun e w' => e = .returned (.int .i64 (Lib.indexAny s.data.toList slashNull.data.toList)) ∧ Below w.heap.size w w' :=
  (Any.strings_IndexAny_long lays153 (zero_of_info set153).1 (zero_of_info set153).2 s slashNull w (by decide) h8 (by omega) (by decide) slash_ascii).mono fun e w' h => ⟨h.1, by rw [h.2]; exact below_alloc (below_alloc (Below.refl _ _) _) _⟩
end Go.Proofs.Ytkkflgdobgbmmaa.Q
end
section
/- strings.IndexAny (both roads) and strings.ContainsAny, at these two bytes. -/
namespace Go.Proofs.Ytkkflgdobgbmmaa.Q
open Go.RowKit Go.Lib Go.Proofs.YtkkflgdobgbmmaaW.PrintWords Go.Proofs.YtkkflgdobgbmmaaW.PrintLast Go.Proofs.YtkkflgdobgbmmaaW.PrintMore Go.Proofs.Ytkkflgdobgbmmaa.Pure
attribute [local go_sem] max2_int min2_int max_two min_two max_three min_three max_four min_four
set_option linter.unusedVariables false
set_option linter.unusedSimpArgs false
theorem contains_slash (x : UInt8) : slashNull.data.toList.contains x = badB x := by
  show [(47 : UInt8), 0].contains x = badB x
  unfold badB
  by_cases h : x = 47
  · subst h; rfl
  · by_cases h2 : x = 0
    · subst h2; rfl
    · simp [h, h2]
theorem noAny_run {s : ByteArray} {i n : Nat} (h : Lib.NoAny s.data.toList slashNull.data.toList i) (hn : i + n ≤ s.size) (hb : ∀ k, k < n → 128 ≤ (s.get! (i + k)).toNat) : Lib.NoAny s.data.toList slashNull.data.toList (i + n) := by
  intro j b hj hx
  rcases Nat.lt_or_ge j i with hlt | hge
  · exact h j b hlt hx
  · have hk := hb (j - i) (by omega)
    rw [show i + (j - i) = j by omega] at hk
    have hjs : j < s.size := by omega
    have e2 := Lib.data_getElem? s j hjs
    rw [hx] at e2
    injection e2 with e2
    have hk : 128 ≤ (s.get! (j + 0)).toNat := hk
    rw [get_at s j hjs, ← e2] at hk
    rw [contains_slash]
    unfold badB
    rw [beq_eq_false_iff_ne.mpr (fun e => by rw [e] at hk; exact absurd hk (by decide)), beq_eq_false_iff_ne.mpr (fun e => by rw [e] at hk; exact absurd hk (by decide))]
    rfl
set_option maxHeartbeats 4000000 in
set_option maxRecDepth 1000000 in
theorem ixyS.calls (s : ByteArray) (h8 : s.size ≤ 8) (w : World) :
    Calls Try.prog 38 #[.string s, .string slashNull] w fun e w' => e = .returned (.int .i64 (Lib.indexAny s.data.toList slashNull.data.toList)) ∧ Below w.heap.size w w' := by
  have hemp : slashNull.toList.isEmpty = false := by
    rw [Lib.toList_data]
    rfl
  have hn1 : ((slashNull.size : Int) == 1) = false := by decide
  have HS := Aside0.mk (show strings_shouldUseASCIISet.f (s.size : Int) = some false by unfold strings_shouldUseASCIISet.f; rw [decide_eq_false (by omega)])
  have H0 := Aside0.mk (Lib.NoAny.zero s.data.toList slashNull.data.toList)
  go_enter Try.func38, Try.ntmps38
  go_wp2_with (go_at_call 47; refine (strings_shouldUseASCIISet.calls _ false _ HS.out).mono ?_; rintro e w' ⟨rfl, hw⟩)
  have hst : ∃ wx, w'.iter s 0 = wx ∧ wx.heap[w'.heap.size]? = some (.stringIter s 0) ∧ Below w.heap.size w wx := ⟨_, rfl, World.iter_heap w' s 0, hw.below.trans ((below_iter w' s 0).mono hw.below.size)⟩
  have hle : w.heap.size ≤ w'.heap.size := hw.below.size
  clear hw HS
  obtain ⟨k, hk⟩ : ∃ k, w'.heap.size = k := ⟨_, rfl⟩
  rw [hk] at hst hle ⊢
  obtain ⟨wx, hwx, hit, hbx⟩ := hst
  rw [hwx]
  clear hwx hk
  have HIT := Aside0.mk (And.intro hit hbx)
  clear hit hbx
  go_loopg [9, 10] s.size (fun g _ _ wx => ∃ i : Nat, i + g = s.size ∧ Aside0 (wx.heap[k]? = some (.stringIter s i) ∧ Below w.heap.size w wx) ∧ Aside0 (Lib.NoAny s.data.toList slashNull.data.toList i))
  case atStart => exact ⟨0, by omega, HIT, H0⟩
  case round =>
    clear HIT H0
    obtain ⟨i, hig, HIT, HN⟩ := hrel
    cases gk with
    | zero =>
      obtain rfl : i = s.size := by omega
      have hnx := fun ty => run_next_end_at (P := Try.prog) _ k s s.size ty HIT.out.1 (by omega)
      go_wp2
      go_ret
      exact ⟨by rw [Lib.indexAny_none (by rw [← Lib.size_eq]; exact HN.out)]; rfl, HIT.out.2⟩
    | succ g =>
      have hi : i < s.size := by omega
      obtain ⟨x, hx⟩ : ∃ x : UInt8, s[i]'hi = x := ⟨_, rfl⟩
      have hxl : s.data.toList[i]? = some x := by rw [← hx]; exact Lib.data_getElem? s i hi
      have Hx := Aside0.mk hxl
      clear hxl
      rcases Nat.lt_or_ge x.toNat 128 with ha | ha
      · have hnx := fun ty => run_next_ascii_at (P := Try.prog) _ k s i ty HIT.out.1 hi (by rw [hx]; exact ha)
        rw [hx] at hnx
        have hi1 := iterAt_heap _ k s i (i + 1) HIT.out.1
        have hb1 := below_iterAt HIT.out.2 hle s (i + 1)
        have HI1 := Aside0.mk (And.intro hi1 hb1)
        clear hx hi1 hb1 HIT
        cases hin : slashNull.data.toList.contains x
        · have HX := Aside0.mk (show (if x = 47 then 0 else if x = 0 then 1 else -1) = (-1 : Int) by
            rw [contains_slash] at hin
            unfold badB at hin
            have h1 : ¬ x = 47 := fun e => by subst e; exact absurd hin (by decide)
            have h2 : ¬ x = 0 := fun e => by subst e; exact absurd hin (by decide)
            rw [if_neg h1, if_neg h2])
          have HNN := Aside0.mk (HN.out.succ Hx.out hin)
          clear HN hin
          go_wp2_with (go_at_call 46; refine (ixrA.calls x ha _ HX.out _).mono ?_; rintro e w2 ⟨rfl, hw2⟩)
          have HI2 := Aside0.mk (And.intro ((hw2.block k (Array.getElem?_eq_some_iff.1 HI1.out.1).1).trans HI1.out.1) (HI1.out.2.trans (hw2.mono HI1.out.2.size)))
          go_roundg g
          case measure => omega
          case rel => exact ⟨i + 1, by omega, HI2, HNN⟩
        · have HX := Aside0.mk (show (0 : Int) ≤ (if x = 47 then 0 else if x = 0 then 1 else -1) by
            rw [contains_slash] at hin
            by_cases h1 : x = 47
            · rw [if_pos h1]; decide
            · by_cases h2 : x = 0
              · rw [if_neg h1, if_pos h2]; decide
              · unfold badB at hin
                rw [beq_eq_false_iff_ne.mpr h1, beq_eq_false_iff_ne.mpr h2] at hin
                exact absurd hin (by decide))
          obtain ⟨q, hq⟩ : ∃ q : Int, (if x = 47 then 0 else if x = 0 then 1 else -1) = q := ⟨_, rfl⟩
          have HQ := Aside0.mk hq
          have hq0 : (0 : Int) ≤ q := by rw [← hq]; exact HX.out
          have hqd : decide ((0 : Int) ≤ q) = true := decide_eq_true hq0
          have HH := Aside0.mk (Lib.indexAny_hit HN.out Hx.out hin)
          clear HN hin HX hq hq0
          go_wp2_with (go_at_call 46; refine (ixrA.calls x ha _ HQ.out _).mono ?_; rintro e w2 ⟨rfl, hw2⟩)
          go_ret
          exact ⟨by rw [HH.out]; rfl, HI1.out.2.trans (hw2.mono HI1.out.2.size)⟩
      · obtain ⟨c1, c2, c3, c4⟩ := decode_spec s i hi (by rw [hx]; exact ha)
        have hnx := fun ty => run_next_any_at (P := Try.prog) _ k s i ty HIT.out.1 hi
        have hcl : ∀ W : World, Calls Try.prog 46 #[.string slashNull, .int .i32 ((Utf8.decode s i).1 : Int)] W fun e w' => e = .returned (.int .i64 (-1)) ∧ Below W.heap.size W w' := fun W => by
          by_cases h3 : (Utf8.decode s i).1 = 65533
          · rw [h3]; exact ixrE.calls W
          · rcases c3 with c3 | ⟨c3, c5⟩
            · exact absurd c3 h3
            · exact ixrV.calls _ c3 c5 h3 W
        have HNN := Aside0.mk (noAny_run HN.out c2 c4)
        obtain ⟨n, hn⟩ : ∃ n, (Utf8.decode s i).2 = n := ⟨_, rfl⟩
        obtain ⟨v, hv⟩ : ∃ v : Int, ((Utf8.decode s i).1 : Int) = v := ⟨_, rfl⟩
        rw [hn] at c1 c2 HNN hnx
        rw [hv] at hcl hnx
        have HCL := Aside0.mk hcl
        have hi1 := iterAt_heap _ k s i (i + n) HIT.out.1
        have hb1 := below_iterAt HIT.out.2 hle s (i + n)
        have HI1 := Aside0.mk (And.intro hi1 hb1)
        clear hx hi1 hb1 HIT hn hv hcl c3 c4 HN
        go_wp2_with (go_at_call 46; refine (HCL.out _).mono ?_; rintro e w2 ⟨rfl, hw2⟩)
        have HI2 := Aside0.mk (And.intro ((hw2.block k (Array.getElem?_eq_some_iff.1 HI1.out.1).1).trans HI1.out.1) (HI1.out.2.trans (hw2.mono HI1.out.2.size)))
        go_roundg (s.size - (i + n))
        case measure => omega
        case rel => exact ⟨i + n, by omega, HI2, HNN⟩
theorem ixy.calls (s : ByteArray) (hs : s.size ≤ 200) (w : World) :
    Calls Try.prog 38 #[.string s, .string slashNull] w fun e w' => e = .returned (.int .i64 (Lib.indexAny s.data.toList slashNull.data.toList)) ∧ Below w.heap.size w w' := by
  rcases Nat.lt_or_ge 8 s.size with h | h
  · exact ixyL.calls s h hs w
  · exact ixyS.calls s h w
theorem indexAny_bad : ∀ l : List UInt8, decide ((0 : Int) ≤ Lib.indexAny l slashNull.data.toList) = l.any badB
  | [] => rfl
  | b :: l => by
    have ih := indexAny_bad l
    have hge := Lib.indexAny_ge slashNull.data.toList l
    rw [Lib.indexAny, List.any_cons, contains_slash]
    cases hb : badB b
    · rw [if_neg (by decide), Bool.false_or, ← ih]
      by_cases h : Lib.indexAny l slashNull.data.toList = -1
      · rw [h]; rfl
      · rw [beq_eq_false_iff_ne.mpr h, if_neg (by decide)]
        rw [decide_eq_true (by omega), decide_eq_true (by omega)]
    · rfl
set_option maxHeartbeats 4000000 in
/-- strings.ContainsAny of these two bytes. -/
theorem cany.calls (s : ByteArray) (hs : s.size ≤ 200) (w : World) :
    Calls Try.prog 24 #[.string s, .string slashNull] w fun e w' => e = .returned (.bool (s.data.toList.any badB)) ∧ Below w.heap.size w w' := by
  have HB := Aside0.mk (indexAny_bad s.data.toList)
  obtain ⟨q, hq⟩ : ∃ q : Int, Lib.indexAny s.data.toList slashNull.data.toList = q := ⟨_, rfl⟩
  have HC := Aside0.mk (ixy.calls s hs w)
  rw [hq] at HB HC
  clear hq
  go_enter Try.func24, Try.ntmps24
  go_wp2_with (go_at_call 38; refine HC.out.mono ?_; rintro e w2 ⟨rfl, hw2⟩)
  go_ret
  exact ⟨by rw [← HB.out]; rfl, hw2⟩
end Go.Proofs.Ytkkflgdobgbmmaa.Q
end
section
namespace Go.Proofs.Ytkkflgdobgbmmaa.Q
open Go.RowKit Go.Proofs.YtkkflgdobgbmmaaW.PrintWords Go.Proofs.YtkkflgdobgbmmaaW.PrintLast Go.Proofs.YtkkflgdobgbmmaaW.PrintMore
attribute [local go_sem] max2_int min2_int max_two min_two max_three min_three max_four min_four   -- for this text's walks alone
set_option linter.unusedVariables false
set_option linter.unusedSimpArgs false

-- EXT strings_ContainsAny: function 24
/-! ### strings_ContainsAny: function 24 -/
-- IMPORT HAnyS
def strings_ContainsAny.f (a0 a1 : ByteArray) : Option Bool := if a0.size ≤ 200 ∧ a1 = ⟨#[47, 0]⟩ then some (a0.data.toList.any badB) else none
theorem strings_ContainsAny.calls (a0 a1 : ByteArray) (r : Bool) (w : World) (h : strings_ContainsAny.f a0 a1 = some r) :
    Calls Try.prog 24 #[.string a0, .string a1] w fun e w' => e = .returned (.bool r) ∧ Below w.heap.size w w' := by
  unfold strings_ContainsAny.f at h
  split at h
  · rename_i c
    injection h with h
    subst h
    rw [c.2]
    exact cany.calls a0 c.1 w
  · cases h

end Go.Proofs.Ytkkflgdobgbmmaa.Q
end
section
namespace Go.Proofs.Ytkkflgdobgbmmaa.Q
open Go.RowKit Go.Proofs.YtkkflgdobgbmmaaW.PrintWords Go.Proofs.YtkkflgdobgbmmaaW.PrintLast Go.Proofs.YtkkflgdobgbmmaaW.PrintMore
attribute [local go_sem] max2_int min2_int max_two min_two max_three min_three max_four min_four   -- for this text's walks alone
set_option linter.unusedVariables false
set_option linter.unusedSimpArgs false

/-! ### entries_Check: function 10 -/
def entries_Check.f (a0 : ByteArray) : Option (Int) := if (a0.size : Int) < 1 then (some 26) else (if (a0.size : Int) > 24 then (some 26) else ((strings_ContainsAny.f a0 (⟨#[47, 0]⟩ : ByteArray)).bind fun t101 => (if t101 = true then (some 26) else (if a0.toList = ([46] : List UInt8) then (some 26) else (if a0.toList = ([46, 46] : List UInt8) then (some 26) else (some 0))))))
set_option maxHeartbeats 8000000 in
set_option maxRecDepth 100000 in
theorem entries_Check.calls (a0 : ByteArray) (r : Int) (w : World) (h : entries_Check.f a0 = some r) :
    Calls Try.prog 10 #[.string a0] w fun e w' => e = .returned (.int .i64 r) ∧ Below w.heap.size w w' := by
  have HB := Aside0.mk (Below.refl w.heap.size w)
  have H : (if (a0.size : Int) < 1 then (some 26) else (if (a0.size : Int) > 24 then (some 26) else ((strings_ContainsAny.f a0 (⟨#[47, 0]⟩ : ByteArray)).bind fun t101 => (if t101 = true then (some 26) else (if a0.toList = ([46] : List UInt8) then (some 26) else (if a0.toList = ([46, 46] : List UInt8) then (some 26) else (some 0))))))) = some r := h
  clear h
  by_cases c2 : (a0.size : Int) < 1
  · rw [if_pos c2] at H
    have c2b0 : decide ((a0.size : Int) < 1) = true := decide_eq_true c2
    have c2b1 : decide (a0.size < 1) = true := decide_eq_true (by omega)
    clear c2
    obtain rfl := Option.some.inj H
    go_enter Try.func10, Try.ntmps10
    go_wp2
    go_ret
    exact ⟨by first | rfl | (simp [errW_none, errW_some] <;> rfl) | (simp [*, errW_none, errW_some] <;> rfl), by repeat (first | (with_reducible first | exact HB.out | apply below_alloc | apply pw_below_drewN | apply below_drew1) | exact HB.out)⟩
  · rw [if_neg c2] at H
    have c2b0 : decide ((a0.size : Int) < 1) = false := decide_eq_false c2
    have c2b1 : decide (a0.size < 1) = false := decide_eq_false (by omega)
    clear c2
    by_cases c3 : (a0.size : Int) > 24
    · rw [if_pos c3] at H
      have c3b0 : decide (24 < (a0.size : Int)) = true := decide_eq_true c3
      have c3b1 : decide (24 < a0.size) = true := decide_eq_true (by omega)
      clear c3
      obtain rfl := Option.some.inj H
      go_enter Try.func10, Try.ntmps10
      go_wp2
      go_ret
      exact ⟨by first | rfl | (simp [errW_none, errW_some] <;> rfl) | (simp [*, errW_none, errW_some] <;> rfl), by repeat (first | (with_reducible first | exact HB.out | apply below_alloc | apply pw_below_drewN | apply below_drew1) | exact HB.out)⟩
    · rw [if_neg c3] at H
      have c3b0 : decide (24 < (a0.size : Int)) = false := decide_eq_false c3
      have c3b1 : decide (24 < a0.size) = false := decide_eq_false (by omega)
      clear c3
      replace H := Option.bind_eq_some_iff.mp H
      obtain ⟨t101, A40, H⟩ := H
      replace H : (if t101 = true then (some 26) else (if a0.toList = ([46] : List UInt8) then (some 26) else (if a0.toList = ([46, 46] : List UInt8) then (some 26) else (some 0)))) = some r := H
      have A4 := Aside0.mk A40
      clear A40
      by_cases c5 : t101 = true
      · subst c5
        have H1 : (some 26) = some r := by rw [if_pos rfl] at H; exact H
        clear H
        have H := H1
        clear H1
        obtain rfl := Option.some.inj H
        go_enter Try.func10, Try.ntmps10
        go_wp2_with (first | (go_at_call 24; (with_reducible refine (strings_ContainsAny.calls a0 (⟨#[47, 0]⟩ : ByteArray) true _ A4.out).mono ?_); rintro e w6 ⟨rfl, hb⟩; have n0_ := Aside0.mk (below_step (by repeat (first | (with_reducible first | exact HB.out | apply below_alloc | apply pw_below_drewN | apply below_drew1) | exact HB.out)) hb); clear HB; have HB := n0_; clear n0_; (try clear hb); (try clear hb2); (try clear hk); (try clear hi)))
        go_ret
        exact ⟨by first | rfl | (simp [errW_none, errW_some] <;> rfl) | (simp [*, errW_none, errW_some] <;> rfl), by repeat (first | (with_reducible first | exact HB.out | apply below_alloc | apply pw_below_drewN | apply below_drew1) | exact HB.out)⟩
      · replace c5 := Bool.eq_false_iff.mpr c5
        subst c5
        have H1 : (if a0.toList = ([46] : List UInt8) then (some 26) else (if a0.toList = ([46, 46] : List UInt8) then (some 26) else (some 0))) = some r := by rw [if_neg (show ¬ (false = true) by decide)] at H; exact H
        clear H
        have H := H1
        clear H1
        by_cases c7 : a0.toList = ([46] : List UInt8)
        · rw [if_pos c7] at H
          have c7b0 : (a0.toList == ([46] : List UInt8)) = true := beq_iff_eq.mpr c7
          have c7b1 : (a0.toList != ([46] : List UInt8)) = false := bne_eq_false_iff_eq.mpr c7
          clear c7
          obtain rfl := Option.some.inj H
          go_enter Try.func10, Try.ntmps10
          go_wp2_with (first | (go_at_call 24; (with_reducible refine (strings_ContainsAny.calls a0 (⟨#[47, 0]⟩ : ByteArray) false _ A4.out).mono ?_); rintro e w8 ⟨rfl, hb⟩; have n0_ := Aside0.mk (below_step (by repeat (first | (with_reducible first | exact HB.out | apply below_alloc | apply pw_below_drewN | apply below_drew1) | exact HB.out)) hb); clear HB; have HB := n0_; clear n0_; (try clear hb); (try clear hb2); (try clear hk); (try clear hi)))
          go_ret
          exact ⟨by first | rfl | (simp [errW_none, errW_some] <;> rfl) | (simp [*, errW_none, errW_some] <;> rfl), by repeat (first | (with_reducible first | exact HB.out | apply below_alloc | apply pw_below_drewN | apply below_drew1) | exact HB.out)⟩
        · rw [if_neg c7] at H
          have c7b0 : (a0.toList == ([46] : List UInt8)) = false := beq_eq_false_iff_ne.mpr c7
          have c7b1 : (a0.toList != ([46] : List UInt8)) = true := bne_iff_ne.mpr c7
          by_cases c9 : a0.toList = ([46, 46] : List UInt8)
          · rw [if_pos c9] at H
            have c9b0 : (a0.toList == ([46, 46] : List UInt8)) = true := beq_iff_eq.mpr c9
            have c9b1 : (a0.toList != ([46, 46] : List UInt8)) = false := bne_eq_false_iff_eq.mpr c9
            clear c9
            obtain rfl := Option.some.inj H
            go_enter Try.func10, Try.ntmps10
            go_wp2_with (first | (go_at_call 24; (with_reducible refine (strings_ContainsAny.calls a0 (⟨#[47, 0]⟩ : ByteArray) false _ A4.out).mono ?_); rintro e w10 ⟨rfl, hb⟩; have n0_ := Aside0.mk (below_step (by repeat (first | (with_reducible first | exact HB.out | apply below_alloc | apply pw_below_drewN | apply below_drew1) | exact HB.out)) hb); clear HB; have HB := n0_; clear n0_; (try clear hb); (try clear hb2); (try clear hk); (try clear hi)))
            go_ret
            exact ⟨by first | rfl | (simp [errW_none, errW_some] <;> rfl) | (simp [*, errW_none, errW_some] <;> rfl), by repeat (first | (with_reducible first | exact HB.out | apply below_alloc | apply pw_below_drewN | apply below_drew1) | exact HB.out)⟩
          · rw [if_neg c9] at H
            have c9b0 : (a0.toList == ([46, 46] : List UInt8)) = false := beq_eq_false_iff_ne.mpr c9
            have c9b1 : (a0.toList != ([46, 46] : List UInt8)) = true := bne_iff_ne.mpr c9
            obtain rfl := Option.some.inj H
            go_enter Try.func10, Try.ntmps10
            go_wp2_with (first | (go_at_call 24; (with_reducible refine (strings_ContainsAny.calls a0 (⟨#[47, 0]⟩ : ByteArray) false _ A4.out).mono ?_); rintro e w11 ⟨rfl, hb⟩; have n0_ := Aside0.mk (below_step (by repeat (first | (with_reducible first | exact HB.out | apply below_alloc | apply pw_below_drewN | apply below_drew1) | exact HB.out)) hb); clear HB; have HB := n0_; clear n0_; (try clear hb); (try clear hb2); (try clear hk); (try clear hi)))
            go_ret
            exact ⟨by first | rfl | (simp [errW_none, errW_some] <;> rfl) | (simp [*, errW_none, errW_some] <;> rfl), by repeat (first | (with_reducible first | exact HB.out | apply below_alloc | apply pw_below_drewN | apply below_drew1) | exact HB.out)⟩

end Go.Proofs.Ytkkflgdobgbmmaa.Q
end
section
namespace Go.Proofs.Ytkkflgdobgbmmaa.Q
open Go.RowKit Go.Proofs.YtkkflgdobgbmmaaW.PrintWords Go.Proofs.YtkkflgdobgbmmaaW.PrintLast Go.Proofs.YtkkflgdobgbmmaaW.PrintMore
attribute [local go_sem] max2_int min2_int max_two min_two max_three min_three max_four min_four   -- for this text's walks alone
set_option linter.unusedVariables false
set_option linter.unusedSimpArgs false

end Go.Proofs.Ytkkflgdobgbmmaa.Q
end
section
namespace Go.Proofs.Ytkkflgdobgbmmaa.Q
open Go.RowKit Go.Proofs.YtkkflgdobgbmmaaW.PrintWords Go.Proofs.YtkkflgdobgbmmaaW.PrintLast Go.Proofs.YtkkflgdobgbmmaaW.PrintMore
attribute [local go_sem] max2_int min2_int max_two min_two max_three min_three max_four min_four   -- for this text's walks alone
set_option linter.unusedVariables false
set_option linter.unusedSimpArgs false

end Go.Proofs.Ytkkflgdobgbmmaa.Q
end
section
namespace Go.Proofs.Ytkkflgdobgbmmaa.Q
open Go.RowKit Go.Proofs.YtkkflgdobgbmmaaW.PrintWords Go.Proofs.YtkkflgdobgbmmaaW.PrintLast Go.Proofs.YtkkflgdobgbmmaaW.PrintMore
attribute [local go_sem] max2_int min2_int max_two min_two max_three min_three max_four min_four   -- for this text's walks alone
set_option linter.unusedVariables false
set_option linter.unusedSimpArgs false

end Go.Proofs.Ytkkflgdobgbmmaa.Q
end
section
namespace Go.Proofs.Ytkkflgdobgbmmaa.Q
open Go.RowKit Go.Proofs.YtkkflgdobgbmmaaW.PrintWords Go.Proofs.YtkkflgdobgbmmaaW.PrintLast Go.Proofs.YtkkflgdobgbmmaaW.PrintMore
attribute [local go_sem] max2_int min2_int max_two min_two max_three min_three max_four min_four   -- for this text's walks alone
set_option linter.unusedVariables false
set_option linter.unusedSimpArgs false

end Go.Proofs.Ytkkflgdobgbmmaa.Q
end
section
/- entries.piece: an entry's bytes. -/
namespace Go.Proofs.Ytkkflgdobgbmmaa.Q
open Go.RowKit Go.Proofs.YtkkflgdobgbmmaaW.PrintWords Go.Proofs.YtkkflgdobgbmmaaW.PrintLast Go.Proofs.YtkkflgdobgbmmaaW.PrintMore Go.Proofs.Ytkkflgdobgbmmaa.Pure
attribute [local go_sem] max2_int min2_int max_two min_two max_three min_three max_four min_four
set_option linter.unusedVariables false
set_option linter.unusedSimpArgs false
section
variable {P : Program}
theorem ex_conv {o : Oper} {a : Act} (W : World) (src dst e : TypeId) (x : Operand) (ho : o.op = .convert src dst x) (s : ByteArray) (hx : a.eval x = .string s) {u : TypeDesc} (hsu : P.underlying src = some u) (hdu : P.underlying dst = some (.slice e)) (heu : P.underlying e = some (.int .u8)) (hs : s.size ≤ 200) :
    ∃ v w1, (execOp a.eval o).run P W = .ok (.value v) w1 ∧ Below W.heap.size W w1 ∧ (VP.row (Kd.int .u8) (bytesOf s)).p v w1 := by
  obtain ⟨ob, h1, h2⟩ := conv_row W e s hs
  refine ⟨.slice (some ⟨W.heap.size, 0, none⟩) s.size (grownCap W s.size 0 e), Lib.bytesWorld W e s, ?_, below_freeze (below_alloc (below_drew (Below.refl _ _)) _) _ _ (Nat.le_refl _), ⟨some ⟨W.heap.size, 0, none⟩, grownCap W s.size 0 e, by rw [bytesOf_length], by rw [bytesOf_length]; exact grownCap_ge _ _ _ _, h2 _ h1⟩⟩
  unfold execOp
  rw [ho]
  simp [hx, Lib.run_convert_string_bytes W src dst e s hsu hdu heu, Result.andThen]
theorem ms_conv {ops : Array Oper} {oi : Oper} {a : Act} {W : World} {t : Tmp} {i : Nat} (hi : ops[i]? = some oi) (hd : oi.dst = some t) (hw : Region.wanted oi (yielded ops a.tmps) = true) (src dst e : TypeId) (x : Operand) (ho : oi.op = .convert src dst x) (s : ByteArray) (hx : a.eval x = .string s) {u : TypeDesc} (hsu : P.underlying src = some u) (hdu : P.underlying dst = some (.slice e)) (heu : P.underlying e = some (.int .u8)) (hs : s.size ≤ 200) (l : List Int) (hl : bytesOf s = l) :
    ∃ oi, ops[i]? = some oi ∧ oi.dst = some t ∧ ((Region.wanted oi (yielded ops a.tmps) = true ∧ Does P oi a W fun v w' => Below W.heap.size W w' ∧ (VP.row (Kd.int .u8) l).p v w') ∨ (Region.wanted oi (yielded ops a.tmps) = false ∧ (VP.row (Kd.int .u8) l).p undef W)) := by
  obtain ⟨v, w1, h1, h2, h3⟩ := ex_conv W src dst e x ho s hx hsu hdu heu hs
  rw [hl] at h3
  exact ms_val hi hd hw v w1 h1 h2 h3
theorem row1 (W : World) (e : TypeId) (z : Int) : (VP.row (Kd.int .u8) [z]).p (.slice (some ⟨W.heap.size, 0, none⟩) 1 1) (W.alloc (.cells #[.int .u8 z] e)) := Kd.R_reads (lit_own .u8 W e [z] (show 1 ≤ maxLen by decide))
theorem row3 (W : World) (t : TypeId) (A1 A2 A3 : Option Addr) (c1 c2 c3 : Nat) (l1 l2 l3 : List Int) (e : Nat) (h1 : l1.length ≤ c1) (h2 : l2.length ≤ c2) (h3 : l3.length ≤ c3) (k1 : Kd.C (Kd.int .u8) W A1 l1.length l1) (k2 : Kd.C (Kd.int .u8) W A2 l2.length l2) (k3 : Kd.C (Kd.int .u8) W A3 l3.length l3) :
    (VP.row (Kd.slice e (Kd.int .u8)) [l1, l2, l3]).p (.slice (some ⟨W.heap.size, 0, none⟩) 3 3) (W.alloc (.cells #[.slice A1 l1.length c1, .slice A2 l2.length c2, .slice A3 l3.length c3] t)) := by
  have hb : Below W.heap.size W (W.alloc (.cells #[.slice A1 l1.length c1, .slice A2 l2.length c2, .slice A3 l3.length c3] t)) := below_alloc (Below.refl _ _) _
  have hblk := blk_new W (.cells #[.slice A1 l1.length c1, .slice A2 l2.length c2, .slice A3 l3.length c3] t)
  refine ⟨some ⟨W.heap.size, 0, none⟩, 3, rfl, Nat.le_refl _, rfl, show 3 ≤ 9223372036854775807 by decide, fun _ => ⟨_, rfl, fun j p hj => ?_⟩⟩
  match j, hj with
  | 0, hj =>
    injection hj with hj
    subst hj
    exact ⟨[.slice A1 l1.length c1], rfl, ⟨A1, c1, rfl, h1, Kd.C_below k1 hb⟩, fun i u hi => by
      match i, hi with
      | 0, hi => injection hi with hi; subst hi; rw [add_plain, blk_cell hblk]; rfl⟩
  | 1, hj =>
    injection hj with hj
    subst hj
    exact ⟨[.slice A2 l2.length c2], rfl, ⟨A2, c2, rfl, h2, Kd.C_below k2 hb⟩, fun i u hi => by
      match i, hi with
      | 0, hi => injection hi with hi; subst hi; rw [add_plain, blk_cell hblk]; rfl⟩
  | 2, hj =>
    injection hj with hj
    subst hj
    exact ⟨[.slice A3 l3.length c3], rfl, ⟨A3, c3, rfl, h3, Kd.C_below k3 hb⟩, fun i u hi => by
      match i, hi with
      | 0, hi => injection hi with hi; subst hi; rw [add_plain, blk_cell hblk]; rfl⟩
end
/-- An entry's bytes. -/
def pieceL (name : List Int) (n : Int) : List Int := padV (lebytes 2 n ++ [(name.length : Int) % 256] ++ name) 32
set_option maxHeartbeats 4000000 in
set_option maxRecDepth 100000 in
theorem piece.calls (name : ByteArray) (n : Int) (h0 : 0 ≤ n) (h1 : n < 18446744073709551616) (hs : name.size ≤ 200) (w : World) :
    Calls Try.prog 37 #[.agg #[.string name, .int .i64 n]] w fun e w' => ∃ v0_ : Value, e = .returned (v0_) ∧ Kd.R (Kd.int .u8) 5 w' w.heap.size (fun _ => True) v0_ (pieceL (bytesOf name) n) ∧ Below w.heap.size w w' := by
  have hw : IntKind.u64.wrap n = n := wrapu_id (by omega) (by omega)
  obtain ⟨z, hz⟩ : ∃ z, IntKind.u8.wrap (name.size : Int) = z := ⟨_, rfl⟩
  have hP := word_Put_eq 9 (Nat.le_refl _) n 2 h0
  have hpv : putV n 2 = lebytes 2 n := by unfold putV; rw [if_pos (by decide)]; rfl
  rw [hpv] at hP
  have hC := slices_Concat_eq [lebytes 2 n, [z], bytesOf name] (by simp [lebytes_length, bytesOf_length]; omega)
  have hfl : [lebytes 2 n, [z], bytesOf name].flatten = lebytes 2 n ++ [z] ++ bytesOf name := by simp
  rw [hfl] at hC
  have hD := word_Pad_eq (lebytes 2 n ++ [z] ++ bytesOf name) 32 (by decide)
  have hzz : pieceL (bytesOf name) n = padV (lebytes 2 n ++ [z] ++ bytesOf name) 32 := by
    unfold pieceL
    rw [bytesOf_length, ← hz]
    congr 3
  have hbl : (bytesOf name).length = name.size := bytesOf_length name
  obtain ⟨L, hL⟩ : ∃ L, bytesOf name = L := ⟨_, rfl⟩
  obtain ⟨B, hB⟩ : ∃ B, lebytes 2 n = B := ⟨_, rfl⟩
  rw [hzz]
  obtain ⟨X, hX⟩ : ∃ X, padV (B ++ [z] ++ L) 32 = X := ⟨_, rfl⟩
  rw [hL, hB] at hC hD
  rw [hX] at hD
  rw [hB] at hP
  rw [hB, hL, hX]
  have HH := Aside0.mk (And.intro hw (And.intro hz (And.intro hP (And.intro hC (And.intro hD (And.intro hs hL))))))
  clear hw hz hP hC hD hfl hzz hpv hbl hB hX h0 h1 hs hL
  go_enter Try.func37, Try.ntmps37
  go_wp2_with (first | ((with_reducible refine gate_op (N := .box 28 (.tmp 0)) rfl ?_); refine wl_box rfl 28 _ rfl (.agg #[.string name, .int .i64 n]) rfl ?_; intro g1 hg w1 hblk hb hsz; have HB := Aside0.mk hb; have HK := Aside0.mk (show w1.heap[g1]? = some (.cells #[.string name, .int .i64 n] 28 (0, 0)) from hblk); clear hg hblk hb hsz))
  obtain ⟨hw, hz, hP, hC, hD, hs, hL⟩ := HH.out
  refine mono_region (T := _) (B := [0, 1, 3, 7, 0, 16, 48, 112, 240, 0, 512, 1536, 4095, 8191, 16383, 32767]) (n := 16) [(0, 3, VP.is (Value.pointer (some ⟨g1, 1, none⟩))), (1, 4, VP.is (Value.int .i64 n)), (2, 5, VP.is (Value.int .u64 n)), (3, 6, VP.row (Kd.int .u8) B), (4, 7, VP.is (Value.pointer (some ⟨g1, 0, none⟩))), (5, 8, VP.is (Value.string name)), (6, 9, VP.is (Value.int .i64 (name.size : Int))), (7, 10, VP.is (Value.int .u8 z)), (8, 11, VP.row (Kd.int .u8) [z]), (9, 12, VP.is (Value.pointer (some ⟨g1, 0, none⟩))), (10, 13, VP.is (Value.string name)), (11, 14, VP.row (Kd.int .u8) L), (12, 15, VP.row (Kd.slice 5 (Kd.int .u8)) [B, [z], L]), (13, 16, VP.row (Kd.int .u8) (B ++ [z] ++ L)), (14, 17, VP.own (Kd.int .u8) 5 w.heap.size X), (15, 2, VP.own (Kd.int .u8) 5 w.heap.size X)] rfl (by kernel_rfl) (by kernel_rfl) rfl (by kernel_rfl) (by kernel_rfl) (by kernel_rfl) (by kernel_rfl) (by kernel_rfl) ?_ ?_
  · refine ms_cons ?_ <| ms_cons ?_ <| ms_cons ?_ <| ms_cons ?_ <| ms_cons ?_ <| ms_cons ?_ <| ms_cons ?_ <| ms_cons ?_ <| ms_cons ?_ <| ms_cons ?_ <| ms_cons ?_ <| ms_cons ?_ <| ms_cons ?_ <| ms_cons ?_ <| ms_cons ?_ <| ms_cons ?_ <| ms_nil
    · intro act_ w' H
      have e1 := H.tmp (t := 1) rfl (by kernel_rfl)
      have ev1 := eval_of e1
      refine ms_val rfl rfl rfl (Value.pointer (some ⟨g1, 1, none⟩)) w' ?_ (Below.refl _ _) rfl
      · go_simp
        try rfl
    · intro act_ w' H
      obtain ⟨_, e3, rfl⟩ := H.on 0 rfl (by kernel_rfl)
      have ev3 := eval_of e3
      refine ms_val rfl rfl rfl (Value.int .i64 n) w' ?_ (Below.refl _ _) rfl
      exact ex_load_cell w' _ _ rfl ⟨g1, 1, none⟩ ev3 _ ((blk_cell (blk_below HK.out H.below) 1).trans rfl) _ Try.underlying3 rfl
    · intro act_ w' H
      obtain ⟨_, e4, rfl⟩ := H.on 1 rfl (by kernel_rfl)
      have ev4 := eval_of e4
      refine ms_val rfl rfl rfl (Value.int .u64 n) w' ?_ (Below.refl _ _) rfl
      · go_simp
        try simp [hw]
    · intro act_ w' H
      obtain ⟨_, e5, rfl⟩ := H.on 2 rfl (by kernel_rfl)
      have ev5 := eval_of e5
      exact ms_call rfl rfl rfl Try.func45 (by kernel_rfl) rfl #[.int .u64 n, .int .i64 2] rfl (by simp only [List.map_toArray, List.map_cons, List.map_nil, ev5]; try rfl) ((word_Put.calls 9 n 2 B _ hP).mono fun e w1 ⟨v, he, hR, hb⟩ => ⟨v, he, hb, Kd.R_reads hR⟩)
    · intro act_ w' H
      have e1 := H.tmp (t := 1) rfl (by kernel_rfl)
      have ev1 := eval_of e1
      refine ms_val rfl rfl rfl (Value.pointer (some ⟨g1, 0, none⟩)) w' ?_ (Below.refl _ _) rfl
      · go_simp
        try rfl
    · intro act_ w' H
      obtain ⟨_, e7, rfl⟩ := H.on 4 rfl (by kernel_rfl)
      have ev7 := eval_of e7
      refine ms_val rfl rfl rfl (Value.string name) w' ?_ (Below.refl _ _) rfl
      exact ex_load_cell w' _ _ rfl ⟨g1, 0, none⟩ ev7 _ ((blk_cell (blk_below HK.out H.below) 0).trans rfl) _ Try.underlying9 rfl
    · intro act_ w' H
      obtain ⟨_, e8, rfl⟩ := H.on 5 rfl (by kernel_rfl)
      have ev8 := eval_of e8
      refine ms_val rfl rfl rfl (Value.int .i64 (name.size : Int)) w' ?_ (Below.refl _ _) rfl
      · go_simp
        try rfl
    · intro act_ w' H
      obtain ⟨_, e9, rfl⟩ := H.on 6 rfl (by kernel_rfl)
      have ev9 := eval_of e9
      refine ms_val rfl rfl rfl (Value.int .u8 z) w' ?_ (Below.refl _ _) rfl
      · go_simp
        try simp [hz]
    · intro act_ w' H
      obtain ⟨_, e10, rfl⟩ := H.on 7 rfl (by kernel_rfl)
      have ev10 := eval_of e10
      exact ms_val rfl rfl rfl (.slice (some ⟨w'.heap.size, 0, none⟩) 1 1) (w'.alloc (.cells #[.int .u8 z] 5)) (by go_simp) (below_alloc (Below.refl _ _) _) (row1 _ _ _)
    · intro act_ w' H
      have e1 := H.tmp (t := 1) rfl (by kernel_rfl)
      have ev1 := eval_of e1
      refine ms_val rfl rfl rfl (Value.pointer (some ⟨g1, 0, none⟩)) w' ?_ (Below.refl _ _) rfl
      · go_simp
        try rfl
    · intro act_ w' H
      obtain ⟨_, e12, rfl⟩ := H.on 9 rfl (by kernel_rfl)
      have ev12 := eval_of e12
      refine ms_val rfl rfl rfl (Value.string name) w' ?_ (Below.refl _ _) rfl
      exact ex_load_cell w' _ _ rfl ⟨g1, 0, none⟩ ev12 _ ((blk_cell (blk_below HK.out H.below) 0).trans rfl) _ Try.underlying9 rfl
    · intro act_ w' H
      obtain ⟨_, e13, rfl⟩ := H.on 10 rfl (by kernel_rfl)
      have ev13 := eval_of e13
      exact ms_conv rfl rfl rfl 9 23 5 _ rfl name ev13 Try.underlying9 Try.underlying23 Try.underlying5 hs L hL
    · intro act_ w' H
      obtain ⟨v6, e6, ⟨A6, c6, rfl, l6, k6⟩⟩ := H.on 3 rfl (by kernel_rfl)
      have ev6 := eval_of e6
      obtain ⟨v11, e11, ⟨A11, c11, rfl, l11, k11⟩⟩ := H.on 8 rfl (by kernel_rfl)
      have ev11 := eval_of e11
      obtain ⟨v14, e14, ⟨A14, c14, rfl, l14, k14⟩⟩ := H.on 11 rfl (by kernel_rfl)
      have ev14 := eval_of e14
      exact ms_val rfl rfl rfl (.slice (some ⟨w'.heap.size, 0, none⟩) 3 3) (w'.alloc (.cells #[.slice A6 B.length c6, .slice A11 1 c11, .slice A14 L.length c14] 23)) (by go_simp) (below_alloc (Below.refl _ _) _) (row3 _ _ A6 A11 A14 c6 c11 c14 B [z] L 5 l6 l11 l14 k6 k11 k14)
    · intro act_ w' H
      obtain ⟨v15, e15, ⟨A15, c15, rfl, l15, k15⟩⟩ := H.on 12 rfl (by kernel_rfl)
      have ev15 := eval_of e15
      exact ms_call rfl rfl rfl Try.func44 (by kernel_rfl) rfl #[.slice A15 3 c15] rfl (by simp only [List.map_toArray, List.map_cons, List.map_nil, ev15]; try rfl) ((slices_Concat_byte_byte.calls A15 c15 [B, [z], L] _ _ k15 l15 hC).mono fun e w1 ⟨v, he, hR, hb⟩ => ⟨v, he, hb, Kd.R_reads hR⟩)
    · intro act_ w' H
      obtain ⟨v16, e16, ⟨A16, c16, rfl, l16, k16⟩⟩ := H.on 13 rfl (by kernel_rfl)
      have ev16 := eval_of e16
      exact ms_call rfl rfl rfl Try.func43 (by kernel_rfl) rfl #[.slice A16 (B ++ [z] ++ L).length c16, .int .i64 32] rfl (by simp only [List.map_toArray, List.map_cons, List.map_nil, ev16]; try rfl) ((word_Pad.calls A16 c16 (B ++ [z] ++ L) 32 X _ k16 l16 hD).mono fun e w1 ⟨v, he, hR, hb⟩ => ⟨v, he, hb, Kd.R_lower hR (Nat.le_trans HB.out.size H.below.size)⟩)
    · intro act_ w' H
      obtain ⟨v17, e17, h17⟩ := H.on 14 rfl (by kernel_rfl)
      have ev17 := eval_of e17
      exact ms_val rfl rfl rfl v17 w' (by go_simp) (Below.refl _ _) h17
  intro w2 hb2
  rintro _ rfl _ rfl _ rfl _ ⟨A6, c6, rfl, _, _⟩ _ rfl _ rfl _ rfl _ rfl _ ⟨A11, c11, rfl, _, _⟩ _ rfl _ rfl _ ⟨A14, c14, rfl, _, _⟩ _ ⟨A15, c15, rfl, _, _⟩ _ ⟨A16, c16, rfl, _, _⟩ v17 h17 v2 h2
  simp only [Ends, Act.put, List.setIfInBounds_toArray, List.set_cons_zero, List.set_cons_succ]
  have HRES := Aside0.mk (show Kd.R (Kd.int .u8) 5 w2 w.heap.size (fun _ => True) v2 X from h2)
  have n0_ := Aside0.mk (HB.out.trans (hb2.mono HB.out.size))
  clear hb2 h2 h17 HB HK hw hz hP hC hD hs hL
  have HB := n0_
  clear n0_
  go_wp2
  go_ret
  exact ⟨_, rfl, HRES.out, HB.out⟩
end Go.Proofs.Ytkkflgdobgbmmaa.Q
end
section
namespace Go.Proofs.Ytkkflgdobgbmmaa.Q
open Go.RowKit Go.Proofs.YtkkflgdobgbmmaaW.PrintWords Go.Proofs.YtkkflgdobgbmmaaW.PrintLast Go.Proofs.YtkkflgdobgbmmaaW.PrintMore
attribute [local go_sem] max2_int min2_int max_two min_two max_three min_three max_four min_four   -- for this text's walks alone
set_option linter.unusedVariables false
set_option linter.unusedSimpArgs false

-- EXT entries_piece: function 37
/-! ### entries_piece: function 37 -/
-- IMPORT HPiece
def entries_piece.f (a0_0 : ByteArray) (a0_1 : Int) : Option (List Int) := if 0 ≤ a0_1 ∧ a0_1 < 18446744073709551616 ∧ a0_0.size ≤ 200 then some (pieceL (bytesOf a0_0) a0_1) else none
theorem entries_piece.calls (a0_0 : ByteArray) (a0_1 : Int) (r : List Int) (w : World) (h : entries_piece.f a0_0 a0_1 = some r) :
    Calls Try.prog 37 #[.agg #[.string a0_0, .int .i64 a0_1]] w fun e w' => ∃ v0_ : Value, e = .returned (v0_) ∧ Kd.R (Kd.int .u8) 5 w' w.heap.size (fun _ => True) v0_ r ∧ Below w.heap.size w w' := by
  unfold entries_piece.f at h
  split at h
  · rename_i c
    injection h with h
    subst h
    exact piece.calls a0_0 a0_1 c.1 c.2.1 c.2.2 w
  · cases h

end Go.Proofs.Ytkkflgdobgbmmaa.Q
end
section
namespace Go.Proofs.Ytkkflgdobgbmmaa.Q
open Go.RowKit Go.Proofs.YtkkflgdobgbmmaaW.PrintWords Go.Proofs.YtkkflgdobgbmmaaW.PrintLast Go.Proofs.YtkkflgdobgbmmaaW.PrintMore
attribute [local go_sem] max2_int min2_int max_two min_two max_three min_three max_four min_four   -- for this text's walks alone
set_option linter.unusedVariables false
set_option linter.unusedSimpArgs false

/-! ### entries_bytes: function 33 -/
def entries_bytes.l0 : Nat → List Int → List (S28) → Int → Int → Option (List Int)
  | 0, _, _, _, _ => none
  | k + 1, x3, x6, x7, x8 => if x8 < x7 then (if 0 ≤ x8 then (if x8 < (x6.length : Int) then ((entries_piece.f ((rd_T28 x6 x8).f0) ((rd_T28 x6 x8).f1)).bind fun t123 => (if x3.length + t123.length < 140737488355328 then (entries_bytes.l0 k (x3 ++ t123) x6 x7 (wrap64 (x8 + 1))) else (none))) else (none)) else (none)) else (some x3)
def entries_bytes.f (k : Nat) (l0 : List (S28)) : Option (List Int) := entries_bytes.l0 k ([] : List Int) l0 (l0.length : Int) 0
set_option maxHeartbeats 8000000 in
set_option maxRecDepth 100000 in
theorem entries_bytes.calls (k : Nat) (A0 : Option Addr) (c0 : Nat) (l0 : List (S28)) (r : List Int) (w : World) (hr0 : Kd.C k28 w A0 l0.length l0) (hc0 : l0.length ≤ c0) (h : entries_bytes.f k l0 = some r) :
    Calls Try.prog 33 #[.slice A0 l0.length c0] w fun e w' => ∃ v0_ : Value, e = .returned (v0_) ∧ Kd.R (Kd.int .u8) 5 w' w.heap.size (fun _ => True) v0_ r ∧ Below w.heap.size w w' := by
  have hu28 := Try.underlying28
  have HR0 := Aside0.mk hr0
  have HC0 := Aside0.mk hc0
  clear hr0 hc0
  have HB := Aside0.mk (Below.refl w.heap.size w)
  have H : (entries_bytes.l0 k ([] : List Int) l0 (l0.length : Int) 0) = some r := h
  clear h
  have H' := Aside0.mk H
  clear H
  go_enter Try.func33, Try.ntmps33
  go_wp2
  go_loopg [3, 8] k (fun kq v3 v8 w' => ∃ (x3_1 : List Int) (x8_1 : Int), v8 = .int .i64 x8_1 ∧ Aside0 (entries_bytes.l0 kq x3_1 l0 (l0.length : Int) x8_1 = some r) ∧ Aside0 (kq ≤ k) ∧ Aside0 (Kd.R (Kd.int .u8) 5 w' w.heap.size (fun _ => True) v3 x3_1) ∧ Aside0 (Below w.heap.size w w'))
  case atStart => exact ⟨(([] : List Int)), (0), (by first | rfl | (simp; done) | (simp [*]; done)), H', ⟨Nat.le_refl _⟩, ⟨by first | exact Kd.R_nil _ _ _ _ _ | exact Kd.N_nil _ _ _ _ _ | exact Kd.V_nil _ _ _ _ _ | exact Kd.Q_nil _ _ _ _ _ | exact Kd.S_nil _ _ _ _ _⟩, ⟨by repeat (first | (with_reducible first | exact HB.out | apply below_alloc | apply pw_below_drewN | apply below_drew1) | exact HB.out)⟩⟩
  case round =>
    clear H'
    obtain ⟨x3_1, x8_1, rfl, HA, HK1, HO_3, HB⟩ := hrel
    cases gk with
    | zero => exact absurd HA.out (by simp [entries_bytes.l0])
    | succ k1 =>
      have H := HA.out
      clear HA
      simp only [entries_bytes.l0] at H
      by_cases c2 : x8_1 < (l0.length : Int)
      · rw [if_pos c2] at H
        have c2b0 : decide (x8_1 < (l0.length : Int)) = true := decide_eq_true c2
        clear c2
        by_cases c3 : 0 ≤ x8_1
        · rw [if_pos c3] at H
          have c3b0 : decide (0 ≤ x8_1) = true := decide_eq_true c3
          clear c3
          by_cases c4 : x8_1 < (l0.length : Int)
          · rw [if_pos c4] at H
            have c4b0 : decide (x8_1 < (l0.length : Int)) = true := decide_eq_true c4
            clear c4
            replace H := Option.bind_eq_some_iff.mp H
            obtain ⟨t123, A50, H⟩ := H
            replace H : (if x3_1.length + t123.length < 140737488355328 then (entries_bytes.l0 k1 (x3_1 ++ t123) l0 (l0.length : Int) (wrap64 (x8_1 + 1))) else (none)) = some r := H
            have A5 := Aside0.mk A50
            clear A50
            by_cases c6 : x3_1.length + t123.length < 140737488355328
            · rw [if_pos c6] at H
              have LMc6 := Aside0.mk c6
              clear c6
              obtain ⟨y126, hy126⟩ : ∃ y_ : List Int, y_ = (x3_1 ++ t123) := ⟨_, rfl⟩
              replace H : (entries_bytes.l0 k1 y126 l0 (l0.length : Int) (wrap64 (x8_1 + 1))) = some r := by first | (rw [hy126]; with_reducible exact H) | (have H2_ := (Option.bind_some _ _).symm.trans H; rw [hy126]; with_reducible exact H2_) | (have H2_ := (Option.bind_some _ _).symm.trans H; with_reducible exact H2_) | with_reducible exact H | (rw [hy126]; exact H) | exact H
              have Ny126 := Aside0.mk hy126
              clear hy126
              have H' := Aside0.mk H
              clear H
              have p121 : 0 ≤ (x8_1 : Int) := of_decide_eq_true (by first | (with_reducible assumption) | assumption)
              have q121 : x8_1 < (l0.length : Int) := of_decide_eq_true (by first | (with_reducible assumption) | assumption)
              obtain ⟨ad121, e121, hx121_0, hx121_1⟩ := at_T28 HR0.out x8_1 p121 q121
              cases e121
              replace hx121_0 := (HB.out.cell (World.block_lt_of_cell? w _ hx121_0)).trans hx121_0
              replace hx121_1 := (HB.out.cell (World.block_lt_of_cell? w _ hx121_1)).trans hx121_1
              replace p121 := eq_true p121
              replace q121 := eq_true q121
              go_wp2_with (first | ((with_reducible refine gate_dst (N := 5) rfl ?_); refine box_event ?hg (N := 5) ?hd (cs := #[.string (⟨#[]⟩ : ByteArray), .int .i64 0]) (t := 28) ?hr ?_; (case hd => rfl); (case hg => rfl); (case hr => first | (go_simp; done) | (go_simp; rfl)); intro gb122 hg w7 hbox hb; have n0_ := Aside0.mk (Kd.R_below (by (with_reducible repeat (first | apply Kd.R_alloc | apply Kd.R_drewN | apply Kd.R_drew)); exact HO_3.out) hb); have n1_ := Aside0.mk (below_step (by repeat (first | (with_reducible first | exact HB.out | apply below_alloc | apply pw_below_drewN | apply below_drew1) | exact HB.out)) hb); have n2_ := Aside0.mk (hbox); have n3_ := Aside0.mk ((by rw [hg]; exact (below_size (by repeat (first | (with_reducible first | exact HB.out | apply below_alloc | apply pw_below_drewN | apply below_drew1) | exact HB.out))) : w.heap.size ≤ gb122)); have n4_ := Aside0.mk ((by rw [hg]; exact (below_size (by repeat (first | (with_reducible first | exact HB.out | apply below_alloc | apply pw_below_drewN | apply below_drew1) | exact HB.out))) : w.heap.size ≤ gb122)); clear HO_3; clear HB; have HO_3 := n0_; have HB := n1_; have BK122 := n2_; have GW122 := n3_; have GE122 := n4_; clear n0_ n1_ n2_ n3_ n4_; clear hb hbox hg; have hcz8_0 : w7.cell? ⟨gb122, 0, none⟩ = some (.string (⟨#[]⟩ : ByteArray)) := (blk_cell BK122.out 0).trans rfl; have hcz8_1 : w7.cell? ⟨gb122, 1, none⟩ = some (.int .i64 0) := (blk_cell BK122.out 1).trans rfl; have hfz8_0 := blk_frozen BK122.out 0; have hfz8_1 := blk_frozen BK122.out 1) | ((with_reducible refine gate_callee (f := 37) rfl ?_); refine goesL_ (some 14) rfl rfl Try.func37 (by kernel_rfl) rfl #[.agg #[.string ((rd_T28 l0 x8_1).f0), .int .i64 ((rd_T28 l0 x8_1).f1)]] rfl (by (try simp only [List.map_toArray, List.map_cons, List.map_nil]); first | done | rfl | (simp only [List.length_drop, List.length_take]; rfl)) ?_; (with_reducible refine (entries_piece.calls ((rd_T28 l0 x8_1).f0) ((rd_T28 l0 x8_1).f1) t123 _ A5.out).mono ?_); rintro e w9 ⟨v124, rfl, ho0, hb⟩; refine ⟨_, rfl, ?_⟩; have n0_ := Aside0.mk (Kd.R_elder' (by (with_reducible repeat (first | apply Kd.R_alloc | apply Kd.R_drewN | apply Kd.R_drew)); exact (Kd.R_mono (Kd.R_far (p := ⟨gb122, 1, none⟩) (Kd.R_far (p := ⟨gb122, 0, none⟩) (Kd.R_types HO_3.out BK122.out (by decide)) (fun _ hk => hk.2) (.string ((rd_T28 l0 x8_1).f0))) (fun _ hk => hk.2) (.int .i64 ((rd_T28 l0 x8_1).f1))) (fun _ h_ => h_.1))) (Kd.R_base ho0) hb); have n1_ := Aside0.mk (Kd.R_lower (Kd.R_new' ho0 (Kd.R_lt (by (with_reducible repeat (first | apply Kd.R_alloc | apply Kd.R_drewN | apply Kd.R_drew)); exact (Kd.R_mono (Kd.R_far (p := ⟨gb122, 1, none⟩) (Kd.R_far (p := ⟨gb122, 0, none⟩) (Kd.R_types HO_3.out BK122.out (by decide)) (fun _ hk => hk.2) (.string ((rd_T28 l0 x8_1).f0))) (fun _ hk => hk.2) (.int .i64 ((rd_T28 l0 x8_1).f1))) (fun _ h_ => h_.1))))) (below_size (by repeat (first | (with_reducible first | exact HB.out | apply below_alloc | apply pw_below_drewN | apply below_drew1 | refine below_set ?_ GE122.out) | exact HB.out)))); have n2_ := Aside0.mk (blk_below (g := gb122) (o := .cells #[.string ((rd_T28 l0 x8_1).f0), .int .i64 ((rd_T28 l0 x8_1).f1)] 28 (0, 0)) (by (with_reducible repeat (first | refine blk_drewN ?_ _ | refine blk_drew ?_ | refine blk_alloc ?_ _)); refine blk_put (cs := #[.string ((rd_T28 l0 x8_1).f0), .int .i64 0]) ?_ 1 _ rfl; (with_reducible repeat (first | refine blk_drewN ?_ _ | refine blk_drew ?_ | refine blk_alloc ?_ _)); refine blk_put (cs := #[.string (⟨#[]⟩ : ByteArray), .int .i64 0]) ?_ 0 _ rfl; (with_reducible repeat (first | refine blk_drewN ?_ _ | refine blk_drew ?_ | refine blk_alloc ?_ _)); exact BK122.out) hb); have n3_ := Aside0.mk (below_step (by repeat (first | (with_reducible first | exact HB.out | apply below_alloc | apply pw_below_drewN | apply below_drew1 | refine below_set ?_ GE122.out) | exact HB.out)) hb); clear HO_3; clear BK122; clear HB; have HO_3 := n0_; have HO125 := n1_; have BK122 := n2_; have HB := n3_; clear n0_ n1_ n2_ n3_; (try clear hb); (try clear hb2); (try clear hk); (try clear hi); (try clear ho0); obtain ⟨Ao11, co11, eo11⟩ := Kd.R_slice HO125.out; subst eo11) | ((with_reducible refine gate_builtin (b := .append) (xs := #[.tmp 12, .tmp 14]) rfl ?_); at_builtin; refine Kd.R_append_rows (Kd.int .u8) (w0 := w) w.heap.size rfl (.tmp 12) (.tmp 14) 23 5 (.int .u8 0) 1 rfl Try.underlying23 info5 rfl (by decide) (by omega) u3 x3_1 t123 _ _ _ (fun k_ => some k_ ≠ (.slice Ao11 t123.length co11 : Value).ownBlock) (fun _ => False) rfl rfl ?aO ?aR (fun _ _ h => h) (fun _ h => h.elim) ?aF ?aB ?aS ?aL ?_; (case aR => repeat (first | exact (Kd.R_reads' HO125.out).2.2 | (with_reducible refine Kd.C_alloc ?_ _) | (with_reducible refine Kd.C_drewN ?_ _) | (with_reducible refine Kd.C_drew ?_))); (case aB => exact (by repeat (first | (with_reducible first | exact HB.out | apply below_alloc | apply pw_below_drewN | apply below_drew1 | refine below_set ?_ GE122.out) | exact HB.out))); (case aF => exact (fun k_ hk => Kd.fresh' (Kd.R_lt (by (with_reducible repeat (first | apply Kd.R_alloc | apply Kd.R_drewN | apply Kd.R_drew)); exact HO125.out)) k_ hk)); (case aO => exact (by (with_reducible repeat (first | apply Kd.R_alloc | apply Kd.R_drewN | apply Kd.R_drew)); exact Kd.R_mono HO_3.out (fun _ hk => hk.2))); (case aS => exact (below_size (by repeat (first | (with_reducible first | exact HB.out | apply below_alloc | apply pw_below_drewN | apply below_drew1 | refine below_set ?_ GE122.out) | exact HB.out)))); (case aL => have := LMc6.out; omega); intro v127 w10 ho hb hg hat; rw [← Ny126.out] at ho; have n0_ := Aside0.mk (blk_grown (g := gb122) (o := .cells #[.string ((rd_T28 l0 x8_1).f0), .int .i64 ((rd_T28 l0 x8_1).f1)] 28 (0, 0)) (by (with_reducible repeat (first | refine blk_drewN ?_ _ | refine blk_drew ?_ | refine blk_alloc ?_ _)); exact BK122.out) hg (Kd.R_ne HO_3.out BK122.out (by decide))); have n1_ := Aside0.mk (Kd.R_after (ok := (fun _ => True)) (by (with_reducible repeat (first | apply Kd.R_alloc | apply Kd.R_drewN | apply Kd.R_drew)); exact HO125.out) hg hat); have n2_ := Aside0.mk (hb); have n3_ := Aside0.mk (ho); clear BK122; clear HO125; clear HB; clear HO_3; have BK122 := n0_; have HO125 := n1_; have HB := n2_; have HO128 := n3_; clear n0_ n1_ n2_ n3_; clear ho hb hg hat))
              go_roundg k1
              case measure => have := HK1.out; omega
              case rel => exact ⟨(y126), (wrap64 (x8_1 + 1)), (by first | rfl | (simp; done) | (simp [*]; done)), H', ⟨by have := HK1.out; omega⟩, ⟨by (with_reducible repeat (first | apply Kd.R_alloc | apply Kd.R_drewN | apply Kd.R_drew)); exact Kd.R_mono HO128.out (fun _ hk => trivial)⟩, ⟨by repeat (first | (with_reducible first | exact HB.out | apply below_alloc | apply pw_below_drewN | apply below_drew1 | refine below_set ?_ GE122.out) | exact HB.out)⟩⟩
            · rw [if_neg c6] at H
              exact absurd H (by simp)
          · rw [if_neg c4] at H
            exact absurd H (by simp)
        · rw [if_neg c3] at H
          exact absurd H (by simp)
      · rw [if_neg c2] at H
        have c2b0 : decide (x8_1 < (l0.length : Int)) = false := decide_eq_false c2
        clear c2
        obtain rfl := Option.some.inj H
        go_wp2
        go_ret
        exact ⟨_, by first | rfl | (simp [errW_none, errW_some] <;> rfl) | (simp [*, errW_none, errW_some] <;> rfl), by (with_reducible repeat (first | apply Kd.R_alloc | apply Kd.R_drewN | apply Kd.R_drew)); exact HO_3.out, by repeat (first | (with_reducible first | exact HB.out | apply below_alloc | apply pw_below_drewN | apply below_drew1) | exact HB.out)⟩

end Go.Proofs.Ytkkflgdobgbmmaa.Q
end
section
namespace Go.Proofs.Ytkkflgdobgbmmaa.Q
open Go.RowKit Go.Proofs.YtkkflgdobgbmmaaW.PrintWords Go.Proofs.YtkkflgdobgbmmaaW.PrintLast Go.Proofs.YtkkflgdobgbmmaaW.PrintMore
attribute [local go_sem] max2_int min2_int max_two min_two max_three min_three max_four min_four   -- for this text's walks alone
set_option linter.unusedVariables false
set_option linter.unusedSimpArgs false

end Go.Proofs.Ytkkflgdobgbmmaa.Q
end
