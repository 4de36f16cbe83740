/- A region that draws its order, of which each operation only reads, or makes new memory: what is known of each destination once its operation is listed stays known. -/
import Derived.Test.YtjpkjakdhbnehaaQx0
import Derived.Laws.Rows
namespace Go.Proofs.Ytjpkjakdhbnehaa.Q
open Go.RowKit Go.Proofs.YtjpkjakdhbnehaaW.PrintWords Go.Proofs.YtjpkjakdhbnehaaW.PrintLast Go.Proofs.YtjpkjakdhbnehaaW.PrintMore
set_option linter.unusedVariables false
set_option linter.unusedSimpArgs false

/-- What is known of a value, and stays known while memory only grows. -/
structure VP where
  p : Value → World → Prop
  st : ∀ v w w', p v w → Below w.heap.size w w' → p v w'
/-- The value itself. -/
def VP.is (X : Value) : VP := ⟨fun v _ => v = X, fun _ _ _ h _ => h⟩
def VP.any : VP := ⟨fun _ _ => True, fun _ _ _ _ _ => trivial⟩
/-- A fact on the value alone. -/
def VP.sat (f : Value → Prop) : VP := ⟨fun v _ => f v, fun _ _ _ h _ => h⟩
/-- A slice that reads as a list. -/
def VP.row {α : Type} (d : Kd α) (xs : List α) : VP := ⟨fun v w => ∃ A c, v = .slice A xs.length c ∧ xs.length ≤ c ∧ d.C w A xs.length xs, fun _ _ _ ⟨A, c, h1, h2, h3⟩ hb => ⟨A, c, h1, h2, Kd.C_below h3 hb⟩⟩
/-- The head of a block that is known whole. -/
def VP.blk (base : Nat) (cs : Array Value) (t : TypeId) : VP := ⟨fun v w => ∃ g, v = .pointer (some ⟨g, 0, none⟩) ∧ base ≤ g ∧ w.heap[g]? = some (.cells cs t (0, 0)), fun _ _ _ ⟨g, h1, h2, h3⟩ hb => ⟨g, h1, h2, blk_below h3 hb⟩⟩
/-- A row of the call's own. -/
def VP.own {α : Type} (d : Kd α) (e base : Nat) (xs : List α) : VP := ⟨fun v w => d.R e w base (fun _ => True) v xs, fun _ _ _ h hb => Kd.R_below h hb⟩

/-- The operation comes to a value (of itself, or by a call), and R holds of it. -/
def Does (P : Program) (o : Oper) (a : Act) (w : World) (R : Value → World → Prop) : Prop :=
  (∃ v w', (execOp a.eval o).run P w = .ok (.value v) w' ∧ R v w') ∨ (∃ f args, (execOp a.eval o).run P w = .ok (.enter f args) w ∧ Calls P f args w fun e w' => ∃ v, e = .returned v ∧ R v w')
abbrev Facts := List (Nat × Tmp × VP)
def MI (L : Facts) (a0 : Act) (w0 : World) (b : Nat → Bool) (a : Act) (w : World) : Prop :=
  Below w0.heap.size w0 w ∧ a.defers = a0.defers ∧ a.tmps.size = a0.tmps.size ∧ (∀ t, (L.all fun e => !(e.2.1 == t)) = true → a.tmps[t]? = a0.tmps[t]?) ∧
    ∀ e ∈ L, (b e.1 = false → a.tmps[e.2.1]? = a0.tmps[e.2.1]?) ∧ (b e.1 = true → ∃ v, a.tmps[e.2.1]? = some v ∧ e.2.2.p v w)
/-- What a step may use. -/
structure Have (L : Facts) (B : List Nat) (a0 : Act) (w0 : World) (i : Nat) (a : Act) (w : World) : Prop where
  below : Below w0.heap.size w0 w
  amb : ∀ t, (L.all fun e => !(e.2.1 == t)) = true → a.tmps[t]? = a0.tmps[t]?
  old : ∀ e ∈ L, (B.getD e.1 0).testBit i = true → a.tmps[e.2.1]? = a0.tmps[e.2.1]?
  new : ∀ e ∈ L, (B.getD i 0).testBit e.1 = true → ∃ v, a.tmps[e.2.1]? = some v ∧ e.2.2.p v w
theorem Have.tmp {L : Facts} {B : List Nat} {a0 : Act} {w0 : World} {i : Nat} {a : Act} {w : World} (H : Have L B a0 w0 i a w) {t : Tmp} {v : Value} (hv : a0.tmps[t]? = some v) (h : (L.all fun e => !(e.2.1 == t)) = true) : a.tmps[t]? = some v := (H.amb t h).trans hv
theorem Have.tmp' {L : Facts} {B : List Nat} {a0 : Act} {w0 : World} {i : Nat} {a : Act} {w : World} (H : Have L B a0 w0 i a w) {t : Tmp} {v : Value} (hv : a0.tmps[t]? = some v) (k : Nat) {j : Nat} {p : VP} (hk : L[k]? = some (j, t, p)) (h : (B.getD j 0).testBit i = true) : a.tmps[t]? = some v :=
  (H.old _ (List.mem_of_getElem? hk) h).trans hv
theorem Have.on {L : Facts} {B : List Nat} {a0 : Act} {w0 : World} {i : Nat} {a : Act} {w : World} (H : Have L B a0 w0 i a w) (k : Nat) {j : Nat} {t : Tmp} {p : VP} (hk : L[k]? = some (j, t, p)) (h : (B.getD i 0).testBit j = true) : ∃ v, a.tmps[t]? = some v ∧ p.p v w :=
  H.new _ (List.mem_of_getElem? hk) h
def MStep (P : Program) (ops : Array Oper) (L : Facts) (B : List Nat) (a0 : Act) (w0 : World) (e : Nat × Tmp × VP) : Prop :=
  ∀ a w, Have L B a0 w0 e.1 a w → ∃ oi, ops[e.1]? = some oi ∧ oi.dst = some e.2.1 ∧
    ((Region.wanted oi (yielded ops a.tmps) = true ∧ Does P oi a w fun v w' => Below w.heap.size w w' ∧ e.2.2.p v w') ∨ (Region.wanted oi (yielded ops a.tmps) = false ∧ e.2.2.p undef w))
/-- Behind the region: each destination has its value. -/
def Ends (w : World) (Q : Act → Prop) : Facts → Act → Prop
  | [], a => Q a
  | e :: r, a => ∀ v, e.2.2.p v w → Ends w Q r (a.put (some e.2.1) v)
def distinctB (L : Facts) : Bool := decide ((L.map (·.1)).Nodup) && decide ((L.map (·.2.1)).Nodup)
def insideB (L : Facts) (n : Nat) : Bool := L.all fun e => Nat.ble (e.2.1 + 1) n
section
variable {P : Program} {ops : Array Oper} {Q : Exit → Act → World → Prop} {T : Bool × List (List Nat × List Nat)} {B : List Nat} {O : List Nat} {L : Facts} {a0 : Act} {w0 : World}
theorem nodup_key {α β : Type} {f : α → β} : ∀ {l : List α}, (l.map f).Nodup → ∀ {x y : α}, x ∈ l → y ∈ l → f x = f y → x = y
  | [], _, _, _, h, _, _ => by cases h
  | z :: l, hn, x, y, hx, hy, he => by
    rw [List.map_cons, List.nodup_cons] at hn
    rcases List.mem_cons.1 hx with e1 | hx1
    · rcases List.mem_cons.1 hy with e2 | hy1
      · rw [e1, e2]
      · have := List.mem_map_of_mem (f := f) hy1
        rw [← he, e1] at this
        exact absurd this hn.1
    · rcases List.mem_cons.1 hy with e2 | hy1
      · have := List.mem_map_of_mem (f := f) hx1
        rw [he, e2] at this
        exact absurd this hn.1
      · exact nodup_key hn.2 hx1 hy1 he
theorem tmps_put {a : Act} {t u : Tmp} {v : Value} (h : t < a.tmps.size) : (a.put (some t) v).tmps[u]? = if t = u then some v else a.tmps[u]? := by
  show (a.tmps.setIfInBounds t v)[u]? = _
  rw [Array.getElem?_setIfInBounds]
  by_cases e : t = u
  · subst e
    simp [h]
  · simp [e]
/-- One step keeps what is known. -/
theorem MI_step (hd : distinctB L = true) (hin : insideB L a0.tmps.size = true) {e : Nat × Tmp × VP} (he : e ∈ L) {b : Nat → Bool} {a : Act} {w w' : World} (h : MI L a0 w0 b a w) (hbe : b e.1 = false) {v : Value} (hb : Below w.heap.size w w') (hp : e.2.2.p v w') :
    MI L a0 w0 (up b e.1) (a.put (some e.2.1) v) w' := by
  obtain ⟨h1, h2, h3, h4, h5⟩ := h
  simp only [distinctB, Bool.and_eq_true, decide_eq_true_eq] at hd
  have hlt : e.2.1 < a.tmps.size := by
    rw [h3]
    exact Nat.le_of_ble_eq_true (List.all_eq_true.1 hin e he)
  refine ⟨h1.trans (hb.mono h1.size), h2, by show (a.tmps.setIfInBounds _ _).size = _; rw [Array.size_setIfInBounds]; exact h3, fun t ht => ?_, fun e' he' => ?_⟩
  · have hne : e.2.1 ≠ t := by have := List.all_eq_true.1 ht e he; simpa using this
    rw [tmps_put hlt, if_neg hne]
    exact h4 t ht
  · by_cases hq : e.1 = e'.1
    · obtain rfl := nodup_key hd.1 he he' hq
      refine ⟨fun hf => (by rw [up_self] at hf; cases hf), fun _ => ⟨v, by rw [tmps_put hlt, if_pos rfl], hp⟩⟩
    · have hs : e.2.1 ≠ e'.2.1 := fun hs => hq (by rw [nodup_key hd.2 he he' hs])
      rw [up_ne (fun z => hq z.symm), tmps_put hlt, if_neg hs]
      refine ⟨(h5 e' he').1, fun hb' => ?_⟩
      obtain ⟨v', hv', hp'⟩ := (h5 e' he').2 hb'
      exact ⟨v', hv', e'.2.2.st _ _ _ hp' hb⟩
theorem MI_start (w : World) (hw : Below w0.heap.size w0 w) : MI L a0 w0 (fun _ => false) a0 w := ⟨hw, rfl, rfl, fun _ _ => rfl, fun _ _ => ⟨fun _ => rfl, fun h => by cases h⟩⟩
theorem MI_have {b : Nat → Bool} {a : Act} {w : World} (h : MI L a0 w0 b a w) (hL : ∀ e ∈ L, O.contains e.1 = true) {i : Nat} (hon : ∀ j, (O.contains j && (B.getD i 0).testBit j) = true → b j = true) (hoff : ∀ d, (O.contains d && (B.getD d 0).testBit i) = true → b d = false) : Have L B a0 w0 i a w :=
  ⟨h.1, h.2.2.2.1, fun e he hbit => (h.2.2.2.2 e he).1 (hoff _ (by rw [hL e he, hbit]; rfl)), fun e he hbit => (h.2.2.2.2 e he).2 (hon _ (by rw [hL e he, hbit]; rfl))⟩
theorem Ends_of {w : World} {R : Act → Prop} : ∀ {L : Facts} {a a' : Act}, Ends w R L a → (L.map (·.2.1)).Nodup → (∀ e ∈ L, e.2.1 < a.tmps.size) → a'.defers = a.defers → a'.tmps.size = a.tmps.size → (∀ t, (L.all fun e => !(e.2.1 == t)) = true → a'.tmps[t]? = a.tmps[t]?) → (∀ e ∈ L, ∃ v, a'.tmps[e.2.1]? = some v ∧ e.2.2.p v w) → R a'
  | [], a, a', h, _, _, hd, hs, ht, _ => by
    have : a' = a := by
      cases a; cases a'
      simp only at hd ht
      congr
      exact Array.ext_getElem? (fun t => ht t rfl)
    rw [this]
    exact h
  | e :: r, a, a', h, hn, hin, hd, hs, ht, hf => by
    obtain ⟨v, hv, hp⟩ := hf e List.mem_cons_self
    rw [List.map_cons, List.nodup_cons] at hn
    have hlt := hin e List.mem_cons_self
    refine Ends_of (h v hp) hn.2 (fun e' he' => by show _ < (a.tmps.setIfInBounds _ _).size; rw [Array.size_setIfInBounds]; exact hin e' (List.mem_cons_of_mem _ he')) hd (by show _ = (a.tmps.setIfInBounds _ _).size; rw [Array.size_setIfInBounds]; exact hs) (fun t hall => ?_) (fun e' he' => hf e' (List.mem_cons_of_mem _ he'))
    rw [tmps_put hlt]
    by_cases hq : e.2.1 = t
    · subst hq
      rw [if_pos rfl]
      exact hv
    · rw [if_neg hq]
      exact ht t (by rw [List.all_cons, hall, Bool.and_true]; simpa using hq)
theorem does_wp {oi : Oper} {a : Act} {w : World} {t : Tmp} {K : Act → World → Prop} {R : Value → World → Prop} (hdst : oi.dst = some t) (hw : Region.wanted oi (yielded ops a.tmps) = true) (h : Does P oi a w R) (hK : ∀ v w', R v w' → K (a.put (some t) v) w') :
    if Region.wanted oi (yielded ops a.tmps) = true then Oper.wp P oi a w K Q else K (a.put oi.dst undef) w := by
  rw [if_pos hw]
  unfold Oper.wp
  rcases h with ⟨v, w', hr, hR⟩ | ⟨f, args, hr, hc⟩
  · rw [hr]
    show K (a.put oi.dst v) w'
    rw [hdst]
    exact hK _ _ hR
  · rw [hr]
    refine hc.mono ?_
    rintro e w' ⟨v, rfl, hR⟩
    show K (a.put oi.dst v) w'
    rw [hdst]
    exact hK _ _ hR
theorem mono_steps (hd : distinctB L = true) (hin : insideB L a0.tmps.size = true) (hL : ∀ e ∈ L, O.contains e.1 = true) {e : Nat × Tmp × VP} (he : e ∈ L) (hs : MStep P ops L B a0 w0 e) : StepAt P ops Q B O (MI L a0 w0) e.1 := by
  intro b a w h hbi hon hoff
  obtain ⟨oi, ho, hdst, h1⟩ := hs a w (MI_have h hL hon hoff)
  refine ⟨oi, ho, fun K hK => ?_⟩
  rcases h1 with ⟨hw, hdo⟩ | ⟨hw, hp⟩
  · exact does_wp hdst hw hdo (fun v w' hR => hK.out _ _ (MI_step hd hin he h hbi hR.1 hR.2))
  · rw [hw, if_neg (by simp), hdst]
    exact hK.out _ _ (MI_step hd hin he h hbi (Below.refl _ _) hp)
/-- THE REGION: all its operations are of this kind. -/
theorem mono_region {id n : Nat} (L : Facts) (hT : rtab .any ops = T) (hw : waitsOk T.2 B = true) (hm : P.follows .mixedOrders = true) (hn : ops.size = n)
    (hk : baseOk T.2 (List.range n) = true) (hl : (lof T.2.length (List.range n) (fun _ => false) == List.replicate n false) = true)
    (hd : distinctB L = true) (hin : insideB L a0.tmps.size = true) (hL : (L.map (·.1) == List.range n) = true)
    (hs : ∀ e ∈ L, MStep P ops L B a0 w0 e)
    (hend : ∀ w, Below w0.heap.size w0 w → Ends w (fun a => Q .normal a w) L a0) : (Code.region id ops true).wp P Q a0 w0 := by
  have hmem : ∀ e ∈ L, (List.range n).contains e.1 = true := fun e he => by
    rw [← beq_iff_eq.1 hL]
    simpa using List.mem_map_of_mem (f := (·.1)) he
  refine start_ (n := n) (S := fun _ => True) (ds := []) (Array.replicate n false) hm hn rfl trivial (fun _ => ?_)
  refine inv_ (List.range n) (MI L a0 w0) hT hw hk (by rw [Array.toList_replicate, hl]; simp) (MI_start _ (below_drew (Below.refl _ _))) (fun i hi => ?_) (fun b a w hall h => ?_)
  · have : i ∈ L.map (·.1) := by rw [beq_iff_eq.1 hL]; exact hi
    obtain ⟨e, he, rfl⟩ := List.mem_map.1 this
    exact mono_steps hd hin hmem he (hs e he)
  · obtain ⟨h1, h2, h3, h4, h5⟩ := h
    simp only [distinctB, Bool.and_eq_true, decide_eq_true_eq] at hd
    exact Ends_of (R := fun a => Q .normal a w) (hend w h1) hd.2 (fun e he => Nat.le_of_ble_eq_true (List.all_eq_true.1 hin e he)) h2 h3 h4 (fun e he => (h5 e he).2 (hall _ (hmem e he)))
/-- THE REGION, ITS LAST OPERATION OF ANY KIND (a store): all others come first. -/
theorem mono_sink {id n s : Nat} (L : Facts) (hT : rtab .any ops = T) (hw : waitsOk T.2 B = true) (hm : P.follows .mixedOrders = true) (hn : ops.size = n)
    (hk : baseOk T.2 (List.range n) = true) (hl : (lof T.2.length (List.range n) (fun _ => false) == List.replicate n false) = true)
    (hd : distinctB L = true) (hin : insideB L a0.tmps.size = true) (hL : (L.map (·.1) ++ [s] == List.range n && L.all fun e => (B.getD s 0).testBit e.1) = true)
    (hs : ∀ e ∈ L, MStep P ops L B a0 w0 e)
    (hend : ∀ w, Below w0.heap.size w0 w → Ends w (fun a => ∃ oi, ops[s]? = some oi ∧ ∀ K : Act → World → Prop, (∀ a' w', Q .normal a' w' → K a' w') → if Region.wanted oi (yielded ops a.tmps) = true then Oper.wp P oi a w K Q else K (a.put oi.dst undef) w) L a0) : (Code.region id ops true).wp P Q a0 w0 := by
  rw [Bool.and_eq_true] at hL
  obtain ⟨hL, hbits⟩ := hL
  have hmem : ∀ e ∈ L, (List.range n).contains e.1 = true := fun e he => by
    rw [← beq_iff_eq.1 hL]
    simp only [List.contains_eq_mem, List.mem_append, decide_eq_true_eq]
    exact .inl (List.mem_map_of_mem (f := (·.1)) he)
  have hsm : (List.range n).contains s = true := by
    rw [← beq_iff_eq.1 hL]
    simp
  refine start_ (n := n) (S := fun _ => True) (ds := []) (Array.replicate n false) hm hn rfl trivial (fun _ => ?_)
  refine inv_ (List.range n) (fun b a w => if b s = true then Q .normal a w else MI L a0 w0 b a w) hT hw hk (by rw [Array.toList_replicate, hl]; simp) (by rw [if_neg (by simp)]; exact MI_start _ (below_drew (Below.refl _ _))) (fun i hi => ?_) (fun b a w hall h => ?_)
  · have : i ∈ L.map (·.1) ++ [s] := by rw [beq_iff_eq.1 hL]; exact hi
    rcases List.mem_append.1 this with h | h
    · obtain ⟨e, he, rfl⟩ := List.mem_map.1 h
      intro b a w hI hbi hon hoff
      have hbs : b s = false := hoff s (by rw [hsm, List.all_eq_true.1 hbits e he]; rfl)
      have hne : s ≠ e.1 := by
        rintro rfl
        have hnd : (L.map (·.1) ++ [e.1]).Nodup := by rw [beq_iff_eq.1 hL]; exact List.nodup_range
        rw [List.nodup_append] at hnd
        exact hnd.2.2 _ (List.mem_map_of_mem (f := (·.1)) he) _ (List.mem_singleton.2 rfl) rfl
      simp only [hbs, Bool.false_eq_true, if_false] at hI
      obtain ⟨oi, ho, hq⟩ := mono_steps (Q := Q) (O := List.range n) hd hin hmem he (hs e he) b a w hI hbi hon hoff
      refine ⟨oi, ho, fun K hK => hq K (fun a' w' h' => hK.out a' w' ?_)⟩
      show if up b e.1 s = true then _ else _
      rw [up_ne hne, hbs, if_neg (by simp)]
      exact h'
    · obtain rfl := List.mem_singleton.1 h
      intro b a w hI hbi hon hoff
      simp only [hbi, Bool.false_eq_true, if_false] at hI
      obtain ⟨h1, h2, h3, h4, h5⟩ := hI
      have hd' := hd
      simp only [distinctB, Bool.and_eq_true, decide_eq_true_eq] at hd'
      obtain ⟨oi, ho, hq⟩ := Ends_of (hend w h1) hd'.2 (fun e he => Nat.le_of_ble_eq_true (List.all_eq_true.1 hin e he)) h2 h3 h4 (fun e he => (h5 e he).2 (hon _ (by rw [hmem e he, List.all_eq_true.1 hbits e he]; rfl)))
      exact ⟨oi, ho, fun K hK => hq K (fun a' w' hQ => hK.out a' w' (by show if up b i i = true then _ else _; rw [up_self, if_pos rfl]; exact hQ))⟩
  · have := hall s hsm
    simpa only [this, if_true] using h
end
theorem ms_nil {M : Nat × Tmp × VP → Prop} : ∀ e ∈ ([] : Facts), M e := fun _ h => by cases h
theorem ms_cons {M : Nat × Tmp × VP → Prop} {e : Nat × Tmp × VP} {r : Facts} (h : M e) (hs : ∀ x ∈ r, M x) : ∀ x ∈ e :: r, M x := fun x hx => by
  rcases List.mem_cons.1 hx with rfl | hx
  · exact h
  · exact hs x hx
/-- An operation without a guard that comes to a value by itself. -/
theorem ms_val {P : Program} {ops : Array Oper} {oi : Oper} {a : Act} {w : World} {t : Tmp} {p : VP} {i : Nat} (hi : ops[i]? = some oi) (hd : oi.dst = some t) (hw : Region.wanted oi (yielded ops a.tmps) = true) (v : Value) (w' : World) (hr : (execOp a.eval oi).run P w = .ok (.value v) w') (hb : Below w.heap.size w w') (hp : p.p v w') :
    ∃ oi, ops[i]? = some oi ∧ oi.dst = some t ∧ ((Region.wanted oi (yielded ops a.tmps) = true ∧ Does P oi a w fun v w' => Below w.heap.size w w' ∧ p.p v w') ∨ (Region.wanted oi (yielded ops a.tmps) = false ∧ p.p undef w)) :=
  ⟨oi, hi, hd, .inl ⟨hw, .inl ⟨v, w', hr, hb, hp⟩⟩⟩
theorem ms_off {P : Program} {ops : Array Oper} {oi : Oper} {a : Act} {w : World} {t : Tmp} {p : VP} {i : Nat} (hi : ops[i]? = some oi) (hd : oi.dst = some t) (hw : Region.wanted oi (yielded ops a.tmps) = false) (hp : p.p undef w) :
    ∃ oi, ops[i]? = some oi ∧ oi.dst = some t ∧ ((Region.wanted oi (yielded ops a.tmps) = true ∧ Does P oi a w fun v w' => Below w.heap.size w w' ∧ p.p v w') ∨ (Region.wanted oi (yielded ops a.tmps) = false ∧ p.p undef w)) :=
  ⟨oi, hi, hd, .inr ⟨hw, hp⟩⟩
theorem ms_call {P : Program} {ops : Array Oper} {oi : Oper} {a : Act} {w : World} {t : Tmp} {p : VP} {i : Nat} (hi : ops[i]? = some oi) (hd : oi.dst = some t) (hw : Region.wanted oi (yielded ops a.tmps) = true) {f : FuncId} {fn : Func} {xs : Array Operand} {ts : Array TypeId} (hf : P.funcs[f]? = some fn) (hname : (fn.name == "runtime.NumGoroutine") = false) (hbd : fn.body.isSome = true) (args : Array Value)
    (hop : oi.op = .call { callee := .value (.func f), args := xs, argTypes := ts }) (hargs : xs.map a.eval = args) (h : Calls P f args w fun e w' => ∃ v, e = .returned v ∧ Below w.heap.size w w' ∧ p.p v w') :
    ∃ oi, ops[i]? = some oi ∧ oi.dst = some t ∧ ((Region.wanted oi (yielded ops a.tmps) = true ∧ Does P oi a w fun v w' => Below w.heap.size w w' ∧ p.p v w') ∨ (Region.wanted oi (yielded ops a.tmps) = false ∧ p.p undef w)) :=
  ⟨oi, hi, hd, .inl ⟨hw, .inr ⟨f, args, by
    have he := enters_ hf hname hbd args w
    unfold execOp
    simp [hop, resolve, Deferred.ofValue, invoke, Act.eval, hargs, he], h⟩⟩⟩
/-- A call of a function value that has captured something. -/
theorem ms_callv {P : Program} {ops : Array Oper} {oi : Oper} {a : Act} {w : World} {t : Tmp} {p : VP} {i : Nat} (hi : ops[i]? = some oi) (hd : oi.dst = some t) (hw : Region.wanted oi (yielded ops a.tmps) = true) {f : FuncId} {fn : Func} {xs : Array Operand} {ts : Array TypeId} (hf : P.funcs[f]? = some fn) (hname : (fn.name == "runtime.NumGoroutine") = false) (hbd : fn.body.isSome = true) (x : Operand) (captured args : Array Value)
    (hop : oi.op = .call { callee := .value x, args := xs, argTypes := ts }) (hx : a.eval x = .func (.func f) #[] captured) (hargs : xs.map a.eval ++ captured = args) (h : Calls P f args w fun e w' => ∃ v, e = .returned v ∧ Below w.heap.size w w' ∧ p.p v w') :
    ∃ oi, ops[i]? = some oi ∧ oi.dst = some t ∧ ((Region.wanted oi (yielded ops a.tmps) = true ∧ Does P oi a w fun v w' => Below w.heap.size w w' ∧ p.p v w') ∨ (Region.wanted oi (yielded ops a.tmps) = false ∧ p.p undef w)) :=
  ⟨oi, hi, hd, .inl ⟨hw, .inr ⟨f, args, by
    have he := enters_ hf hname hbd args w
    unfold execOp
    simp [hop, resolve, hx, Deferred.ofValue, invoke, hargs, he], h⟩⟩⟩
end Go.Proofs.Ytjpkjakdhbnehaa.Q
