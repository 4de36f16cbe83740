/- RecordLasts: for every input the statement's function returns true; there is no further condition. Text 4 of 6: this session's texts, laid together by its own program (merge.py). Not trusted: Lean checks them. -/
import Derived.Test.YtjpkjakdhbnehaaMRecordLasts2
import Derived.Maps.AppendAt
import Derived.Test.YtjpkjakdhbnehaaMRecordLasts1
import Derived.Test.YtjpkjakdhbnehaaMRecordLasts0
section
/- Elements of a row told one by one, so that what lies behind a row's end may be written; an append that tells what it leaves. -/
namespace Go.Proofs.Ytjpkjakdhbnehaa.Q
open Go.RowKit Go.Proofs.YtjpkjakdhbnehaaW.PrintWords Go.Proofs.YtjpkjakdhbnehaaW.PrintLast Go.Proofs.YtjpkjakdhbnehaaW.PrintMore
set_option linter.unusedVariables false
set_option linter.unusedSimpArgs false
/-- Element k of block g reads as x; what it leads to lies in ok. -/
def EAt {α : Type} (d : Kd α) (w : World) (ok : Nat → Prop) (g k : Nat) (x : α) : Prop :=
  ∃ c : List Value, c.length = d.sz ∧ (∀ j u, c[j]? = some u → w.cell? ⟨g, k * d.sz + j, none⟩ = some u) ∧ Kd.FK d w ok x c
/-- A row of elements of block g, from place f on. -/
def VAt {α : Type} (d : Kd α) (w : World) (ok : Nat → Prop) (g f : Nat) (xs : List α) : Prop := ∀ m x, xs[m]? = some x → EAt d w ok g (f + m) x
section
variable {α : Type} {d : Kd α} {w w1 : World} {ok ok' : Nat → Prop} {g f k : Nat} {x : α} {xs : List α}
theorem EAt.step (h : EAt d w ok g k x) (hc : ∀ j, j < d.sz → w1.cell? ⟨g, k * d.sz + j, none⟩ = w.cell? ⟨g, k * d.sz + j, none⟩) (hm : ∀ q, ok q → q < w.heap.size → w1.heap[q]? = w.heap[q]?) : EAt d w1 ok g k x := by
  obtain ⟨c, h1, h2, h3⟩ := h
  refine ⟨c, h1, fun j u hj => ?_, Kd.FK_step h3 hm⟩
  have hl : j < d.sz := by rw [← h1]; exact (List.getElem?_eq_some_iff.1 hj).1
  rw [hc j hl]
  exact h2 j u hj
theorem EAt.mono (h : EAt d w ok g k x) (hok : ∀ q, ok q → q < w.heap.size → ok' q) : EAt d w ok' g k x := by
  obtain ⟨c, h1, h2, h3⟩ := h
  exact ⟨c, h1, h2, Kd.FK_mono (Kd.FK_bound h3) (fun q hq => hok q hq.1 hq.2)⟩
theorem EAt.below (h : EAt d w ok g k x) (hb : Below w.heap.size w w1) : EAt d w1 ok g k x :=
  h.step (fun j hj => by
    by_cases hg : g < w.heap.size
    · exact cell_congr_blk (hb.block g hg) _ rfl
    · exfalso
      obtain ⟨c, h1, h2, _⟩ := h
      obtain ⟨u, hu⟩ : ∃ u, c[j]? = some u := ⟨_, List.getElem?_eq_getElem (by omega)⟩
      exact hg (World.block_lt_of_cell? w _ (h2 j u hu))) (fun q _ hq => hb.block q hq)
where cell_congr_blk {w1 w2 : World} {g : Nat} (h : w2.heap[g]? = w1.heap[g]?) (a : Addr) (ha : a.block = g) : w2.cell? a = w1.cell? a := by unfold World.cell?; rw [ha, h]
theorem VAt.below (h : VAt d w ok g f xs) (hb : Below w.heap.size w w1) : VAt d w1 ok g f xs := fun m x hx => (h m x hx).below hb
theorem VAt.mono (h : VAt d w ok g f xs) (hok : ∀ q, ok q → q < w.heap.size → ok' q) : VAt d w ok' g f xs := fun m x hx => (h m x hx).mono hok
theorem VAt.nil : VAt d w ok g f [] := fun m x hx => by simp at hx
/-- A block that is not turned. -/
theorem VAt.far (h : VAt d w ok g f xs) (hg : w1.heap[g]? = w.heap[g]?) (hm : ∀ q, ok q → q < w.heap.size → w1.heap[q]? = w.heap[q]?) : VAt d w1 ok g f xs :=
  fun m x hx => (h m x hx).step (fun j _ => by unfold World.cell?; rw [hg]) hm
/-- A block that is turned behind place n. -/
theorem VAt.near {n : Nat} (h : VAt d w ok g f xs) (hn : f + xs.length ≤ n) (hc : ∀ j, j < n * d.sz → w1.cell? ⟨g, j, none⟩ = w.cell? ⟨g, j, none⟩) (hm : ∀ q, ok q → q < w.heap.size → w1.heap[q]? = w.heap[q]?) : VAt d w1 ok g f xs := by
  intro m x hx
  have hl : m < xs.length := (List.getElem?_eq_some_iff.1 hx).1
  refine (h m x hx).step (fun j hj => hc _ ?_) hm
  have h1 : (f + m + 1) * d.sz ≤ n * d.sz := Nat.mul_le_mul_right _ (by omega)
  rw [Nat.add_mul, Nat.one_mul] at h1
  omega
theorem VAt.seg (h : VAt d w ok g f xs) (a b : Nat) (ha : a ≤ b) : VAt d w ok g (f + a) ((xs.take b).drop a) := by
  intro m x hx
  rw [List.getElem?_drop] at hx
  have hlt : a + m < b := by
    have := (List.getElem?_eq_some_iff.1 hx).1
    rw [List.length_take] at this
    omega
  rw [List.getElem?_take_of_lt hlt] at hx
  have := h (a + m) x hx
  rwa [← Nat.add_assoc] at this
theorem VAt.snoc (h : VAt d w ok g f xs) (hx : EAt d w ok g (f + xs.length) x) : VAt d w ok g f (xs ++ [x]) := by
  intro m y hy
  rcases Nat.lt_trichotomy m xs.length with hm | hm | hm
  · rw [List.getElem?_append_left hm] at hy
    exact h m y hy
  · subst hm
    rw [List.getElem?_append_right (Nat.le_refl _), Nat.sub_self] at hy
    simp at hy
    subst hy
    exact hx
  · rw [List.getElem?_append_right (by omega)] at hy
    have := (List.getElem?_eq_some_iff.1 hy).1
    simp at this
    omega
/-- What such a row reads as. -/
theorem VAt.C (h : VAt d w ok g f xs) (hmax : xs.length ≤ 9223372036854775807) : Kd.C d w (some ⟨g, f * d.sz, none⟩) xs.length xs := by
  refine ⟨rfl, hmax, fun _ => ⟨_, rfl, fun j p hj => ?_⟩⟩
  obtain ⟨c, h1, h2, h3⟩ := h j p hj
  refine ⟨c, h1, Kd.FK_now h3, fun i u hi => ?_⟩
  rw [add_at, ← Nat.add_assoc, ← Nat.add_mul]
  exact h2 i u hi
theorem VAt.F (h : VAt d w ok g f xs) (hmax : xs.length ≤ 9223372036854775807) (hg : ok g) : Kd.F d w ok (some ⟨g, f * d.sz, none⟩) xs.length xs := by
  intro W' hW
  refine VAt.C (ok := ok) (fun m x hx => ?_) hmax
  refine (h m x hx).step (fun j hj => ?_) hW
  obtain ⟨c, h1, h2, _⟩ := h m x hx
  obtain ⟨u, hu⟩ : ∃ u, c[j]? = some u := ⟨_, List.getElem?_eq_getElem (by omega)⟩
  have hlt := World.block_lt_of_cell? w _ (h2 j u hu)
  unfold World.cell?
  rw [hW g hg hlt]
theorem VAt.FK {n e : Nat} (h : VAt d w ok g f xs) (hmax : xs.length ≤ 9223372036854775807) (hg : ok g) (hn : xs.length ≤ n) : Kd.FK (Kd.slice e d) w ok xs [.slice (some ⟨g, f * d.sz, none⟩) xs.length n] :=
  fun W' hW => ⟨_, n, rfl, hn, VAt.F h hmax hg W' hW⟩
end
/-- What an own row's cells are. -/
theorem own_cells {w w1 : World} {base : Nat} {e size n g : Nat} {v v1 : Value} {inner ys : List Value} (h : w.ownsRow base e size v n inner) (h1 : w1.ownsRow base e size v1 (n + 1) (inner ++ ys)) (hg : v.ownBlock = some g) (hg1 : v1.ownBlock = some g) :
    ∀ j, j < n * size → w1.cell? ⟨g, j, none⟩ = w.cell? ⟨g, j, none⟩ := by
  intro j hj
  have hl : inner.length = n * size := h.1
  rcases h.2 with ⟨rfl, _⟩ | ⟨g0, cap, cur, rfl, _, hh, hn, hm, hs, ht⟩
  · simp [Value.ownBlock] at hg
  have : g0 = g := by simpa [Value.ownBlock] using hg
  subst this
  rcases h1.2 with ⟨rfl, _⟩ | ⟨g1, cap1, cur1, rfl, _, hh1, hn1, hm1, hs1, ht1⟩
  · simp [Value.ownBlock] at hg1
  have : g1 = g0 := by simpa [Value.ownBlock] using hg1
  subst this
  rw [blk_cell hh, blk_cell hh1]
  have e0 : cur[j]? = inner[j]? := by rw [← ht, List.getElem?_take_of_lt hj]; simp
  have e1 : cur1[j]? = (inner ++ ys)[j]? := by rw [← ht1, List.getElem?_take_of_lt (by rw [Nat.add_mul]; omega)]; simp
  rw [e0, e1, List.getElem?_append_left (by omega)]
theorem own_new {w1 : World} {base : Nat} {e size n g : Nat} {v1 : Value} {inner ys : List Value} (hl : inner.length = n * size) (h1 : w1.ownsRow base e size v1 (n + 1) (inner ++ ys)) (hg1 : v1.ownBlock = some g) :
    ∀ j u, ys[j]? = some u → w1.cell? ⟨g, n * size + j, none⟩ = some u := by
  intro j u hj
  rcases h1.2 with ⟨rfl, _⟩ | ⟨g1, cap1, cur1, rfl, _, hh1, hn1, hm1, hs1, ht1⟩
  · simp [Value.ownBlock] at hg1
  have : g1 = g := by simpa [Value.ownBlock] using hg1
  subst this
  have hjl : j < ys.length := (List.getElem?_eq_some_iff.1 hj).1
  have hl1 : (inner ++ ys).length = (n + 1) * size := h1.1
  rw [List.length_append] at hl1
  rw [blk_cell hh1]
  have e1 : cur1[n * size + j]? = (inner ++ ys)[n * size + j]? := by rw [← ht1, List.getElem?_take_of_lt (by omega)]; simp
  rw [e1, List.getElem?_append_right (by omega), hl, Nat.add_sub_cancel_left]
  exact hj
/-- An own row moved: the elements that stand in its block. -/
theorem own_cell_of {w : World} {base : Nat} {e size n g : Nat} {v : Value} {inner : List Value} (h : w.ownsRow base e size v n inner) (hg : v.ownBlock = some g) : ∀ j u, inner[j]? = some u → w.cell? ⟨g, j, none⟩ = some u := by
  intro j u hj
  rcases h.2 with ⟨rfl, _⟩ | ⟨g0, cap, cur, rfl, _, hh, hn, hm, hs, ht⟩
  · simp [Value.ownBlock] at hg
  have : g0 = g := by simpa [Value.ownBlock] using hg
  subst this
  have hjl : j < inner.length := (List.getElem?_eq_some_iff.1 hj).1
  have hl : inner.length = n * size := h.1
  rw [blk_cell hh]
  have e0 : cur[j]? = inner[j]? := by rw [← ht, List.getElem?_take_of_lt (by omega)]; simp
  rw [e0]
  exact hj
section
variable {P : Program} {ops : Array Oper} {rest : List Oper} {o : Oper} {a : Act} {Q : Exit → Act → World → Prop}
/-- append(v, x): in its place, or in a new block, and then all that was stays. -/
theorem wl_append_full {w0 W : World} (base : Nat) (hgd : o.guard = none) (s x : Operand) (t e : TypeId) (z : Value) (size bytes : Nat)
    (ho : o.op = .call { callee := .builtin .append, args := #[s, x], argTypes := #[t, t] })
    (ht : P.underlying t = some (.slice e)) (hinfo : (P.info? e).map (fun i => (i.zero, i.size, i.bytes)) = some (some z, size, bytes)) (hz : z.cells.size = size) (hs0 : 0 < size) (hb0 : 0 < bytes)
    (v : Value) (n : Nat) (xs ys : List Value) (hs : a.eval s = v) (hx : a.eval x = .slice (some ⟨W.heap.size, 0, none⟩) 1 1) (hys : ys.length = size) (h1 : ∀ u ∈ ys, u.oneCell' = true)
    (HO : W.ownsRow base e size v n xs) (HB : Below base w0 W) (hbase : base ≤ W.heap.size) (hl : (n + 1) * bytes ≤ 140737488355328)
    (h : ∀ v1 w1, w1.ownsRow base e size v1 (n + 1) (xs ++ ys) → Below base w0 w1 → W.grownBy w1 v.ownBlock → (v1.ownBlock = v.ownBlock ∨ (∃ b, v1.ownBlock = some b ∧ W.heap.size ≤ b) ∧ ∀ k, k < W.heap.size → w1.heap[k]? = W.heap[k]?) → wpList P ops Q rest (a.put o.dst v1) w1) :
    wpList P ops Q (o :: rest) a (W.alloc (.cells ys.toArray e)) := by
  obtain ⟨i0, hi, hzz⟩ := Option.map_eq_some_iff.1 hinfo
  simp only [Prod.mk.injEq] at hzz
  obtain ⟨hz0, hz1, hz2⟩ := hzz
  have hlen : n + 1 ≤ 140737488355328 := Nat.le_trans (Nat.le_mul_of_pos_right _ hb0) hl
  have hnews : ∀ j u, ys[j]? = some u → (W.alloc (.cells ys.toArray e)).cell? ((⟨W.heap.size, 0, none⟩ : Addr).add j) = some u := by
    simpa using World.news_of_block (cs := ys.toArray) (t := e) (fr := (0, 0)) (heap_alloc_new W (.cells ys.toArray e))
  obtain ⟨v1, w1, hr, h2, h3, h4, h5⟩ := run_append_own_at (P := P) (W.alloc (.cells ys.toArray e)) base t o.type e i0 z size bytes ht hi hz0 hz1 hz2 hz hs0 v n xs (HO.alloc _) ⟨W.heap.size, 0, none⟩ 1 1 ys (by rw [hys]; simp) hnews h1 (by simp only [maxLen]; omega) hl (by simp; omega)
  have hold : ∀ k, k < W.heap.size → (W.alloc (.cells ys.toArray e)).heap[k]? = W.heap[k]? := fun k hk => heap_alloc_old W _ hk
  have hat : v1.ownBlock = v.ownBlock ∨ (∃ b, v1.ownBlock = some b ∧ W.heap.size ≤ b) ∧ ∀ k, k < W.heap.size → w1.heap[k]? = W.heap[k]? := by
    rcases h5 with h5 | h5
    · exact .inl h5
    · rcases (HO.alloc (.cells ys.toArray e)).2 with ⟨rfl, _⟩ | ⟨g, cap, cur, rfl, hbg, hg, hnc, hcm, hcs, htake⟩
      · exact .inr ⟨⟨_, h5, by simp⟩, fun k hk => (h3.block k (by simp; omega) (by simp [Value.ownBlock])).trans (hold k hk)⟩
      · subst hz1
        by_cases hroom : n + 1 ≤ cap
        · have hfit : n * i0.size + ys.length ≤ cur.size := by rw [hys, hcs, ← Nat.succ_mul]; exact Nat.mul_le_mul_right _ hroom
          have hr2 := run_append_room (P := P) (W.alloc (.cells ys.toArray e)) t o.type e i0 ht hi g n cap cur hg ⟨W.heap.size, 0, none⟩ 1 1 ys (by rw [hys]; simp) hnews h1 hroom hfit
          rw [hr2] at hr
          injection hr with hv _
          subst hv
          exact .inl rfl
        · have holds := (HO.alloc (.cells ys.toArray e)).cells (g := g) rfl
          have hr2 := run_append_grow (P := P) (W.alloc (.cells ys.toArray e)) t o.type e i0 z ht hi hz0 ⟨g, 0, none⟩ n cap xs HO.1 holds ⟨W.heap.size, 0, none⟩ 1 1 ys (by rw [hys]; simp) hnews (by omega) (by omega) (growslice_fits (by omega) (by rw [hz2]; exact hl))
          rw [hr2] at hr
          injection hr with hv hw
          subst hw
          exact .inr ⟨⟨_, h5, by simp⟩, fun k hk => (heap_alloc_old _ _ (by simp; omega)).trans (hold k hk)⟩
  refine wpList_plain hgd fun K hK => ?_
  unfold Oper.wp execOp
  simp only [ho, resolve, invoke, builtin, Sem.run_bind, Sem.run_pure, Result.andThen_ok, List.map_toArray, List.map_cons, List.map_nil, hs, hx, hr]
  exact hK _ _ (h v1 w1 h2 ((HB.alloc hbase _).grown h3 (by simp; omega) (own_base HO)) (World.grownBy.trans (World.grownBy_alloc W _ _) h3) hat)
end
end Go.Proofs.Ytjpkjakdhbnehaa.Q
end
section
/- record.Changes: what it computes, and where it lies. -/
namespace Go.Proofs.Ytjpkjakdhbnehaa.Q
open Go.RowKit Go.Proofs.YtjpkjakdhbnehaaW.PrintWords Go.Proofs.YtjpkjakdhbnehaaW.PrintLast Go.Proofs.YtjpkjakdhbnehaaW.PrintMore
attribute [local go_sem] max2_int min2_int max_two min_two max_three min_three max_four min_four
set_option linter.unusedVariables false
set_option linter.unusedSimpArgs false
def chgStep (s : List S25 × List (List S25)) (r : S30) : List S25 × List (List S25) := if r.f1 = true then ([], s.2 ++ [s.1 ++ [r.f0]]) else (s.1 ++ [r.f0], s.2)
def chgAt (l : List S30) (i : Nat) : List S25 × List (List S25) := (l.take i).foldl chgStep ([], [])
def chgV (l : List S30) : List (List S25) × Int := if 0 < l.length ∧ (rd_T30 l ((l.length : Int) - 1)).f1 = false then ([], 11) else ((chgAt l l.length).2, 0)
def chgOk (l : List S30) : Bool := decide (l.length ≤ 100000) && l.all fun x => decide (x.f0.f1.length ≤ 100000)
def xsAt (l : List S30) (i : Nat) : List S25 := (l.take i).map (·.f0)
theorem rd30_nat (l : List S30) (i : Nat) (hi : i < l.length) : rd_T30 l (i : Int) = l[i] := by
  unfold rd_T30
  rw [Int.toNat_natCast, List.getD_eq_getElem?_getD, List.getElem?_eq_getElem hi]
  rfl
theorem chgAt_succ (l : List S30) (i : Nat) (hi : i < l.length) : chgAt l (i + 1) = chgStep (chgAt l i) (rd_T30 l (i : Int)) := by
  unfold chgAt
  rw [List.take_succ_eq_append_getElem hi, List.foldl_append, rd30_nat l i hi]
  rfl
theorem xsAt_succ (l : List S30) (i : Nat) (hi : i < l.length) : xsAt l (i + 1) = xsAt l i ++ [(rd_T30 l (i : Int)).f0] := by
  unfold xsAt
  rw [List.take_succ_eq_append_getElem hi, List.map_append, rd30_nat l i hi]
  rfl
theorem xsAt_length (l : List S30) (i : Nat) (hi : i ≤ l.length) : (xsAt l i).length = i := by
  unfold xsAt
  rw [List.length_map, List.length_take]
  omega
def OKC (w : World) (v4 v5 : Value) (k : Nat) : Prop := w.heap.size ≤ k ∧ some k ≠ v4.ownBlock ∧ some k ≠ v5.ownBlock
def VR (w w' : World) (v4 v5 : Value) (n : Nat) (ys : List S25) (c : List Value) : Prop :=
  ∃ g f cp, c = [.slice (some ⟨g, f * 2, none⟩) ys.length cp] ∧ ys.length ≤ cp ∧ ys.length ≤ 9223372036854775807 ∧ w.heap.size ≤ g ∧ g < w'.heap.size ∧ some g ≠ v5.ownBlock ∧ (v4.ownBlock = some g → f + ys.length ≤ n) ∧ VAt k25 w' (OKC w v4 v5) g f ys
structure CI (w w' : World) (v4 v5 : Value) (xs : List S25) (outs : List (List S25)) : Prop where
  below : Below w.heap.size w w'
  own : ∃ inner, w'.ownsRow w.heap.size 25 2 v4 xs.length inner
  row : ∀ g, v4.ownBlock = some g → VAt k25 w' (OKC w v4 v5) g 0 xs
  outr : ∃ rows : List (List Value), rows.length = outs.length ∧ (Kd.raw 1).R 27 w' w.heap.size (fun _ => True) v5 rows ∧ ∀ (j : Nat) (ys : List S25) (c : List Value), outs[j]? = some ys → rows[j]? = some c → VR w w' v4 v5 xs.length ys c
theorem own_below {w w1 : World} {base : Nat} {e : TypeId} {size n : Nat} {v : Value} {xs : List Value} (h : w.ownsRow base e size v n xs) (hb : Below w.heap.size w w1) : w1.ownsRow base e size v n xs := own_move h (fun k hk => hb.block k (own_lt h k hk))
theorem VR.go {w w1 w2 : World} {v4 v5 : Value} {n : Nat} {ys : List S25} {c : List Value} (h : VR w w1 v4 v5 n ys c) (hb : Below w1.heap.size w1 w2) : VR w w2 v4 v5 n ys c := by
  obtain ⟨g, f, cp, h1, h2, h3, h4, h5, h6, h7, h8⟩ := h
  exact ⟨g, f, cp, h1, h2, h3, h4, Nat.lt_of_lt_of_le h5 hb.size, h6, h7, h8.below hb⟩
theorem CI.go {w w1 w2 : World} {v4 v5 : Value} {xs : List S25} {outs : List (List S25)} (h : CI w w1 v4 v5 xs outs) (hb : Below w1.heap.size w1 w2) : CI w w2 v4 v5 xs outs := by
  obtain ⟨inner, ho⟩ := h.own
  obtain ⟨rows, hl, hR, hv⟩ := h.outr
  exact ⟨h.below.trans (hb.mono h.below.size), ⟨inner, own_below ho hb⟩, fun g hg => (h.row g hg).below hb, rows, hl, Kd.R_below hR hb, fun j ys c h1 h2 => (hv j ys c h1 h2).go hb⟩
theorem CI.start (w : World) : CI w w (.slice none 0 0) (.slice none 0 0) [] [] :=
  ⟨Below.refl _ _, ⟨[], World.ownsRow_nil w _ _ 2⟩, fun g hg => by simp [Value.ownBlock] at hg, [], rfl, Kd.R_nil _ _ _ _ _, fun j ys c h1 h2 => by simp at h1⟩
theorem own_apart {w : World} {base base' e e' s s' n n' : Nat} {v v' : Value} {xs xs' : List Value} (h : w.ownsRow base e s v n xs) (h' : w.ownsRow base' e' s' v' n' xs') (hne : e ≠ e') (k : Nat) (hk : v.ownBlock = some k) : some k ≠ v'.ownBlock := by
  intro he
  obtain ⟨c1, h1⟩ := own_typed h k hk
  obtain ⟨c2, h2⟩ := own_typed h' k he.symm
  rw [h1] at h2
  injection h2 with h2
  injection h2 with _ h2
  exact hne h2
/-- One image more. -/
theorem CI.all {w W w1 : World} {v4 v5 v1 : Value} {xs : List S25} {outs : List (List S25)} {inner ys : List Value} {x : S25} (h : CI w W v4 v5 xs outs) (ho : W.ownsRow w.heap.size 25 2 v4 xs.length inner) (ho1 : w1.ownsRow w.heap.size 25 2 v1 (xs.length + 1) (inner ++ ys)) (hb1 : Below w.heap.size w w1)
    (hg : W.grownBy w1 v4.ownBlock) (hat : v1.ownBlock = v4.ownBlock ∨ (∃ b, v1.ownBlock = some b ∧ W.heap.size ≤ b) ∧ ∀ k, k < W.heap.size → w1.heap[k]? = W.heap[k]?) (hys : ys.length = 2) (hx : Kd.FK k25 W (OKC w v4 v5) x ys) : CI w w1 v1 v5 (xs ++ [x]) outs := by
  obtain ⟨rows, hl, hR, hv⟩ := h.outr
  obtain ⟨inner5, ho5⟩ := Kd.R_own hR
  have hsz := hg.size
  -- what is ok, moved
  have hok : ∀ q, OKC w v4 v5 q → q < W.heap.size → OKC w v1 v5 q := by
    rintro q ⟨h1, h2, h3⟩ hq
    refine ⟨h1, ?_, h3⟩
    rcases hat with hat | ⟨⟨b, hb, hle⟩, _⟩
    · rw [hat]; exact h2
    · rw [hb]
      intro he
      injection he with he
      omega
  have hmv : ∀ q, OKC w v1 v5 q → q < W.heap.size → w1.heap[q]? = W.heap[q]? := by
    rintro q ⟨h1, h2, h3⟩ hq
    rcases hat with hat | ⟨_, hall⟩
    · exact hg.block q hq (by rw [← hat]; exact h2)
    · exact hall q hq
  have ho5lt : ∀ k, v5.ownBlock = some k → some k ≠ v4.ownBlock := fun k hk => own_apart ho5 ho (by decide) k hk
  refine ⟨hb1, ⟨inner ++ ys, by rw [List.length_append, List.length_singleton]; exact ho1⟩, fun g hgv => ?_, rows, hl, ?_, fun j zs c h1 h2 => ?_⟩
  · -- the row itself
    have hnew : EAt k25 w1 (OKC w v1 v5) g (0 + xs.length) x := by
      rw [Nat.zero_add]
      refine ⟨ys, hys, fun j u hj => own_new ho.1 ho1 hgv j u hj, ?_⟩
      exact Kd.FK_step (Kd.FK_mono (Kd.FK_bound hx) (fun q hq => hok q hq.1 hq.2)) hmv
    refine VAt.snoc ?_ hnew
    intro m y hy
    have hml : m < xs.length := (List.getElem?_eq_some_iff.1 hy).1
    rcases hat with hat | ⟨⟨b, hb, hle⟩, hall⟩
    · rw [hat] at hgv
      exact ((h.row g hgv).mono hok).near (n := xs.length) (by omega) (own_cells ho ho1 hgv (hat.trans hgv)) hmv m y hy
    · -- a new block: its cells are those of the old one
      cases hv4 : v4.ownBlock with
      | none =>
        exfalso
        rcases ho.2 with ⟨rfl, h0⟩ | ⟨g0, cap, cur, rfl, _⟩
        · omega
        · simp [Value.ownBlock] at hv4
      | some g0 =>
        obtain ⟨c, e1, e2, e3⟩ := (h.row g0 hv4).mono hok m y hy
        refine ⟨c, e1, fun j u hj => ?_, Kd.FK_step e3 hmv⟩
        have e4 := e2 j u hj
        have hjl : j < 2 := by have := (List.getElem?_eq_some_iff.1 hj).1; rw [e1] at this; exact this
        have hil : (0 + m) * 2 + j < inner.length := by rw [ho.1]; omega
        have e5 := own_cell_of ho hv4 ((0 + m) * 2 + j) _ (List.getElem?_eq_getElem hil)
        have e6 : u = inner[(0 + m) * 2 + j] := Option.some.inj (e4.symm.trans e5)
        have e7 := own_cell_of ho1 hgv ((0 + m) * 2 + j) u (by rw [List.getElem?_append_left hil, List.getElem?_eq_getElem hil, e6])
        exact e7
  · exact Kd.R_mono (Kd.R_step (Kd.raw_tight hR) (fun k hk hlt => hg.block k hlt (ho5lt k hk.symm))) (fun _ _ => trivial)
  · obtain ⟨g, f, cp, c1, c2, c3, c4, c5, c6, c7, c8⟩ := hv j zs c h1 h2
    refine ⟨g, f, cp, c1, c2, c3, c4, Nat.lt_of_lt_of_le c5 hsz, c6, fun hgv => ?_, ?_⟩
    · rcases hat with hat | ⟨⟨b, hb, hle⟩, hall⟩
      · have := c7 (hat ▸ hgv)
        rw [List.length_append]
        omega
      · rw [hb] at hgv
        injection hgv with hgv
        omega
    · by_cases hgv : v4.ownBlock = some g
      · rcases hat with hat | ⟨⟨b, hb, hle⟩, hall⟩
        · exact (c8.mono hok).near (n := xs.length) (c7 hgv) (own_cells ho ho1 hgv (hat.trans hgv)) hmv
        · exact (c8.mono hok).far (hall g c5) hmv
      · exact (c8.mono hok).far (hg.block g c5 (fun he => hgv he.symm)) hmv
/-- One change more. -/
theorem CI.out {w W w1 : World} {v4 v5 v1 : Value} {xs : List S25} {outs : List (List S25)} {rows : List (List Value)} {ys : List S25} {c : List Value} (h : CI w W v4 v5 xs outs) (hl : rows.length = outs.length) (hv : ∀ (j : Nat) (ys : List S25) (c : List Value), outs[j]? = some ys → rows[j]? = some c → VR w W v4 v5 xs.length ys c) (hR : (Kd.raw 1).R 27 W w.heap.size (fun _ => True) v5 rows)
    (hR1 : (Kd.raw 1).R 27 w1 w.heap.size (fun _ => True) v1 (rows ++ [c])) (hb1 : Below w.heap.size w w1) (hg : W.grownBy w1 v5.ownBlock) (hat : v1.ownBlock = v5.ownBlock ∨ ∃ b, v1.ownBlock = some b ∧ W.heap.size ≤ b) (hx : VR w W v4 v5 xs.length ys c) : CI w w1 v4 v1 xs (outs ++ [ys]) := by
  obtain ⟨inner, ho⟩ := h.own
  obtain ⟨inner5, ho5⟩ := Kd.R_own hR
  have hsz := hg.size
  have hmv : ∀ q, (OKC w v4 v5 q ∧ q < W.heap.size) → q < W.heap.size → w1.heap[q]? = W.heap[q]? := fun q hq hlt => hg.block q hlt hq.1.2.2
  have hne1 : ∀ q, q < W.heap.size → some q ≠ v5.ownBlock → some q ≠ v1.ownBlock := by
    intro q hq h5
    rcases hat with hat | ⟨b, hb, hle⟩
    · rw [hat]; exact h5
    · rw [hb]
      intro he
      injection he with he
      omega
  have hok : ∀ q, (OKC w v4 v5 q ∧ q < W.heap.size) → OKC w v4 v1 q := fun q hq => ⟨hq.1.1, hq.1.2.1, hne1 q hq.2 hq.1.2.2⟩
  have hfar : ∀ {g f : Nat} {zs : List S25}, VAt k25 W (OKC w v4 v5) g f zs → w1.heap[g]? = W.heap[g]? → VAt k25 w1 (OKC w v4 v1) g f zs := fun hz hgg => ((hz.mono (ok' := fun q => OKC w v4 v5 q ∧ q < W.heap.size) (fun q h1 h2 => ⟨h1, h2⟩)).far hgg hmv).mono (fun q hq _ => hok q hq)
  have h4 : ∀ k, v4.ownBlock = some k → w1.heap[k]? = W.heap[k]? := fun k hk => hg.block k (own_lt ho k hk) (own_apart ho ho5 (by decide) k hk)
  have hVR : ∀ {zs : List S25} {c' : List Value}, VR w W v4 v5 xs.length zs c' → VR w w1 v4 v1 xs.length zs c' := by
    rintro zs c' ⟨g, f, cp, c1, c2, c3, c4, c5, c6, c7, c8⟩
    exact ⟨g, f, cp, c1, c2, c3, c4, Nat.lt_of_lt_of_le c5 hsz, hne1 g c5 c6, c7, hfar c8 (hg.block g c5 c6)⟩
  refine ⟨hb1, ⟨inner, own_move ho h4⟩, fun g hgv => hfar (h.row g hgv) (h4 g hgv), rows ++ [c], by simp [hl], hR1, fun j zs c' h1 h2 => ?_⟩
  rcases Nat.lt_trichotomy j outs.length with hj | hj | hj
  · rw [List.getElem?_append_left hj] at h1
    rw [List.getElem?_append_left (by omega)] at h2
    exact hVR (hv j zs c' h1 h2)
  · subst hj
    rw [List.getElem?_append_right (Nat.le_refl _), Nat.sub_self] at h1
    rw [List.getElem?_append_right (by omega), hl, Nat.sub_self] at h2
    simp at h1 h2
    subst h1
    subst h2
    exact hVR hx
  · rw [List.getElem?_append_right (by omega)] at h1
    have := (List.getElem?_eq_some_iff.1 h1).1
    simp at this
    omega
/-- What is told of the result. -/
theorem CI.N {w w' : World} {v4 v5 : Value} {xs : List S25} {outs : List (List S25)} (h : CI w w' v4 v5 xs outs) : Kd.N (Kd.slice 25 k25) 27 w' w.heap.size (fun k => True ∧ w.heap.size ≤ k ∧ True) v5 outs := by
  obtain ⟨rows, hl, hR, hv⟩ := h.outr
  refine ⟨fun k hk => ⟨trivial, Kd.R_base hR k hk, trivial⟩, rows, hl, Kd.raw_tight hR, fun j ys c h1 h2 => ?_⟩
  obtain ⟨g, f, cp, rfl, c2, c3, c4, c5, c6, c7, c8⟩ := hv j ys c h1 h2
  exact (c8.mono (fun q hq _ => ⟨⟨trivial, hq.1, trivial⟩, hq.2.2⟩)).FK c3 ⟨⟨trivial, c4, trivial⟩, c6⟩ c2
/-- A cut of the images told so far. -/
theorem CI.cut {w w' : World} {v5 : Value} {g n cap : Nat} {xs : List S25} {outs : List (List S25)} (h : CI w w' (.slice (some ⟨g, 0, none⟩) n cap) v5 xs outs) (f c : Nat) (hf : f ≤ xs.length) (hc : xs.length - f ≤ c) (hm : xs.length ≤ 9223372036854775807) :
    VR w w' (.slice (some ⟨g, 0, none⟩) n cap) v5 xs.length (xs.drop f) [.slice (some ⟨g, f * 2, none⟩) (xs.length - f) c] := by
  obtain ⟨inner, ho⟩ := h.own
  obtain ⟨rows, hl, hR, hv⟩ := h.outr
  obtain ⟨inner5, ho5⟩ := Kd.R_own hR
  have hgb : (Value.slice (some ⟨g, 0, none⟩) n cap).ownBlock = some g := by simp [Value.ownBlock]
  have hr := h.row g hgb
  have hs := hr.seg f xs.length hf
  rw [List.take_of_length_le (Nat.le_refl _), Nat.zero_add] at hs
  refine ⟨g, f, c, by rw [List.length_drop], by rw [List.length_drop]; exact hc, by rw [List.length_drop]; omega, own_base ho g hgb, own_lt ho g hgb, own_apart ho ho5 (by decide) g hgb, fun _ => by rw [List.length_drop]; omega, hs⟩
end Go.Proofs.Ytjpkjakdhbnehaa.Q
end
section
/- record.Changes: its walk. -/
namespace Go.Proofs.Ytjpkjakdhbnehaa.Q
open Go.RowKit Go.Proofs.YtjpkjakdhbnehaaW.PrintWords Go.Proofs.YtjpkjakdhbnehaaW.PrintLast Go.Proofs.YtjpkjakdhbnehaaW.PrintMore
attribute [local go_sem] max2_int min2_int max_two min_two max_three min_three max_four min_four
set_option linter.unusedVariables false
set_option linter.unusedSimpArgs false
theorem CI.len {w w' : World} {v4 v5 : Value} {xs : List S25} {outs : List (List S25)} (h : CI w w' v4 v5 xs outs) : (∃ A c, v4 = .slice A xs.length c) ∧ ∃ A c, v5 = .slice A outs.length c := by
  obtain ⟨inner, ho⟩ := h.own
  obtain ⟨rows, hl, hR, _⟩ := h.outr
  refine ⟨?_, ?_⟩
  · rcases ho.2 with ⟨rfl, h0⟩ | ⟨g, cap, cur, rfl, _⟩
    · exact ⟨none, 0, by rw [h0]⟩
    · exact ⟨_, _, rfl⟩
  · obtain ⟨A, c, he⟩ := Kd.R_slice hR
    exact ⟨A, c, by rw [he, hl]⟩
theorem fst_drop (l : List S30) (i f : Nat) (hi : i < l.length) (hf : f ≤ i) (h : (chgAt l i).1 = (xsAt l i).drop f) : (chgAt l (i + 1)).1 = (xsAt l (i + 1)).drop (if (rd_T30 l (i : Int)).f1 = true then i + 1 else f) := by
  rw [chgAt_succ l i hi]
  unfold chgStep
  have hl := xsAt_length l (i + 1) (by omega)
  by_cases c : (rd_T30 l (i : Int)).f1 = true
  · rw [if_pos c, if_pos c, List.drop_of_length_le (by omega)]
  · rw [if_neg c, if_neg c]
    show (chgAt l i).1 ++ [_] = _
    rw [h, xsAt_succ l i hi, List.drop_append_of_le_length (by rw [xsAt_length l i (by omega)]; exact hf)]
theorem snd_last (l : List S30) (i f : Nat) (hi : i < l.length) (hf : f ≤ i) (h : (chgAt l i).1 = (xsAt l i).drop f) (c : (rd_T30 l (i : Int)).f1 = true) : (chgAt l (i + 1)).2 = (chgAt l i).2 ++ [(xsAt l (i + 1)).drop f] := by
  rw [chgAt_succ l i hi]
  unfold chgStep
  rw [if_pos c]
  show _ ++ [_] = _
  rw [h, xsAt_succ l i hi, List.drop_append_of_le_length (by rw [xsAt_length l i (by omega)]; exact hf)]
theorem snd_more (l : List S30) (i : Nat) (hi : i < l.length) (c : (rd_T30 l (i : Int)).f1 = false) : (chgAt l (i + 1)).2 = (chgAt l i).2 := by
  rw [chgAt_succ l i hi]
  unfold chgStep
  rw [if_neg (by rw [c]; decide)]
theorem outs_length (l : List S30) : ∀ i, i ≤ l.length → (chgAt l i).2.length ≤ i
  | 0, _ => by simp [chgAt]
  | i + 1, h => by
    have ih := outs_length l i (by omega)
    rw [chgAt_succ l i (by omega)]
    unfold chgStep
    by_cases c : (rd_T30 l (i : Int)).f1 = true
    · rw [if_pos c, List.length_append, List.length_singleton]; omega
    · rw [if_neg c]
      show (chgAt l i).2.length ≤ i + 1
      omega
theorem zero30 : (Try.prog.info? 30).map (·.zero) = some (some (.agg #[.int .u64 0, .slice none 0 0, .bool false])) := by kernel_rfl
theorem infosz30 : (Try.prog.info? 30).map (·.size) = some 3 := by kernel_rfl
theorem infosz23 : (Try.prog.info? 23).map (·.size) = some 1 := by kernel_rfl
theorem st30_one {b : Int} {A : Option Addr} {n c : Nat} {t : Bool} : ∀ u ∈ (#[Value.int .u64 b, .slice A n c, .bool t] : Array Value).toList, u.oneCell' = true := by
  intro u hu
  simp only [List.mem_cons, List.not_mem_nil, or_false] at hu
  rcases hu with rfl | rfl | rfl <;> rfl
theorem st25_one {b : Int} {A : Option Addr} {n c : Nat} : ∀ u ∈ ([Value.int .u64 b, .slice A n c] : List Value), u.oneCell' = true := by
  intro u hu
  simp only [List.mem_cons, List.not_mem_nil, or_false] at hu
  rcases hu with rfl | rfl <;> rfl
theorem own_form {w : World} {base : Nat} {e size n : Nat} {v : Value} {xs : List Value} (h : w.ownsRow base e size v (n + 1) xs) : ∃ g cap, v = .slice (some ⟨g, 0, none⟩) (n + 1) cap ∧ n + 1 ≤ cap := by
  rcases h.2 with ⟨_, h0⟩ | ⟨g, cap, cur, rfl, _, _, hc, _⟩
  · omega
  · exact ⟨g, cap, rfl, hc⟩
/-- The new element: its bytes lie in new memory. -/
theorem fkNew {w W W1 : World} {v4 v5 : Value} {xs : List S25} {outs : List (List S25)} {A : Option Addr} {c g8 : Nat} {x : S25} (h : Kd.R (Kd.int .u8) 5 W1 W.heap.size (fun k => W.heap.size ≤ k ∧ k ≠ g8) (.slice A x.f1.length c) x.f1) (hC : CI w W v4 v5 xs outs) : Kd.FK k25 W1 (OKC w v4 v5) x [.int .u64 x.f0, .slice A x.f1.length c] := by
  obtain ⟨inner, ho⟩ := hC.own
  obtain ⟨rows, hl, hR, _⟩ := hC.outr
  refine Kd.FK_of_M (base := W.heap.size) (k25_mkM W1 W.heap.size _ x (Kd.R_mono h (fun k hk => ⟨Nat.le_trans hC.below.size hk.1, fun he => ?_, fun he => ?_⟩)))
  · have := own_lt ho k he.symm; have := hk.1; omega
  · have := Kd.R_lt hR k he.symm; have := hk.1; omega
theorem info_imgs : (Try.prog.info? 27).map (fun i => (i.zero, i.size, i.bytes)) = some (some (.slice none 0 0), 1, 24) := by kernel_rfl
theorem one_slice {A : Option Addr} {n c : Nat} : ∀ u ∈ ([.slice A n c] : List Value), u.oneCell' = true := by
  intro u hu
  rw [List.mem_singleton.1 hu]
  rfl
set_option maxHeartbeats 4000000 in
set_option maxRecDepth 100000 in
theorem chg.calls (A0 : Option Addr) (c0 : Nat) (l0 : List S30) (w : World) (hr0 : Kd.C k30 w A0 l0.length l0) (hc0 : l0.length ≤ c0) (hok : chgOk l0 = true) (r1 : List (List S25)) (r2 : Int) (hv : chgV l0 = (r1, r2)) :
    Calls Try.prog 18 #[.slice A0 l0.length c0] w fun e w' => ∃ v0_ : Value, e = .returned (.tuple #[v0_, .int .i64 r2]) ∧ Kd.N (Kd.slice 25 k25) 27 w' w.heap.size (fun k => True ∧ w.heap.size ≤ k ∧ True) v0_ r1 ∧ Below w.heap.size w w' := by
  obtain ⟨n, hn⟩ : ∃ n, l0.length = n := ⟨_, rfl⟩
  have HR0 := Aside0.mk hr0
  have HC0 := Aside0.mk hc0
  have HOK := Aside0.mk (show n ≤ 100000 ∧ ∀ i : Nat, i < n → (rd_T30 l0 (i : Int)).f0.f1.length ≤ 100000 from by
    unfold chgOk at hok
    rw [Bool.and_eq_true, decide_eq_true_eq, List.all_eq_true] at hok
    refine ⟨by omega, fun i hi => ?_⟩
    rw [rd30_nat l0 i (by omega)]
    simpa using hok.2 _ (List.getElem_mem _))
  have HN := Aside0.mk hn
  have HCI := Aside0.mk (CI.start w)
  have HX0 := Aside0.mk (show xsAt l0 0 = [] ∧ chgAt l0 0 = ([], []) from ⟨rfl, rfl⟩)
  rw [hn]
  have HVV := Aside0.mk hv
  clear hr0 hc0 hok hv
  go_enter Try.func18, Try.ntmps18
  go_upto_region 1 with (fail)
  go_cut [21] (fun v21 wc => ∃ b : Bool, v21 = .bool b ∧ Aside0 (chgV l0 = if b = true then ([], 11) else ((chgAt l0 n).2, 0)) ∧ Aside0 (CI w wc (.slice none 0 0) (.slice none 0 0) [] []))
  case first =>
    by_cases h0 : n = 0
    · subst h0
      have HV := Aside0.mk (show chgV l0 = ([], 0) from by
        unfold chgV
        rw [if_neg (by rw [HN.out]; rintro ⟨h, _⟩; omega), HN.out]
        rfl)
      clear hn
      go_wp2
      go_meet
      case rel => exact ⟨false, rfl, HV, HCI⟩
    · have hpos : 0 < n := by omega
      obtain ⟨z, hz⟩ : ∃ z, wrap64 ((n : Int) - 1) = z := ⟨_, rfl⟩
      have hzn : z = (n : Int) - 1 := by rw [← hz]; have := HOK.out.1; unfold wrap64; omega
      obtain ⟨ad, A1, c1, e0, hx0, hx1, hx2, hl1, hi1⟩ := at_T30 HR0.out z (by omega) (by rw [HN.out]; omega)
      clear hx0 hx1 hl1 hi1
      subst e0
      have hlast : (rd_T30 l0 ((l0.length : Int) - 1)) = rd_T30 l0 z := by rw [HN.out, hzn]
      have HV := Aside0.mk (show chgV l0 = if (rd_T30 l0 z).f1 = false then ([], 11) else ((chgAt l0 n).2, 0) from by
        unfold chgV
        rw [hlast, HN.out]
        by_cases c : (rd_T30 l0 z).f1 = false
        · rw [if_pos ⟨by omega, c⟩, if_pos c]
        · rw [if_neg (fun h => c h.2), if_neg c])
      obtain ⟨b, hb⟩ : ∃ b, (rd_T30 l0 z).f1 = b := ⟨_, rfl⟩
      rw [hb] at hx2
      have HB := Aside0.mk hb
      have p1 : (0 ≤ wrap64 ((n : Int) - 1)) = True := eq_true (by rw [hz]; omega)
      have q1 : (wrap64 ((n : Int) - 1) < (n : Int)) = True := eq_true (by rw [hz]; omega)
      have g1 : ((n : Int) > 0) = True := eq_true (by omega)
      subst hz
      clear hlast hb hzn h0 hn
      go_wp2
      go_meet
      case rel => exact ⟨!b, rfl, ⟨by rw [HV.out, HB.out]; cases b <;> rfl⟩, HCI⟩
  case rest =>
    clear HCI
    obtain ⟨b, rfl, HV, HCI⟩ := hcut
    cases b with
    | true =>
      have hv := HV.out
      rw [if_pos rfl, HVV.out] at hv
      obtain ⟨rfl, rfl⟩ := Prod.mk.inj hv
      clear hv HV HVV
      go_wp2
      go_ret2
      exact ⟨_, rfl, Kd.N_nil _ _ _ _ _, HCI.out.below⟩
    | false =>
      have hv := HV.out
      rw [if_neg (by decide), HVV.out] at hv
      obtain ⟨rfl, rfl⟩ := Prod.mk.inj hv
      clear hv HV HVV
      go_wp2
      go_loopg [4, 5, 6, 24] n (fun gk v4 v5 v6 v24 w' => ∃ i f : Nat, v24 = .int .i64 i ∧ v6 = .int .i64 f ∧ Aside0 (gk + i = n ∧ f ≤ i ∧ (chgAt l0 i).1 = (xsAt l0 i).drop f) ∧ Aside0 (CI w w' v4 v5 (xsAt l0 i) (chgAt l0 i).2))
      case atStart => exact ⟨0, 0, rfl, rfl, ⟨by omega, by omega, by rw [HX0.out.1, HX0.out.2]; rfl⟩, ⟨by rw [HX0.out.1, HX0.out.2]; exact HCI.out⟩⟩
      case round =>
        clear HCI
        obtain ⟨i, f, rfl, rfl, HI, HCI⟩ := hrel
        obtain ⟨⟨A4, c4, e4⟩, A5, c5, e5⟩ := HCI.out.len
        rw [xsAt_length l0 i (by have := HI.out.1; rw [hn]; omega)] at e4
        subst e4
        subst e5
        by_cases hi : i < n
        · have hil : (i : Int) < (n : Int) := by omega
          have hb := (HI.out)
          obtain ⟨ad, A1, c1, e0, hx0, hx1, hx2, hl1, hi1⟩ := at_T30 HR0.out (i : Int) (by omega) (by rw [HN.out]; omega)
          subst e0
          replace hx0 := (HCI.out.below.cell (World.block_lt_of_cell? w _ hx0)).trans hx0
          replace hx1 := (HCI.out.below.cell (World.block_lt_of_cell? w _ hx1)).trans hx1
          replace hx2 := (HCI.out.below.cell (World.block_lt_of_cell? w _ hx2)).trans hx2
          have HLI := Aside0.mk hi
          have HXL := Aside0.mk (xsAt_length l0 i (by rw [hn]; omega))
          obtain ⟨x, hx⟩ : ∃ x, rd_T30 l0 (i : Int) = x := ⟨_, rfl⟩
          rw [hx] at hx0 hx1 hx2 hl1 hi1
          rw [Int.toNat_natCast] at hx0 hx1 hx2
          have HX := Aside0.mk hx
          have HR1 := Aside0.mk (Kd.C_below hi1 HCI.out.below)
          have HL1 := Aside0.mk hl1
          have HSZ := Aside0.mk (show x.f0.f1.length ≤ 100000 from by rw [← hx]; exact HOK.out.2 i hi)
          clear hl1 hi1 hx hb hi hn
          go_upto_region 11 with (first | ((with_reducible refine gate_dst (N := 8) rfl ?_); refine wl_alloc rfl 30 rfl _ zero30 ?_; intro g8 hg w2 hblk hb hsz; have HG8 := Aside0.mk (show wr.heap.size ≤ g8 by rw [hg]; exact Nat.le_refl _); have HK8 := Aside0.mk (show w2.heap[g8]? = some (.cells #[.int .u64 0, .slice none 0 0, .bool false] 30 (0, 0)) from hblk); have HBW := Aside0.mk hb; clear hg hblk hb hsz) | ((with_reducible refine gate_store (t := 30) (p := 8) rfl ?_); refine wl_store_all rfl rfl 30 _ _ rfl g8 rfl _ _ HK8.out (.agg #[.int .u64 x.f0.f0, .slice A1 x.f0.f1.length c1, .bool x.f1]) rfl rfl st30_one infosz30 ?_; intro w3 hk8 hg8 hs8; have n0_ := Aside0.mk (show w3.heap[g8]? = some (.cells #[.int .u64 x.f0.f0, .slice A1 x.f0.f1.length c1, .bool x.f1] 30 (0, 0)) from hk8); have n1_ := Aside0.mk (grown_below HBW.out hg8 HBW.out.size HG8.out); clear hk8 hg8 hs8 HK8 HBW; have HK8 := n0_; have HBW := n1_; clear n0_ n1_; have hc8_1 : w3.cell? ⟨g8, 1, none⟩ = some (.slice A1 x.f0.f1.length c1) := (blk_cell HK8.out 1).trans rfl) | (go_at_call 28; refine (slices_Clone_byte_byte.calls A1 c1 x.f0.f1 x.f0.f1 _ (Kd.C_below HR1.out HBW.out) HL1.out (by unfold slices_Clone_byte_byte.f; rw [if_pos (by have := HSZ.out; omega)])).mono ?_; rintro e w4 ⟨v9, rfl, ho, hb⟩; have n0_ := Aside0.mk (blk_below HK8.out hb); have n1_ := Aside0.mk (HBW.out.trans (hb.mono HBW.out.size)); have HO9 := Aside0.mk (show Kd.R (Kd.int .u8) 5 w4 wr.heap.size (fun k => wr.heap.size ≤ k ∧ k ≠ g8) v9 x.f0.f1 from Kd.R_lower (Kd.R_mono (Kd.R_bound ho) (fun k hk => ⟨Nat.le_trans HBW.out.size hk.2.1, fun he => by have := blk_lt HK8.out; have := hk.2.1; omega⟩)) HBW.out.size); clear ho hb HK8 HBW hc8_1; have HK8 := n0_; have HBW := n1_; clear n0_ n1_; obtain ⟨A9, c9, e9⟩ := Kd.R_slice HO9.out; subst e9) | ((with_reducible refine gate_store (t := 23) (p := 34) rfl ?_); refine wl_store_cell rfl rfl 23 _ _ rfl g8 1 rfl _ 30 HK8.out (.slice A9 x.f0.f1.length c9) rfl rfl ?side1 rfl infosz23 ?_; (case side1 => show 1 < 3; decide); intro w7 hk7 hg7 hs7; have n0_ := Aside0.mk (show w7.heap[g8]? = some (.cells #[.int .u64 x.f0.f0, .slice A9 x.f0.f1.length c9, .bool x.f1] 30 (0, 0)) from hk7); have n1_ := Aside0.mk (grown_below HBW.out hg7 HBW.out.size HG8.out); have n2_ := Aside0.mk (Kd.R_grown HO9.out hg7 (fun k hk he => hk.2 (by injection he))); clear hk7 hg7 hs7 HK8 HBW HO9; have HK8 := n0_; have HBW := n1_; have HO9 := n2_; clear n0_ n1_ n2_; have hc8_0 : w7.cell? ⟨g8, 0, none⟩ = some (.int .u64 x.f0.f0) := (blk_cell HK8.out 0).trans rfl; have hc8_1 : w7.cell? ⟨g8, 1, none⟩ = some (.slice A9 x.f0.f1.length c9) := (blk_cell HK8.out 1).trans rfl) | ((with_reducible refine gate_builtin (b := .append) (xs := #[.tmp 35, .tmp 38]) rfl ?_); at_builtin; obtain ⟨inner, hown⟩ := (HCI.out.go HBW.out).own; rw [HXL.out] at hown; refine wl_append_full (w0 := w) w.heap.size rfl (.tmp 35) (.tmp 38) 27 25 (.agg #[.int .u64 0, .slice none 0 0]) 2 32 rfl Try.underlying27 info25 rfl (by decide) (by decide) _ i inner [.int .u64 x.f0.f0, .slice A9 x.f0.f1.length c9] rfl rfl rfl st25_one hown (HCI.out.go HBW.out).below (HCI.out.go HBW.out).below.size (by have := HLI.out; have := HOK.out.1; omega) ?_; intro v1 w8 ho1 hb1 hg1 hat1; have n0_ := Aside0.mk ((HCI.out.go HBW.out).all (by rw [HXL.out]; exact hown) (by rw [HXL.out]; exact ho1) hb1 hg1 hat1 rfl (fkNew HO9.out HCI.out)); have n1_ := Aside0.mk (blk_grown HK8.out hg1 (fun he => by have := own_lt HCI.out.own.choose_spec g8 he.symm; have := HG8.out; omega)); have n2_ := own_form ho1; clear hown ho1 hb1 hg1 hat1 hc8_0 hc8_1 HBW HO9 HCI HK8; have HCI := n0_; have HK8 := n1_; obtain ⟨g4, cap4, e4, hcap4⟩ := n2_; subst e4; have HCAP := Aside0.mk hcap4; clear n0_ n1_ hcap4; have hc8_2 : w8.cell? ⟨g8, 2, none⟩ = some (.bool x.f1) := (blk_cell HK8.out 2).trans rfl))
          obtain ⟨b, hb⟩ : ∃ b, x.f1 = b := ⟨_, rfl⟩
          have HBB := Aside0.mk hb
          rw [hb] at hc8_2
          clear hb hx0 hx1 hx2 HR1 HL1 HSZ HG8 HK8
          have HLI2 := HLI.out
          have HN2 := HOK.out.1
          have HF := HI.out.2.1
          have hsx : xsAt l0 i ++ [x.f0] = xsAt l0 (i + 1) := by rw [xsAt_succ l0 i (by rw [HN.out]; omega), HX.out]
          have HXS := Aside0.mk (xsAt_length l0 (i + 1) (by rw [HN.out]; omega))
          have HOL := Aside0.mk (outs_length l0 i (by rw [HN.out]; omega))
          have HFS := Aside0.mk (fst_drop l0 i f (by rw [HN.out]; omega) HF HI.out.2.2)
          have n0_ := Aside0.mk (by have := HCI.out; rw [hsx] at this; exact this)
          clear HCI hsx
          have HCI := n0_
          clear n0_
          cases b with
          | false =>
            have HSM := Aside0.mk (snd_more l0 i (by rw [HN.out]; omega) (by rw [HX.out]; exact HBB.out))
            go_wp2
            go_roundg (gk - 1)
            case measure => have := HI.out.1; omega
            case rel => exact ⟨i + 1, f, by go_num, rfl, ⟨by have := HI.out.1; omega, by omega, by have := HFS.out; rwa [HX.out, HBB.out, if_neg (by decide)] at this⟩, ⟨by rw [HSM.out]; exact HCI.out⟩⟩
          | true =>
            have hcA : (0 ≤ (i : Int) + 1 ∧ (i : Int) + 1 ≤ (cap4 : Int)) = True := eq_true ⟨by omega, by have := HCAP.out; omega⟩
            have HSL := Aside0.mk (snd_last l0 i f (by rw [HN.out]; omega) HF HI.out.2.2 (by rw [HX.out]; exact HBB.out))
            go_wp2_with (first | ((with_reducible refine gate_builtin (b := .append) (xs := #[.tmp 42, .tmp 50]) rfl ?_); at_builtin; obtain ⟨rows, hrl, hR, hv⟩ := HCI.out.outr; refine Kd.R_append (Kd.raw 1) (w0 := w) w.heap.size rfl (.tmp 42) (.tmp 50) 56 27 (.slice none 0 0) 24 rfl Try.underlying56 info_imgs rfl (by decide) (by decide) _ rows [.slice (some ⟨g4, f * 2, none⟩) (i + 1 - f) (i + 1 - f)] [.slice (some ⟨g4, f * 2, none⟩) (i + 1 - f) (i + 1 - f)] (fun _ => True) (fun _ => False) rfl rfl ⟨rfl, rfl, one_slice⟩ (fun _ h => h.elim) (fun _ _ => trivial) hR HCI.out.below HCI.out.below.size (by have := HOL.out; omega) ?_; intro v5 w9 hR1 hb1 hg1 hat1; have n0_ := Aside0.mk (HCI.out.out hrl hv hR hR1 hb1 hg1 hat1 (by have := HCI.out.cut f (i + 1 - f) (by rw [HXS.out]; omega) (by rw [HXS.out]; exact Nat.le_refl _) (by rw [HXS.out]; omega); rw [HXS.out] at this ⊢; exact this)); clear hrl hR hv hR1 hb1 hg1 hat1 HCI; have HCI := n0_; clear n0_))
            go_roundg (gk - 1)
            case measure => have := HI.out.1; omega
            case rel => exact ⟨i + 1, i + 1, by go_num, by go_num, ⟨by have := HI.out.1; omega, by omega, by have := HFS.out; rwa [HX.out, HBB.out, if_pos rfl] at this⟩, ⟨by rw [HSL.out]; exact HCI.out⟩⟩
        · have hni : i = n := by have := HI.out.1; omega
          subst hni
          go_wp2
          go_ret2
          exact ⟨_, rfl, HCI.out.N, HCI.out.below⟩
end Go.Proofs.Ytjpkjakdhbnehaa.Q
end
section
-- Written by this session's own program (ext_print.py) over the kit's print.py, hand proofs among it. Not trusted: Lean checks it.
namespace Go.Proofs.Ytjpkjakdhbnehaa.Q
open Go.RowKit Go.Proofs.YtjpkjakdhbnehaaW.PrintWords Go.Proofs.YtjpkjakdhbnehaaW.PrintLast Go.Proofs.YtjpkjakdhbnehaaW.PrintMore
attribute [local go_sem] max2_int min2_int max_two min_two max_three min_three max_four min_four   -- for this text's walks alone
set_option linter.unusedVariables false
set_option linter.unusedSimpArgs false

/-! ### reliquaryref12_Of: function 16 -/
def reliquaryref12_Of.l0 : Nat → List (S37) → List (S39) → Int → Option ((List (S39)) × Int)
  | 0, _, _, _ => none
  | k + 1, x0, x4, x5 => if x5 < (x0.length : Int) then (if 0 ≤ x5 then (if (((rd_T37 x0 x5).f1).size : Int) = 160 then (if x4.length < 4398046511104 then (reliquaryref12_Of.l0 k x0 (x4 ++ [(⟨(⟨(rd_T37 x0 x5).f0, (rd_T37 x0 x5).f1⟩ : S37), ((wrap64 (x5 + 1)) == (x0.length : Int))⟩ : S39)]) (wrap64 (x5 + 1))) else (none)) else (some (([] : List (S39)), 1))) else (none)) else (some (x4, 0))
def reliquaryref12_Of.f (k : Nat) (l0 : List (S37)) : Option ((List (S39)) × Int) := if (l0.length : Int) = 0 then (some (([] : List (S39)), 1)) else (reliquaryref12_Of.l0 k l0 ([] : List (S39)) 0)
theorem reliquaryref12_Of.mono_l : ∀ k, (∀ y0 y1 y2, LeO (reliquaryref12_Of.l0 k y0 y1 y2) (reliquaryref12_Of.l0 (k + 1) y0 y1 y2))
  | 0 => fun _ _ _ r h => by simp [reliquaryref12_Of.l0] at h
  | k + 1 => by
    have ih0 := reliquaryref12_Of.mono_l k
    · intro y0 y1 y2
      unfold reliquaryref12_Of.l0
      repeat' first
      | (with_reducible exact ih0 _ _ _)
      | (with_reducible exact LeO.refl _)
      | (with_reducible exact LeO.none _)
      | (with_reducible refine LeO.ite ?_ ?_)
      | (with_reducible refine LeO.bind ?_ (fun _ => ?_))
      | exact ih0 _ _ _
      | exact LeO.none _
      | refine LeO.ite ?_ ?_
      | refine LeO.bind ?_ (fun _ => ?_)
theorem reliquaryref12_Of.mono : ∀ a0 k, LeO (reliquaryref12_Of.f k a0) (reliquaryref12_Of.f (k + 1) a0) := by
  intro a0 k
  have ih0 := reliquaryref12_Of.mono_l k
  unfold reliquaryref12_Of.f
  repeat' first
      | (with_reducible exact ih0 _ _ _)
      | (with_reducible exact LeO.refl _)
      | (with_reducible exact LeO.none _)
      | (with_reducible refine LeO.ite ?_ ?_)
      | (with_reducible refine LeO.bind ?_ (fun _ => ?_))
      | exact ih0 _ _ _
      | exact LeO.none _
      | refine LeO.ite ?_ ?_
      | refine LeO.bind ?_ (fun _ => ?_)
set_option maxHeartbeats 8000000 in
set_option maxRecDepth 100000 in
theorem reliquaryref12_Of.calls (k : Nat) (A0 : Option Addr) (c0 : Nat) (l0 : List (S37)) (r1 : List (S39)) (r2 : Int) (w : World) (hr0 : Kd.C k37 w A0 l0.length l0) (hc0 : l0.length ≤ c0) (h : reliquaryref12_Of.f k l0 = some (r1, r2)) :
    Calls Try.prog 16 #[.slice A0 l0.length c0] w fun e w' => ∃ v0_ : Value, e = .returned (.tuple #[v0_, .int .i64 r2]) ∧ Kd.R k39 39 w' w.heap.size (fun _ => True) v0_ r1 ∧ Below w.heap.size w w' := by
  have hu37 := Try.underlying37
  have hu39 := Try.underlying39
  have HR0 := Aside0.mk hr0
  have HC0 := Aside0.mk hc0
  clear hr0 hc0
  have HB := Aside0.mk (Below.refl w.heap.size w)
  have H : (if (l0.length : Int) = 0 then (some (([] : List (S39)), 1)) else (reliquaryref12_Of.l0 k l0 ([] : List (S39)) 0)) = some (r1, r2) := h
  clear h
  by_cases c2 : (l0.length : Int) = 0
  · rw [if_pos c2] at H
    have c2b0 : ((l0.length : Int) == 0) = true := beq_iff_eq.mpr c2
    have c2b1 : ((l0.length : Int) != 0) = false := bne_eq_false_iff_eq.mpr c2
    clear c2
    simp only [Option.some.injEq, Prod.mk.injEq] at H
    obtain ⟨rfl, rfl⟩ := H
    go_enter Try.func16, Try.ntmps16
    go_wp2
    go_ret2
    exact ⟨_, by first | rfl | (simp [errW_none, errW_some] <;> rfl) | (simp [*, errW_none, errW_some] <;> rfl), by first | exact Kd.R_nil _ _ _ _ _ | exact Kd.N_nil _ _ _ _ _ | exact Kd.V_nil _ _ _ _ _ | exact Kd.Q_nil _ _ _ _ _ | exact Kd.S_nil _ _ _ _ _, by repeat (first | (with_reducible first | exact HB.out | apply below_alloc | apply pw_below_drewN | apply below_drew1) | exact HB.out)⟩
  · rw [if_neg c2] at H
    have c2b0 : ((l0.length : Int) == 0) = false := beq_eq_false_iff_ne.mpr c2
    have c2b1 : ((l0.length : Int) != 0) = true := bne_iff_ne.mpr c2
    have c2b2 : ¬ (l0 = []) := fun h_ => c2 (by rw [h_]; rfl)
    have H' := Aside0.mk H
    clear H
    go_enter Try.func16, Try.ntmps16
    go_wp2
    go_loopg [4, 5] k (fun kq v4 v5 w' => ∃ (x4_1 : List (S39)) (x5_1 : Int), v5 = .int .i64 x5_1 ∧ Aside0 (reliquaryref12_Of.l0 kq l0 x4_1 x5_1 = some (r1, r2)) ∧ Aside0 (kq ≤ k) ∧ Aside0 (Kd.R k39 39 w' w.heap.size (fun _ => True) v4 x4_1) ∧ Aside0 (Below w.heap.size w w'))
    case atStart => exact ⟨(([] : List (S39))), (0), (by first | rfl | (simp; done) | (simp [*]; done)), H', ⟨Nat.le_refl _⟩, ⟨by first | exact Kd.R_nil _ _ _ _ _ | exact Kd.N_nil _ _ _ _ _ | exact Kd.V_nil _ _ _ _ _ | exact Kd.Q_nil _ _ _ _ _ | exact Kd.S_nil _ _ _ _ _⟩, ⟨by repeat (first | (with_reducible first | exact HB.out | apply below_alloc | apply pw_below_drewN | apply below_drew1) | exact HB.out)⟩⟩
    case round =>
      clear H'
      try clear c1
      try clear c2
      try clear c2b0
      try clear c2b1
      try clear c2b2
      try clear p2
      obtain ⟨x4_1, x5_1, rfl, HA, HK1, HO_4, HB⟩ := hrel
      cases gk with
      | zero => exact absurd HA.out (by simp [reliquaryref12_Of.l0])
      | succ k1 =>
        have H := HA.out
        clear HA
        simp only [reliquaryref12_Of.l0] at H
        by_cases c3 : x5_1 < (l0.length : Int)
        · rw [if_pos c3] at H
          have c3b0 : decide (x5_1 < (l0.length : Int)) = true := decide_eq_true c3
          clear c3
          by_cases c4 : 0 ≤ x5_1
          · rw [if_pos c4] at H
            have c4b0 : decide (0 ≤ x5_1) = true := decide_eq_true c4
            clear c4
            by_cases c5 : (((rd_T37 l0 x5_1).f1).size : Int) = 160
            · rw [if_pos c5] at H
              have c5b0 : ((((rd_T37 l0 x5_1).f1).size : Int) == 160) = true := beq_iff_eq.mpr c5
              have c5b1 : ((((rd_T37 l0 x5_1).f1).size : Int) != 160) = false := bne_eq_false_iff_eq.mpr c5
              clear c5
              by_cases c6 : x4_1.length < 4398046511104
              · rw [if_pos c6] at H
                have LMc6 := Aside0.mk c6
                clear c6
                obtain ⟨y299, hy299⟩ : ∃ y_ : List (S39), y_ = (x4_1 ++ [(⟨(⟨(rd_T37 l0 x5_1).f0, (rd_T37 l0 x5_1).f1⟩ : S37), ((wrap64 (x5_1 + 1)) == (l0.length : Int))⟩ : S39)]) := ⟨_, rfl⟩
                replace H : (reliquaryref12_Of.l0 k1 l0 y299 (wrap64 (x5_1 + 1))) = some (r1, r2) := by first | (rw [hy299]; with_reducible exact H) | (have H2_ := (Option.bind_some _ _).symm.trans H; rw [hy299]; with_reducible exact H2_) | (have H2_ := (Option.bind_some _ _).symm.trans H; with_reducible exact H2_) | with_reducible exact H | (rw [hy299]; exact H) | exact H
                have Ny299 := Aside0.mk hy299
                clear hy299
                have H' := Aside0.mk H
                clear H
                have p297 : 0 ≤ (x5_1 : Int) := of_decide_eq_true (by first | (with_reducible assumption) | assumption)
                have q297 : x5_1 < (l0.length : Int) := of_decide_eq_true (by first | (with_reducible assumption) | assumption)
                obtain ⟨ad297, e297, hx297_0, hx297_1⟩ := at_T37 HR0.out x5_1 p297 q297
                cases e297
                replace hx297_0 := (HB.out.cell (World.block_lt_of_cell? w _ hx297_0)).trans hx297_0
                replace hx297_1 := (HB.out.cell (World.block_lt_of_cell? w _ hx297_1)).trans hx297_1
                replace p297 := eq_true p297
                replace q297 := eq_true q297
                have p298 : 0 ≤ (x5_1 : Int) := of_decide_eq_true (by first | (with_reducible assumption) | assumption)
                have q298 : x5_1 < (l0.length : Int) := of_decide_eq_true (by first | (with_reducible assumption) | assumption)
                obtain ⟨ad298, e298, hx298_0, hx298_1⟩ := at_T37 HR0.out x5_1 p298 q298
                obtain rfl : ad297 = ad298 := (by injection e298)
                replace hx298_0 := (HB.out.cell (World.block_lt_of_cell? w _ hx298_0)).trans hx298_0
                replace hx298_1 := (HB.out.cell (World.block_lt_of_cell? w _ hx298_1)).trans hx298_1
                replace p298 := eq_true p298
                replace q298 := eq_true q298
                go_wp2_with (first | ((with_reducible refine gate_builtin (b := .append) (xs := #[.tmp 22, .tmp 33]) rfl ?_); at_builtin; refine Kd.R_append k39 (w0 := w) w.heap.size rfl (.tmp 22) (.tmp 33) 51 39 (.agg #[(.int .u64 0), (.string ⟨#[]⟩), (.bool false)]) 32 rfl Try.underlying51 info39 rfl (by decide) (by omega) u4 x4_1 (⟨(⟨(rd_T37 l0 x5_1).f0, (rd_T37 l0 x5_1).f1⟩ : S37), ((wrap64 (x5_1 + 1)) == (l0.length : Int))⟩ : S39) [.int .u64 ((rd_T37 l0 x5_1).f0), .string ((rd_T37 l0 x5_1).f1), .bool ((wrap64 (x5_1 + 1)) == (l0.length : Int))] (fun _ => True) (fun _ => False) rfl rfl ?aP (fun _ hk => hk.elim) ?aF ?aO ?aB ?aS ?aL ?_; (case aP => exact k39_mkM _ _ _ (⟨(⟨(rd_T37 l0 x5_1).f0, (rd_T37 l0 x5_1).f1⟩ : S37), ((wrap64 (x5_1 + 1)) == (l0.length : Int))⟩ : S39)); (case aB => exact (by repeat (first | (with_reducible first | exact HB.out | apply below_alloc | apply pw_below_drewN | apply below_drew1) | exact HB.out))); (case aF => exact (fun _ _ => trivial)); (case aO => exact (by (with_reducible repeat (first | apply Kd.R_alloc | apply Kd.R_drewN | apply Kd.R_drew)); exact HO_4.out)); (case aS => exact (below_size (by repeat (first | (with_reducible first | exact HB.out | apply below_alloc | apply pw_below_drewN | apply below_drew1) | exact HB.out)))); (case aL => have := LMc6.out; omega); intro v300 w7 ho hb hg hat; rw [← Ny299.out] at ho; have n0_ := Aside0.mk (hb); have n1_ := Aside0.mk (ho); clear HB; clear HO_4; have HB := n0_; have HO301 := n1_; clear n0_ n1_; clear ho hb hg hat))
                go_roundg k1
                case measure => have := HK1.out; omega
                case rel => exact ⟨(y299), (wrap64 (x5_1 + 1)), (by first | rfl | (simp; done) | (simp [*]; done)), H', ⟨by have := HK1.out; omega⟩, ⟨by (with_reducible repeat (first | apply Kd.R_alloc | apply Kd.R_drewN | apply Kd.R_drew)); exact HO301.out⟩, ⟨by repeat (first | (with_reducible first | exact HB.out | apply below_alloc | apply pw_below_drewN | apply below_drew1) | exact HB.out)⟩⟩
              · rw [if_neg c6] at H
                exact absurd H (by simp)
            · rw [if_neg c5] at H
              have c5b0 : ((((rd_T37 l0 x5_1).f1).size : Int) == 160) = false := beq_eq_false_iff_ne.mpr c5
              have c5b1 : ((((rd_T37 l0 x5_1).f1).size : Int) != 160) = true := bne_iff_ne.mpr c5
              simp only [Option.some.injEq, Prod.mk.injEq] at H
              obtain ⟨rfl, rfl⟩ := H
              have p297 : 0 ≤ (x5_1 : Int) := of_decide_eq_true (by first | (with_reducible assumption) | assumption)
              have q297 : x5_1 < (l0.length : Int) := of_decide_eq_true (by first | (with_reducible assumption) | assumption)
              obtain ⟨ad297, e297, hx297_0, hx297_1⟩ := at_T37 HR0.out x5_1 p297 q297
              cases e297
              replace hx297_0 := (HB.out.cell (World.block_lt_of_cell? w _ hx297_0)).trans hx297_0
              replace hx297_1 := (HB.out.cell (World.block_lt_of_cell? w _ hx297_1)).trans hx297_1
              replace p297 := eq_true p297
              replace q297 := eq_true q297
              go_wp2
              go_ret2
              exact ⟨_, by first | rfl | (simp [errW_none, errW_some] <;> rfl) | (simp [*, errW_none, errW_some] <;> rfl), by first | exact Kd.R_nil _ _ _ _ _ | exact Kd.N_nil _ _ _ _ _ | exact Kd.V_nil _ _ _ _ _ | exact Kd.Q_nil _ _ _ _ _ | exact Kd.S_nil _ _ _ _ _, by repeat (first | (with_reducible first | exact HB.out | apply below_alloc | apply pw_below_drewN | apply below_drew1) | exact HB.out)⟩
          · rw [if_neg c4] at H
            exact absurd H (by simp)
        · rw [if_neg c3] at H
          have c3b0 : decide (x5_1 < (l0.length : Int)) = false := decide_eq_false c3
          clear c3
          simp only [Option.some.injEq, Prod.mk.injEq] at H
          obtain ⟨rfl, rfl⟩ := H
          go_wp2
          go_ret2
          exact ⟨_, by first | rfl | (simp [errW_none, errW_some] <;> rfl) | (simp [*, errW_none, errW_some] <;> rfl), by (with_reducible repeat (first | apply Kd.R_alloc | apply Kd.R_drewN | apply Kd.R_drew)); exact HO_4.out, by repeat (first | (with_reducible first | exact HB.out | apply below_alloc | apply pw_below_drewN | apply below_drew1) | exact HB.out)⟩

end Go.Proofs.Ytjpkjakdhbnehaa.Q
end
section
-- Written by this session's own program (ext_print.py) over the kit's print.py, hand proofs among it. Not trusted: Lean checks it.
namespace Go.Proofs.Ytjpkjakdhbnehaa.Q
open Go.RowKit Go.Proofs.YtjpkjakdhbnehaaW.PrintWords Go.Proofs.YtjpkjakdhbnehaaW.PrintLast Go.Proofs.YtjpkjakdhbnehaaW.PrintMore
attribute [local go_sem] max2_int min2_int max_two min_two max_three min_three max_four min_four   -- for this text's walks alone
set_option linter.unusedVariables false
set_option linter.unusedSimpArgs false

/-! ### reliquarylaw12_modelOf: function 17 -/
def reliquarylaw12_modelOf.l0 : Nat → List (S25) → List (S37) → Int → Option ((List (S37)))
  | 0, _, _, _ => none
  | k + 1, x0, x3, x4 => if x4 < (x0.length : Int) then (if 0 ≤ x4 then (if x3.length < 5864062014805 then (reliquarylaw12_modelOf.l0 k x0 (x3 ++ [(⟨(rd_T25 x0 x4).f0, strOfNums ((rd_T25 x0 x4).f1)⟩ : S37)]) (wrap64 (x4 + 1))) else (none)) else (none)) else (some x3)
def reliquarylaw12_modelOf.f (k : Nat) (l0 : List (S25)) : Option ((List (S37))) := reliquarylaw12_modelOf.l0 k l0 ([] : List (S37)) 0
theorem reliquarylaw12_modelOf.mono_l : ∀ k, (∀ y0 y1 y2, LeO (reliquarylaw12_modelOf.l0 k y0 y1 y2) (reliquarylaw12_modelOf.l0 (k + 1) y0 y1 y2))
  | 0 => fun _ _ _ r h => by simp [reliquarylaw12_modelOf.l0] at h
  | k + 1 => by
    have ih0 := reliquarylaw12_modelOf.mono_l k
    · intro y0 y1 y2
      unfold reliquarylaw12_modelOf.l0
      repeat' first
      | (with_reducible exact ih0 _ _ _)
      | (with_reducible exact LeO.refl _)
      | (with_reducible exact LeO.none _)
      | (with_reducible refine LeO.ite ?_ ?_)
      | (with_reducible refine LeO.bind ?_ (fun _ => ?_))
      | exact ih0 _ _ _
      | exact LeO.none _
      | refine LeO.ite ?_ ?_
      | refine LeO.bind ?_ (fun _ => ?_)
theorem reliquarylaw12_modelOf.mono : ∀ a0 k, LeO (reliquarylaw12_modelOf.f k a0) (reliquarylaw12_modelOf.f (k + 1) a0) := by
  intro a0 k
  have ih0 := reliquarylaw12_modelOf.mono_l k
  unfold reliquarylaw12_modelOf.f
  repeat' first
      | (with_reducible exact ih0 _ _ _)
      | (with_reducible exact LeO.refl _)
      | (with_reducible exact LeO.none _)
      | (with_reducible refine LeO.ite ?_ ?_)
      | (with_reducible refine LeO.bind ?_ (fun _ => ?_))
      | exact ih0 _ _ _
      | exact LeO.none _
      | refine LeO.ite ?_ ?_
      | refine LeO.bind ?_ (fun _ => ?_)
def reliquarylaw12_modelOf.T5 : Bool × List (List Nat × List Nat) := (true, [([], []), ([], []), ([], []), ([1, 2], [1, 2]), ([3], [3]), ([4], [4]), ([], []), ([], []), ([6, 7], [6, 7]), ([8], [8]), ([9], [9]), ([10], [10]), ([5, 11], [5, 11]), ([12], [12]), ([0, 13], [0, 13]), ([14, 14, 0, 1, 2, 3, 4, 5, 6, 7, 8, 9, 10, 11, 12, 13, 14], [0, 14])])
def reliquarylaw12_modelOf.B5 : List Nat := [0, 0, 0, 6, 14, 30, 0, 0, 192, 448, 960, 1984, 4094, 8190, 16383, 32767]
theorem reliquarylaw12_modelOf.tab5 : rtab .any (opsOf Try.f17 5) = reliquarylaw12_modelOf.T5 := by kernel_rfl
theorem reliquarylaw12_modelOf.bits5 : waitsOk reliquarylaw12_modelOf.T5.2 reliquarylaw12_modelOf.B5 = true := by kernel_rfl
set_option maxHeartbeats 8000000 in
set_option maxRecDepth 100000 in
theorem reliquarylaw12_modelOf.calls (k : Nat) (A0 : Option Addr) (c0 : Nat) (l0 : List (S25)) (r : List (S37)) (w : World) (hr0 : Kd.C k25 w A0 l0.length l0) (hc0 : l0.length ≤ c0) (h : reliquarylaw12_modelOf.f k l0 = some r) :
    Calls Try.prog 17 #[.slice A0 l0.length c0] w fun e w' => ∃ v0_ : Value, e = .returned (v0_) ∧ Kd.R k37 37 w' w.heap.size (fun _ => True) v0_ r ∧ Below w.heap.size w w' := by
  have hu37 := Try.underlying37
  have HR0 := Aside0.mk hr0
  have HC0 := Aside0.mk hc0
  clear hr0 hc0
  have HB := Aside0.mk (Below.refl w.heap.size w)
  have H : (reliquarylaw12_modelOf.l0 k l0 ([] : List (S37)) 0) = some r := h
  clear h
  have H' := Aside0.mk H
  clear H
  go_enter Try.func17, Try.ntmps17
  go_wp2
  go_loopg [3, 4] k (fun kq v3 v4 w' => ∃ (x3_1 : List (S37)) (x4_1 : Int), v4 = .int .i64 x4_1 ∧ Aside0 (reliquarylaw12_modelOf.l0 kq l0 x3_1 x4_1 = some r) ∧ Aside0 (kq ≤ k) ∧ Aside0 (Kd.R k37 37 w' w.heap.size (fun _ => True) v3 x3_1) ∧ Aside0 (Below w.heap.size w w'))
  case atStart => exact ⟨(([] : List (S37))), (0), (by first | rfl | (simp; done) | (simp [*]; done)), H', ⟨Nat.le_refl _⟩, ⟨by first | exact Kd.R_nil _ _ _ _ _ | exact Kd.N_nil _ _ _ _ _ | exact Kd.V_nil _ _ _ _ _ | exact Kd.Q_nil _ _ _ _ _ | exact Kd.S_nil _ _ _ _ _⟩, ⟨by repeat (first | (with_reducible first | exact HB.out | apply below_alloc | apply pw_below_drewN | apply below_drew1) | exact HB.out)⟩⟩
  case round =>
    clear H'
    try clear c1
    obtain ⟨x3_1, x4_1, rfl, HA, HK1, HO_3, HB⟩ := hrel
    cases gk with
    | zero => exact absurd HA.out (by simp [reliquarylaw12_modelOf.l0])
    | succ k1 =>
      have H := HA.out
      clear HA
      simp only [reliquarylaw12_modelOf.l0] at H
      by_cases c2 : x4_1 < (l0.length : Int)
      · rw [if_pos c2] at H
        have c2b0 : decide (x4_1 < (l0.length : Int)) = true := decide_eq_true c2
        clear c2
        by_cases c3 : 0 ≤ x4_1
        · rw [if_pos c3] at H
          have c3b0 : decide (0 ≤ x4_1) = true := decide_eq_true c3
          clear c3
          by_cases c4 : x3_1.length < 5864062014805
          · rw [if_pos c4] at H
            have LMc4 := Aside0.mk c4
            clear c4
            obtain ⟨y304, hy304⟩ : ∃ y_ : List (S37), y_ = (x3_1 ++ [(⟨(rd_T25 l0 x4_1).f0, strOfNums ((rd_T25 l0 x4_1).f1)⟩ : S37)]) := ⟨_, rfl⟩
            replace H : (reliquarylaw12_modelOf.l0 k1 l0 y304 (wrap64 (x4_1 + 1))) = some r := by first | (rw [hy304]; with_reducible exact H) | (have H2_ := (Option.bind_some _ _).symm.trans H; rw [hy304]; with_reducible exact H2_) | (have H2_ := (Option.bind_some _ _).symm.trans H; with_reducible exact H2_) | with_reducible exact H | (rw [hy304]; exact H) | exact H
            have Ny304 := Aside0.mk hy304
            clear hy304
            have H' := Aside0.mk H
            clear H
            try go_wp2
            have n0_ := Aside0.mk (Kd.R_drew HO_3.out)
            have n1_ := Aside0.mk (below_drew1 HB.out)
            clear HO_3
            clear HB
            have HO_3 := n0_
            have HB := n1_
            clear n0_ n1_
            have p302 : 0 ≤ (x4_1 : Int) := of_decide_eq_true (by first | (with_reducible assumption) | assumption)
            have q302 : x4_1 < (l0.length : Int) := of_decide_eq_true (by first | (with_reducible assumption) | assumption)
            obtain ⟨ad302, A302_1, c302_1, e302, hx302_0, hx302_1, hl302_1, hi302_1⟩ := at_T25 HR0.out x4_1 p302 q302
            have hw302_1 := hx302_1
            have hw302_0 := hx302_0
            cases e302
            replace hx302_0 := (HB.out.cell (World.block_lt_of_cell? w _ hx302_0)).trans hx302_0
            replace hx302_1 := (HB.out.cell (World.block_lt_of_cell? w _ hx302_1)).trans hx302_1
            have HR302_1 := Aside0.mk hi302_1
            have HC302_1 := Aside0.mk hl302_1
            clear hi302_1 hl302_1
            replace p302 := eq_true p302
            replace q302 := eq_true q302
            have p303 : 0 ≤ (x4_1 : Int) := of_decide_eq_true (by first | (with_reducible assumption) | assumption)
            have q303 : x4_1 < (l0.length : Int) := of_decide_eq_true (by first | (with_reducible assumption) | assumption)
            obtain ⟨ad303, A303_1, c303_1, e303, hx303_0, hx303_1, hl303_1, hi303_1⟩ := at_T25 HR0.out x4_1 p303 q303
            have hw303_1 := hx303_1
            have hw303_0 := hx303_0
            obtain rfl : ad302 = ad303 := (by injection e303)
            replace hx303_0 := (HB.out.cell (World.block_lt_of_cell? w _ hx303_0)).trans hx303_0
            replace hx303_1 := (HB.out.cell (World.block_lt_of_cell? w _ hx303_1)).trans hx303_1
            have HR303_1 := Aside0.mk hi303_1
            have HC303_1 := Aside0.mk hl303_1
            clear hi303_1 hl303_1
            replace p303 := eq_true p303
            replace q303 := eq_true q303
            have ea_ := Option.some.inj (hx302_1.symm.trans hx303_1)
            injection ea_ with ea_ en_ ec_
            subst ea_
            subst ec_
            clear en_
            have hcv6 := Kd.C_string (P := Try.prog) (A := A302_1) (c := c302_1) Try.underlying23 Try.underlying5 Try.underlying9 (Kd.C_below HR303_1.out HB.out)
            refine start_ (n := 16) (S := fun w' => w'.cell? (ad302.add ((x4_1).toNat * 2)) = some (.int .u64 ((rd_T25 l0 x4_1).f0)) ∧ w'.cell? ⟨(ad302.add ((x4_1).toNat * 2)).block, (ad302.add ((x4_1).toNat * 2)).off + 1, none⟩ = some (.slice A302_1 ((rd_T25 l0 x4_1).f1).length c302_1) ∧ w'.cell? (ad302.add ((x4_1).toNat * 2)) = some (.int .u64 ((rd_T25 l0 x4_1).f0)) ∧ w'.cell? ⟨(ad302.add ((x4_1).toNat * 2)).block, (ad302.add ((x4_1).toNat * 2)).off + 1, none⟩ = some (.slice A302_1 ((rd_T25 l0 x4_1).f1).length c302_1) ∧ (convert 23 9 (.slice A302_1 ((rd_T25 l0 x4_1).f1).length c302_1)).run Try.prog w' = .ok (.string (strOfNums ((rd_T25 l0 x4_1).f1))) w') (ds := []) #[false, false, false, false, false, false, false, false, false, false, false, false, false, false, false, false] (by kernel_rfl) rfl rfl ⟨((HB.out.cell (World.block_lt_of_cell? w _ hw302_0)).trans hw302_0), ((HB.out.cell (World.block_lt_of_cell? w _ hw302_1)).trans hw302_1), ((HB.out.cell (World.block_lt_of_cell? w _ hw303_0)).trans hw303_0), ((HB.out.cell (World.block_lt_of_cell? w _ hw303_1)).trans hw303_1), hcv6⟩ (fun hHeld => ?_); refine with_tabW reliquarylaw12_modelOf.tab5 reliquarylaw12_modelOf.bits5 (fun HT_ HW_ => ?_)
            generalize wr.drew = w5 at HO_3 HB HR302_1 HR303_1 hx302_0 hx302_1 hx303_0 hx303_1 hHeld ⊢
            refine pure_ (i := 0) (N := some 11) (v := ?_) (a' := ?_) #[true, false, false, false, false, false, false, false, false, false, false, false, false, false, false, false] rfl rfl (any_of HT_.out (by kernel_rfl)) (fun _ _ _ h => h) (Or.inl ⟨by rfl, ?_⟩) ?_ ?_
            rotate_left
            · intro w'
              go_simp
              with_reducible rfl
            rotate_left
            · simp only [Act.put, List.setIfInBounds_toArray, List.set_cons_zero, List.set_cons_succ, i64_w, i32_w]
              rfl
            refine pure_ (i := 1) (N := some 12) (v := ?_) (a' := ?_) #[true, true, false, false, false, false, false, false, false, false, false, false, false, false, false, false] rfl rfl (any_of HT_.out (by kernel_rfl)) (fun _ _ _ h => h) (Or.inl ⟨by rfl, ?_⟩) ?_ ?_
            rotate_left
            · intro w'
              go_simp
              with_reducible rfl
            rotate_left
            · simp only [Act.put, List.setIfInBounds_toArray, List.set_cons_zero, List.set_cons_succ, i64_w, i32_w]
              rfl
            refine pure_ (i := 2) (N := some 13) (v := ?_) (a' := ?_) #[true, true, true, false, false, false, false, false, false, false, false, false, false, false, false, false] rfl rfl (any_of HT_.out (by kernel_rfl)) (fun _ _ _ h => h) (Or.inl ⟨by rfl, ?_⟩) ?_ ?_
            rotate_left
            · intro w'
              go_simp
              with_reducible rfl
            rotate_left
            · simp only [Act.put, List.setIfInBounds_toArray, List.set_cons_zero, List.set_cons_succ, i64_w, i32_w]
              rfl
            refine pure_ (i := 3) (N := some 14) (v := ?_) (a' := ?_) #[true, true, true, true, false, false, false, false, false, false, false, false, false, false, false, false] rfl rfl (any_of HT_.out (by kernel_rfl)) (fun _ _ _ h => h) (Or.inl ⟨by rfl, ?_⟩) ?_ ?_
            rotate_left
            · intro w'
              go_simp
              with_reducible rfl
            rotate_left
            · simp only [Act.put, List.setIfInBounds_toArray, List.set_cons_zero, List.set_cons_succ, i64_w, i32_w]
              rfl
            refine pure_ (i := 4) (N := some 15) (v := ?_) (a' := ?_) #[true, true, true, true, true, false, false, false, false, false, false, false, false, false, false, false] rfl rfl (any_of HT_.out (by kernel_rfl)) (fun _ _ _ h => h) (Or.inl ⟨by rfl, ?_⟩) ?_ ?_
            rotate_left
            · intro w'
              go_simp
              with_reducible rfl
            rotate_left
            · simp only [Act.put, List.setIfInBounds_toArray, List.set_cons_zero, List.set_cons_succ, i64_w, i32_w]
              rfl
            refine pure_ (i := 6) (N := some 17) (v := ?_) (a' := ?_) #[true, true, true, true, true, false, true, false, false, false, false, false, false, false, false, false] rfl rfl (any_of HT_.out (by kernel_rfl)) (fun _ _ _ h => h) (Or.inl ⟨by rfl, ?_⟩) ?_ ?_
            rotate_left
            · intro w'
              go_simp
              with_reducible rfl
            rotate_left
            · simp only [Act.put, List.setIfInBounds_toArray, List.set_cons_zero, List.set_cons_succ, i64_w, i32_w]
              rfl
            refine pure_ (i := 7) (N := some 18) (v := ?_) (a' := ?_) #[true, true, true, true, true, false, true, true, false, false, false, false, false, false, false, false] rfl rfl (any_of HT_.out (by kernel_rfl)) (fun _ _ _ h => h) (Or.inl ⟨by rfl, ?_⟩) ?_ ?_
            rotate_left
            · intro w'
              go_simp
              with_reducible rfl
            rotate_left
            · simp only [Act.put, List.setIfInBounds_toArray, List.set_cons_zero, List.set_cons_succ, i64_w, i32_w]
              rfl
            refine pure_ (i := 8) (N := some 19) (v := ?_) (a' := ?_) #[true, true, true, true, true, false, true, true, true, false, false, false, false, false, false, false] rfl rfl (any_of HT_.out (by kernel_rfl)) (fun _ _ _ h => h) (Or.inl ⟨by rfl, ?_⟩) ?_ ?_
            rotate_left
            · intro w'
              go_simp
              with_reducible rfl
            rotate_left
            · simp only [Act.put, List.setIfInBounds_toArray, List.set_cons_zero, List.set_cons_succ, i64_w, i32_w]
              rfl
            refine pure_ (i := 9) (N := some 20) (v := ?_) (a' := ?_) #[true, true, true, true, true, false, true, true, true, true, false, false, false, false, false, false] rfl rfl (any_of HT_.out (by kernel_rfl)) (fun _ _ _ h => h) (Or.inl ⟨by rfl, ?_⟩) ?_ ?_
            rotate_left
            · intro w'
              go_simp
              with_reducible rfl
            rotate_left
            · simp only [Act.put, List.setIfInBounds_toArray, List.set_cons_zero, List.set_cons_succ, i64_w, i32_w]
              rfl
            refine take_ (i := 5) (N := some 16) (v := ?_) (a' := ?_) #[true, true, true, true, true, true, true, true, true, true, false, false, false, false, false, false] rfl rfl (take_ofW HT_.out HW_.out (by kernel_rfl)) (fun _ _ _ h => h) (Or.inl ⟨by rfl, ?_⟩) hHeld ?_ ?_
            rotate_left
            · rintro w' ⟨s0, s1, s2, s3, s4⟩
              go_simp
              with_reducible rfl
            rotate_left
            · simp only [Act.put, List.setIfInBounds_toArray, List.set_cons_zero, List.set_cons_succ, i64_w, i32_w]
              rfl
            refine take_ (i := 10) (N := some 21) (v := ?_) (a' := ?_) #[true, true, true, true, true, true, true, true, true, true, true, false, false, false, false, false] rfl rfl (take_ofW HT_.out HW_.out (by kernel_rfl)) (fun _ _ _ h => h) (Or.inl ⟨by rfl, ?_⟩) hHeld ?_ ?_
            rotate_left
            · rintro w' ⟨s0, s1, s2, s3, s4⟩
              go_simp
              with_reducible rfl
            rotate_left
            · simp only [Act.put, List.setIfInBounds_toArray, List.set_cons_zero, List.set_cons_succ, i64_w, i32_w]
              rfl
            refine take_ (i := 11) (N := some 22) (v := ?_) (a' := ?_) #[true, true, true, true, true, true, true, true, true, true, true, true, false, false, false, false] rfl rfl (take_ofW HT_.out HW_.out (by kernel_rfl)) (fun _ _ _ h => h) (Or.inl ⟨by rfl, ?_⟩) hHeld ?_ ?_
            rotate_left
            · rintro w' ⟨s0, s1, s2, s3, s4⟩
              go_simp
              with_reducible rfl
            rotate_left
            · simp only [Act.put, List.setIfInBounds_toArray, List.set_cons_zero, List.set_cons_succ, i64_w, i32_w]
              rfl
            refine pure_ (i := 12) (N := some 23) (v := ?_) (a' := ?_) #[true, true, true, true, true, true, true, true, true, true, true, true, true, false, false, false] rfl rfl (any_of HT_.out (by kernel_rfl)) (fun _ _ _ h => h) (Or.inl ⟨by rfl, ?_⟩) ?_ ?_
            rotate_left
            · intro w'
              go_simp
              with_reducible rfl
            rotate_left
            · simp only [Act.put, List.setIfInBounds_toArray, List.set_cons_zero, List.set_cons_succ, i64_w, i32_w]
              rfl
            refine one_ (i := 13) (N := some 24) #[true, true, true, true, true, true, true, true, true, true, true, true, true, true, false, false] rfl rfl (one_of HT_.out (by kernel_rfl)) (by decide) (fun K hK => ?_)
            refine value_ (w1 := ?_) (v := ?_) (by rfl) rfl ?_ ?_
            rotate_left 2
            · go_simp
              constructor
              · rfl
              · rfl
            refine hK.out _ _ ⟨(World.cell?_alloc_lt _ _ _ (World.block_lt_of_cell? _ _ (((HB.out.cell (World.block_lt_of_cell? w _ hw302_0)).trans hw302_0)))).trans (((HB.out.cell (World.block_lt_of_cell? w _ hw302_0)).trans hw302_0)), (World.cell?_alloc_lt _ _ _ (World.block_lt_of_cell? _ _ (((HB.out.cell (World.block_lt_of_cell? w _ hw302_1)).trans hw302_1)))).trans (((HB.out.cell (World.block_lt_of_cell? w _ hw302_1)).trans hw302_1)), (World.cell?_alloc_lt _ _ _ (World.block_lt_of_cell? _ _ (((HB.out.cell (World.block_lt_of_cell? w _ hw303_0)).trans hw303_0)))).trans (((HB.out.cell (World.block_lt_of_cell? w _ hw303_0)).trans hw303_0)), (World.cell?_alloc_lt _ _ _ (World.block_lt_of_cell? _ _ (((HB.out.cell (World.block_lt_of_cell? w _ hw303_1)).trans hw303_1)))).trans (((HB.out.cell (World.block_lt_of_cell? w _ hw303_1)).trans hw303_1)), Kd.C_string (P := Try.prog) (A := A302_1) (c := c302_1) Try.underlying23 Try.underlying5 Try.underlying9 (Kd.C_alloc (Kd.C_below HR303_1.out HB.out) _)⟩ (fun hHeld => ?_)
            clear hK K
            refine norm_ (a' := ?_) ?_ ?_
            rotate_left
            · show Act.put _ (some 24) _ = _
              simp only [Act.put, List.setIfInBounds_toArray, List.set_cons_zero, List.set_cons_succ, i64_w, i32_w]
              rfl
            refine one_ (i := 14) (N := some 25) #[true, true, true, true, true, true, true, true, true, true, true, true, true, true, true, false] rfl rfl (one_of HT_.out (by kernel_rfl)) (by decide) (fun K hK => ?_)
            refine Kd.R_append_step k37 (w0 := w) w.heap.size (by rfl) (.tmp 11) (.tmp 24) 54 37 (.agg #[(.int .u64 0), (.string ⟨#[]⟩)]) 24 rfl Try.underlying54 info37 rfl (by decide) (by omega) u3 x3_1 (⟨(rd_T25 l0 x4_1).f0, strOfNums ((rd_T25 l0 x4_1).f1)⟩ : S37) [.int .u64 ((rd_T25 l0 x4_1).f0), .string (strOfNums ((rd_T25 l0 x4_1).f1))] (fun _ => True) (fun _ => False) rfl rfl ?aP (fun _ hk => hk.elim) ?aF ?aO ?aB ?aS ?aL ?_
            (case aP => exact k37_mkM _ _ _ (⟨(rd_T25 l0 x4_1).f0, strOfNums ((rd_T25 l0 x4_1).f1)⟩ : S37))
            (case aB => exact (by repeat (first | (with_reducible first | exact HB.out | apply below_alloc | apply pw_below_drewN | apply below_drew1) | exact HB.out)))
            (case aF => exact (fun _ _ => trivial))
            (case aO => exact (by (with_reducible repeat (first | apply Kd.R_alloc | apply Kd.R_drewN | apply Kd.R_drew)); exact HO_3.out))
            (case aS => exact (below_size (by repeat (first | (with_reducible first | exact HB.out | apply below_alloc | apply pw_below_drewN | apply below_drew1) | exact HB.out))))
            (case aL => have := LMc4.out; omega)
            intro v305 w7 ho hb hg hat
            rw [← Ny304.out] at ho
            have n0_ := Aside0.mk (hb)
            have n1_ := Aside0.mk (ho)
            clear HB
            clear HO_3
            have HB := n0_
            have HO306 := n1_
            clear n0_ n1_
            clear ho hb hg hat
            refine hK.out _ _ ⟨((HB.out.cell (World.block_lt_of_cell? w _ hw302_0)).trans hw302_0), ((HB.out.cell (World.block_lt_of_cell? w _ hw302_1)).trans hw302_1), ((HB.out.cell (World.block_lt_of_cell? w _ hw303_0)).trans hw303_0), ((HB.out.cell (World.block_lt_of_cell? w _ hw303_1)).trans hw303_1), Kd.C_string (P := Try.prog) (A := A302_1) (c := c302_1) Try.underlying23 Try.underlying5 Try.underlying9 (Kd.C_below HR303_1.out HB.out)⟩ (fun hHeld => ?_)
            clear hK K
            refine norm_ (a' := ?_) ?_ ?_
            rotate_left
            · show Act.put _ (some 25) _ = _
              simp only [Act.put, List.setIfInBounds_toArray, List.set_cons_zero, List.set_cons_succ, i64_w, i32_w]
              rfl
            refine pure_ (i := 15) (N := some 3) (v := ?_) (a' := ?_) #[true, true, true, true, true, true, true, true, true, true, true, true, true, true, true, true] rfl rfl (any_of HT_.out (by kernel_rfl)) (fun _ _ _ h => h) (Or.inl ⟨by rfl, ?_⟩) ?_ ?_
            rotate_left
            · intro w'
              go_simp
              with_reducible rfl
            rotate_left
            · simp only [Act.put, List.setIfInBounds_toArray, List.set_cons_zero, List.set_cons_succ, i64_w, i32_w]
              rfl
            refine done_ (done_of HT_.out (by kernel_rfl)) ?_
            try go_wp2
            go_roundg k1
            case measure => have := HK1.out; omega
            case rel => exact ⟨(y304), (wrap64 (x4_1 + 1)), (by first | rfl | (simp; done) | (simp [*]; done)), H', ⟨by have := HK1.out; omega⟩, ⟨by (with_reducible repeat (first | apply Kd.R_alloc | apply Kd.R_drewN | apply Kd.R_drew)); exact HO306.out⟩, ⟨by repeat (first | (with_reducible first | exact HB.out | apply below_alloc | apply pw_below_drewN | apply below_drew1) | exact HB.out)⟩⟩
          · rw [if_neg c4] at H
            exact absurd H (by simp)
        · rw [if_neg c3] at H
          exact absurd H (by simp)
      · rw [if_neg c2] at H
        have c2b0 : decide (x4_1 < (l0.length : Int)) = false := decide_eq_false c2
        clear c2
        obtain rfl := Option.some.inj H
        go_wp2
        go_ret
        exact ⟨_, by first | rfl | (simp [errW_none, errW_some] <;> rfl) | (simp [*, errW_none, errW_some] <;> rfl), by (with_reducible repeat (first | apply Kd.R_alloc | apply Kd.R_drewN | apply Kd.R_drew)); exact HO_3.out, by repeat (first | (with_reducible first | exact HB.out | apply below_alloc | apply pw_below_drewN | apply below_drew1) | exact HB.out)⟩

end Go.Proofs.Ytjpkjakdhbnehaa.Q
end
section
-- Written by this session's own program (ext_print.py) over the kit's print.py, hand proofs among it. Not trusted: Lean checks it.
namespace Go.Proofs.Ytjpkjakdhbnehaa.Q
open Go.RowKit Go.Proofs.YtjpkjakdhbnehaaW.PrintWords Go.Proofs.YtjpkjakdhbnehaaW.PrintLast Go.Proofs.YtjpkjakdhbnehaaW.PrintMore
attribute [local go_sem] max2_int min2_int max_two min_two max_three min_three max_four min_four   -- for this text's walks alone
set_option linter.unusedVariables false
set_option linter.unusedSimpArgs false

/-! ### reliquaryref12_Changes: function 19 -/
def reliquaryref12_Changes.l0 : Nat → List (S39) → List (List (S37)) → List (S37) → Int → Option ((List (List (S37))) × Int)
  | 0, _, _, _, _ => none
  | k + 1, x0, x4, x5, x6 => if x6 < (x0.length : Int) then (if 0 ≤ x6 then (if x5.length < 5864062014805 then ((some (x5 ++ [(⟨(rd_T39 x0 x6).f0.f0, (rd_T39 x0 x6).f0.f1⟩ : S37)] : List (S37))).bind fun y308 => (if (rd_T39 x0 x6).f1 = true then (if x4.length < 5864062014805 then (reliquaryref12_Changes.l0 k x0 (x4 ++ [y308]) ([] : List (S37)) (wrap64 (x6 + 1))) else (none)) else (reliquaryref12_Changes.l0 k x0 x4 y308 (wrap64 (x6 + 1))))) else (none)) else (none)) else (if (x5.length : Int) > 0 then (some (([] : List (List (S37))), 11)) else (some (x4, 0)))
def reliquaryref12_Changes.f (k : Nat) (l0 : List (S39)) : Option ((List (List (S37))) × Int) := reliquaryref12_Changes.l0 k l0 ([] : List (List (S37))) ([] : List (S37)) 0
theorem reliquaryref12_Changes.mono_l : ∀ k, (∀ y0 y1 y2 y3, LeO (reliquaryref12_Changes.l0 k y0 y1 y2 y3) (reliquaryref12_Changes.l0 (k + 1) y0 y1 y2 y3))
  | 0 => fun _ _ _ _ r h => by simp [reliquaryref12_Changes.l0] at h
  | k + 1 => by
    have ih0 := reliquaryref12_Changes.mono_l k
    · intro y0 y1 y2 y3
      unfold reliquaryref12_Changes.l0
      repeat' first
      | (with_reducible exact ih0 _ _ _ _)
      | (with_reducible exact LeO.refl _)
      | (with_reducible exact LeO.none _)
      | (with_reducible refine LeO.ite ?_ ?_)
      | (with_reducible refine LeO.bind ?_ (fun _ => ?_))
      | exact ih0 _ _ _ _
      | exact LeO.none _
      | refine LeO.ite ?_ ?_
      | refine LeO.bind ?_ (fun _ => ?_)
theorem reliquaryref12_Changes.mono : ∀ a0 k, LeO (reliquaryref12_Changes.f k a0) (reliquaryref12_Changes.f (k + 1) a0) := by
  intro a0 k
  have ih0 := reliquaryref12_Changes.mono_l k
  unfold reliquaryref12_Changes.f
  repeat' first
      | (with_reducible exact ih0 _ _ _ _)
      | (with_reducible exact LeO.refl _)
      | (with_reducible exact LeO.none _)
      | (with_reducible refine LeO.ite ?_ ?_)
      | (with_reducible refine LeO.bind ?_ (fun _ => ?_))
      | exact ih0 _ _ _ _
      | exact LeO.none _
      | refine LeO.ite ?_ ?_
      | refine LeO.bind ?_ (fun _ => ?_)
set_option maxHeartbeats 8000000 in
set_option maxRecDepth 100000 in
theorem reliquaryref12_Changes.calls (k : Nat) (A0 : Option Addr) (c0 : Nat) (l0 : List (S39)) (r1 : List (List (S37))) (r2 : Int) (w : World) (hr0 : Kd.C k39 w A0 l0.length l0) (hc0 : l0.length ≤ c0) (h : reliquaryref12_Changes.f k l0 = some (r1, r2)) :
    Calls Try.prog 19 #[.slice A0 l0.length c0] w fun e w' => ∃ v0_ : Value, e = .returned (.tuple #[v0_, .int .i64 r2]) ∧ Kd.S (Kd.slice 37 k37) 54 w' w.heap.size (fun _ => True) v0_ r1 ∧ Below w.heap.size w w' := by
  have hu37 := Try.underlying37
  have HR0 := Aside0.mk hr0
  have HC0 := Aside0.mk hc0
  clear hr0 hc0
  have HB := Aside0.mk (Below.refl w.heap.size w)
  have H : (reliquaryref12_Changes.l0 k l0 ([] : List (List (S37))) ([] : List (S37)) 0) = some (r1, r2) := h
  clear h
  have H' := Aside0.mk H
  clear H
  go_enter Try.func19, Try.ntmps19
  go_wp2
  go_loopg [4, 5, 6] k (fun kq v4 v5 v6 w' => ∃ (x4_1 : List (List (S37))) (x5_1 : List (S37)) (x6_1 : Int), v6 = .int .i64 x6_1 ∧ Aside0 (reliquaryref12_Changes.l0 kq l0 x4_1 x5_1 x6_1 = some (r1, r2)) ∧ Aside0 (kq ≤ k) ∧ Aside0 (Kd.S (Kd.slice 37 k37) 54 w' w.heap.size (fun k_ => some k_ ≠ (v5 : Value).ownBlock) v4 x4_1) ∧ Aside0 (Kd.R k37 37 w' w.heap.size (fun _ => True) v5 x5_1) ∧ Aside0 (Below w.heap.size w w'))
  case atStart => exact ⟨(([] : List (List (S37)))), (([] : List (S37))), (0), (by first | rfl | (simp; done) | (simp [*]; done)), H', ⟨Nat.le_refl _⟩, ⟨by first | exact Kd.S_nil _ _ _ _ _ | exact Kd.N_nil _ _ _ _ _ | exact Kd.V_nil _ _ _ _ _ | exact Kd.Q_nil _ _ _ _ _ | exact Kd.R_nil _ _ _ _ _⟩, ⟨by first | exact Kd.R_nil _ _ _ _ _ | exact Kd.N_nil _ _ _ _ _ | exact Kd.V_nil _ _ _ _ _ | exact Kd.Q_nil _ _ _ _ _ | exact Kd.S_nil _ _ _ _ _⟩, ⟨by repeat (first | (with_reducible first | exact HB.out | apply below_alloc | apply pw_below_drewN | apply below_drew1) | exact HB.out)⟩⟩
  case round =>
    clear H'
    try clear c1
    obtain ⟨x4_1, x5_1, x6_1, rfl, HA, HK1, HO_4, HO_5, HB⟩ := hrel
    cases gk with
    | zero => exact absurd HA.out (by simp [reliquaryref12_Changes.l0])
    | succ k1 =>
      have H := HA.out
      clear HA
      simp only [reliquaryref12_Changes.l0] at H
      by_cases c2 : x6_1 < (l0.length : Int)
      · rw [if_pos c2] at H
        have c2b0 : decide (x6_1 < (l0.length : Int)) = true := decide_eq_true c2
        clear c2
        by_cases c3 : 0 ≤ x6_1
        · rw [if_pos c3] at H
          have c3b0 : decide (0 ≤ x6_1) = true := decide_eq_true c3
          clear c3
          by_cases c4 : x5_1.length < 5864062014805
          · rw [if_pos c4] at H
            have LMc4 := Aside0.mk c4
            clear c4
            obtain ⟨y308, hy308⟩ : ∃ y_ : List (S37), y_ = (x5_1 ++ [(⟨(rd_T39 l0 x6_1).f0.f0, (rd_T39 l0 x6_1).f0.f1⟩ : S37)]) := ⟨_, rfl⟩
            replace H : (if (rd_T39 l0 x6_1).f1 = true then (if x4_1.length < 5864062014805 then (reliquaryref12_Changes.l0 k1 l0 (x4_1 ++ [y308]) ([] : List (S37)) (wrap64 (x6_1 + 1))) else (none)) else (reliquaryref12_Changes.l0 k1 l0 x4_1 y308 (wrap64 (x6_1 + 1)))) = some (r1, r2) := by first | (rw [hy308]; with_reducible exact H) | (have H2_ := (Option.bind_some _ _).symm.trans H; rw [hy308]; with_reducible exact H2_) | (have H2_ := (Option.bind_some _ _).symm.trans H; with_reducible exact H2_) | with_reducible exact H | (rw [hy308]; exact H) | exact H
            have Ny308 := Aside0.mk hy308
            clear hy308
            obtain ⟨bq5, hbq5⟩ : ∃ b_ : Bool, b_ = ((rd_T39 l0 x6_1).f1) := ⟨_, rfl⟩
            replace H : (if bq5 = true then (if x4_1.length < 5864062014805 then (reliquaryref12_Changes.l0 k1 l0 (x4_1 ++ [y308]) ([] : List (S37)) (wrap64 (x6_1 + 1))) else (none)) else (reliquaryref12_Changes.l0 k1 l0 x4_1 y308 (wrap64 (x6_1 + 1)))) = some (r1, r2) := by rw [← hbq5] at H; exact H
            have Nbq5 := Aside0.mk hbq5
            clear hbq5
            by_cases c6 : bq5 = true
            · subst c6
              have H1 : (if x4_1.length < 5864062014805 then (reliquaryref12_Changes.l0 k1 l0 (x4_1 ++ [y308]) ([] : List (S37)) (wrap64 (x6_1 + 1))) else (none)) = some (r1, r2) := by rw [if_pos rfl] at H; exact H
              clear H
              have H := H1
              clear H1
              by_cases c7 : x4_1.length < 5864062014805
              · rw [if_pos c7] at H
                have LMc7 := Aside0.mk c7
                clear c7
                obtain ⟨y312, hy312⟩ : ∃ y_ : List (List (S37)), y_ = (x4_1 ++ [y308]) := ⟨_, rfl⟩
                replace H : (reliquaryref12_Changes.l0 k1 l0 y312 ([] : List (S37)) (wrap64 (x6_1 + 1))) = some (r1, r2) := by first | (rw [hy312]; with_reducible exact H) | (have H2_ := (Option.bind_some _ _).symm.trans H; rw [hy312]; with_reducible exact H2_) | (have H2_ := (Option.bind_some _ _).symm.trans H; with_reducible exact H2_) | with_reducible exact H | (rw [hy312]; exact H) | exact H
                have Ny312 := Aside0.mk hy312
                clear hy312
                have H' := Aside0.mk H
                clear H
                have p307 : 0 ≤ (x6_1 : Int) := of_decide_eq_true (by first | (with_reducible assumption) | assumption)
                have q307 : x6_1 < (l0.length : Int) := of_decide_eq_true (by first | (with_reducible assumption) | assumption)
                obtain ⟨ad307, e307, hx307_0, hx307_1, hx307_2⟩ := at_T39 HR0.out x6_1 p307 q307
                (try rw [← Nbq5.out] at hx307_2)
                cases e307
                replace hx307_0 := (HB.out.cell (World.block_lt_of_cell? w _ hx307_0)).trans hx307_0
                replace hx307_1 := (HB.out.cell (World.block_lt_of_cell? w _ hx307_1)).trans hx307_1
                replace hx307_2 := (HB.out.cell (World.block_lt_of_cell? w _ hx307_2)).trans hx307_2
                replace p307 := eq_true p307
                replace q307 := eq_true q307
                go_wp2_with (first | ((with_reducible refine gate_builtin (b := .append) (xs := #[.tmp 13, .tmp 19]) rfl ?_); at_builtin; refine Kd.R_append k37 (w0 := w) w.heap.size rfl (.tmp 13) (.tmp 19) 54 37 (.agg #[(.int .u64 0), (.string ⟨#[]⟩)]) 24 rfl Try.underlying54 info37 rfl (by decide) (by omega) u5 x5_1 (⟨(rd_T39 l0 x6_1).f0.f0, (rd_T39 l0 x6_1).f0.f1⟩ : S37) [.int .u64 ((rd_T39 l0 x6_1).f0.f0), .string ((rd_T39 l0 x6_1).f0.f1)] (fun _ => True) (fun _ => False) rfl rfl ?aP (fun _ hk => hk.elim) ?aF ?aO ?aB ?aS ?aL ?_; (case aP => exact k37_mkM _ _ _ (⟨(rd_T39 l0 x6_1).f0.f0, (rd_T39 l0 x6_1).f0.f1⟩ : S37)); (case aB => exact (by repeat (first | (with_reducible first | exact HB.out | apply below_alloc | apply pw_below_drewN | apply below_drew1) | exact HB.out))); (case aF => exact (fun _ _ => trivial)); (case aO => exact (by (with_reducible repeat (first | apply Kd.R_alloc | apply Kd.R_drewN | apply Kd.R_drew)); exact HO_5.out)); (case aS => exact (below_size (by repeat (first | (with_reducible first | exact HB.out | apply below_alloc | apply pw_below_drewN | apply below_drew1) | exact HB.out)))); (case aL => have := LMc4.out; omega); intro v309 w8 ho hb hg hat; rw [← Ny308.out] at ho; have n0_ := Aside0.mk (Kd.S_after (ok := (fun _ => True)) (by (with_reducible repeat (first | apply Kd.S_alloc | apply Kd.S_drewN | apply Kd.S_drew)); exact Kd.S_mono HO_4.out (fun _ hk => ⟨trivial, hk⟩)) hg hat); have n1_ := Aside0.mk (hb); have n2_ := Aside0.mk (ho); clear HO_4; clear HB; clear HO_5; have HO_4 := n0_; have HB := n1_; have HO310 := n2_; clear n0_ n1_ n2_; clear ho hb hg hat; have p311 : 0 ≤ (x6_1 : Int) := of_decide_eq_true (by first | (with_reducible assumption) | assumption); have q311 : x6_1 < (l0.length : Int) := of_decide_eq_true (by first | (with_reducible assumption) | assumption); obtain ⟨ad311, e311, hx311_0, hx311_1, hx311_2⟩ := at_T39 HR0.out x6_1 p311 q311; (try rw [← Nbq5.out] at hx311_2); obtain rfl : ad307 = ad311 := (by injection e311); replace hx311_0 := (HB.out.cell (World.block_lt_of_cell? w _ hx311_0)).trans hx311_0; replace hx311_1 := (HB.out.cell (World.block_lt_of_cell? w _ hx311_1)).trans hx311_1; replace hx311_2 := (HB.out.cell (World.block_lt_of_cell? w _ hx311_2)).trans hx311_2; replace p311 := eq_true p311; replace q311 := eq_true q311; obtain ⟨Ao10, co10, eo10⟩ := Kd.R_slice HO310.out; subst eo10) | ((with_reducible refine gate_builtin (b := .append) (xs := #[.tmp 26, .tmp 28]) rfl ?_); at_builtin; refine Kd.S_append (Kd.slice 37 k37) (w0 := w) w.heap.size rfl (.tmp 26) (.tmp 28) 59 54 (.slice none 0 0) 24 rfl Try.underlying59 info54 rfl (by decide) (by omega) u4 x4_1 y308 [.slice Ao10 y308.length co10] (fun _ => True) (fun k_ => some k_ = (.slice Ao10 y308.length co10 : Value).ownBlock) rfl rfl ?aP (fun k_ hk_ => ((Kd.R_mono (ok' := fun k_ => ((fun _ => True)) k_ ∧ some k_ ≠ (u4 : Value).ownBlock) (Kd.R_apart' (HO310.out) (Kd.S_typed HO_4.out) (by decide)) (fun k_ hk => ⟨trivial, hk.2⟩))).1 k_ hk_.symm) ?aF ?aO ?aB ?aS ?aL ?_; (case aP => exact Kd.M_row (Kd.R_mono (Kd.R_tight rfl (Kd.R_mono (ok' := fun k_ => ((fun _ => True)) k_ ∧ some k_ ≠ (u4 : Value).ownBlock) (Kd.R_apart' (HO310.out) (Kd.S_typed HO_4.out) (by decide)) (fun k_ hk => ⟨trivial, hk.2⟩))) (fun _ h_ => h_))); (case aB => exact (by repeat (first | (with_reducible first | exact HB.out | apply below_alloc | apply pw_below_drewN | apply below_drew1) | exact HB.out))); (case aF => exact (fun _ _ => trivial)); (case aO => exact (by (with_reducible repeat (first | apply Kd.S_alloc | apply Kd.S_drewN | apply Kd.S_drew)); exact Kd.S_mono HO_4.out (fun k_ hk => ⟨trivial, fun e_ => hk.2 e_⟩))); (case aS => exact (below_size (by repeat (first | (with_reducible first | exact HB.out | apply below_alloc | apply pw_below_drewN | apply below_drew1) | exact HB.out)))); (case aL => have := LMc7.out; omega); intro v313 w9 ho hb hg hat; rw [← Ny312.out] at ho; have n0_ := Aside0.mk (hb); have n1_ := Aside0.mk (ho); clear HB; clear HO_4; clear HO310; have HB := n0_; have HO314 := n1_; clear n0_ n1_; clear ho hb hg hat))
                go_roundg k1
                case measure => have := HK1.out; omega
                case rel => exact ⟨(y312), (([] : List (S37))), (wrap64 (x6_1 + 1)), (by first | rfl | (simp; done) | (simp [*]; done)), H', ⟨by have := HK1.out; omega⟩, ⟨by (with_reducible repeat (first | apply Kd.S_alloc | apply Kd.S_drewN | apply Kd.S_drew)); exact Kd.S_mono HO314.out (fun _ hk => (by simp [Value.ownBlock]))⟩, ⟨by first | exact Kd.R_nil _ _ _ _ _ | exact Kd.N_nil _ _ _ _ _ | exact Kd.V_nil _ _ _ _ _ | exact Kd.Q_nil _ _ _ _ _ | exact Kd.S_nil _ _ _ _ _⟩, ⟨by repeat (first | (with_reducible first | exact HB.out | apply below_alloc | apply pw_below_drewN | apply below_drew1) | exact HB.out)⟩⟩
              · rw [if_neg c7] at H
                exact absurd H (by simp)
            · replace c6 := Bool.eq_false_iff.mpr c6
              subst c6
              have H1 : (reliquaryref12_Changes.l0 k1 l0 x4_1 y308 (wrap64 (x6_1 + 1))) = some (r1, r2) := by rw [if_neg (show ¬ (false = true) by decide)] at H; exact H
              clear H
              have H := H1
              clear H1
              have H' := Aside0.mk H
              clear H
              have p307 : 0 ≤ (x6_1 : Int) := of_decide_eq_true (by first | (with_reducible assumption) | assumption)
              have q307 : x6_1 < (l0.length : Int) := of_decide_eq_true (by first | (with_reducible assumption) | assumption)
              obtain ⟨ad307, e307, hx307_0, hx307_1, hx307_2⟩ := at_T39 HR0.out x6_1 p307 q307
              (try rw [← Nbq5.out] at hx307_2)
              cases e307
              replace hx307_0 := (HB.out.cell (World.block_lt_of_cell? w _ hx307_0)).trans hx307_0
              replace hx307_1 := (HB.out.cell (World.block_lt_of_cell? w _ hx307_1)).trans hx307_1
              replace hx307_2 := (HB.out.cell (World.block_lt_of_cell? w _ hx307_2)).trans hx307_2
              replace p307 := eq_true p307
              replace q307 := eq_true q307
              go_wp2_with (first | ((with_reducible refine gate_builtin (b := .append) (xs := #[.tmp 13, .tmp 19]) rfl ?_); at_builtin; refine Kd.R_append k37 (w0 := w) w.heap.size rfl (.tmp 13) (.tmp 19) 54 37 (.agg #[(.int .u64 0), (.string ⟨#[]⟩)]) 24 rfl Try.underlying54 info37 rfl (by decide) (by omega) u5 x5_1 (⟨(rd_T39 l0 x6_1).f0.f0, (rd_T39 l0 x6_1).f0.f1⟩ : S37) [.int .u64 ((rd_T39 l0 x6_1).f0.f0), .string ((rd_T39 l0 x6_1).f0.f1)] (fun _ => True) (fun _ => False) rfl rfl ?aP (fun _ hk => hk.elim) ?aF ?aO ?aB ?aS ?aL ?_; (case aP => exact k37_mkM _ _ _ (⟨(rd_T39 l0 x6_1).f0.f0, (rd_T39 l0 x6_1).f0.f1⟩ : S37)); (case aB => exact (by repeat (first | (with_reducible first | exact HB.out | apply below_alloc | apply pw_below_drewN | apply below_drew1) | exact HB.out))); (case aF => exact (fun _ _ => trivial)); (case aO => exact (by (with_reducible repeat (first | apply Kd.R_alloc | apply Kd.R_drewN | apply Kd.R_drew)); exact HO_5.out)); (case aS => exact (below_size (by repeat (first | (with_reducible first | exact HB.out | apply below_alloc | apply pw_below_drewN | apply below_drew1) | exact HB.out)))); (case aL => have := LMc4.out; omega); intro v309 w11 ho hb hg hat; rw [← Ny308.out] at ho; have n0_ := Aside0.mk (Kd.S_after (ok := (fun _ => True)) (by (with_reducible repeat (first | apply Kd.S_alloc | apply Kd.S_drewN | apply Kd.S_drew)); exact Kd.S_mono HO_4.out (fun _ hk => ⟨trivial, hk⟩)) hg hat); have n1_ := Aside0.mk (hb); have n2_ := Aside0.mk (ho); clear HO_4; clear HB; clear HO_5; have HO_4 := n0_; have HB := n1_; have HO310 := n2_; clear n0_ n1_ n2_; clear ho hb hg hat; have p311 : 0 ≤ (x6_1 : Int) := of_decide_eq_true (by first | (with_reducible assumption) | assumption); have q311 : x6_1 < (l0.length : Int) := of_decide_eq_true (by first | (with_reducible assumption) | assumption); obtain ⟨ad311, e311, hx311_0, hx311_1, hx311_2⟩ := at_T39 HR0.out x6_1 p311 q311; (try rw [← Nbq5.out] at hx311_2); obtain rfl : ad307 = ad311 := (by injection e311); replace hx311_0 := (HB.out.cell (World.block_lt_of_cell? w _ hx311_0)).trans hx311_0; replace hx311_1 := (HB.out.cell (World.block_lt_of_cell? w _ hx311_1)).trans hx311_1; replace hx311_2 := (HB.out.cell (World.block_lt_of_cell? w _ hx311_2)).trans hx311_2; replace p311 := eq_true p311; replace q311 := eq_true q311))
              go_roundg k1
              case measure => have := HK1.out; omega
              case rel => exact ⟨(x4_1), (y308), (wrap64 (x6_1 + 1)), (by first | rfl | (simp; done) | (simp [*]; done)), H', ⟨by have := HK1.out; omega⟩, ⟨by (with_reducible repeat (first | apply Kd.S_alloc | apply Kd.S_drewN | apply Kd.S_drew)); exact Kd.S_mono HO_4.out (fun _ hk => hk.2)⟩, ⟨by (with_reducible repeat (first | apply Kd.R_alloc | apply Kd.R_drewN | apply Kd.R_drew)); exact HO310.out⟩, ⟨by repeat (first | (with_reducible first | exact HB.out | apply below_alloc | apply pw_below_drewN | apply below_drew1) | exact HB.out)⟩⟩
          · rw [if_neg c4] at H
            exact absurd H (by simp)
        · rw [if_neg c3] at H
          exact absurd H (by simp)
      · rw [if_neg c2] at H
        have c2b0 : decide (x6_1 < (l0.length : Int)) = false := decide_eq_false c2
        clear c2
        by_cases c12 : (x5_1.length : Int) > 0
        · rw [if_pos c12] at H
          have c12b0 : decide (0 < (x5_1.length : Int)) = true := decide_eq_true c12
          have c12b1 : decide (0 < x5_1.length) = true := decide_eq_true (by omega)
          clear c12
          simp only [Option.some.injEq, Prod.mk.injEq] at H
          obtain ⟨rfl, rfl⟩ := H
          obtain ⟨Ao13, co13, eo13⟩ := Kd.R_slice HO_5.out
          subst eo13
          go_wp2
          go_ret2
          exact ⟨_, by first | rfl | (simp [errW_none, errW_some] <;> rfl) | (simp [*, errW_none, errW_some] <;> rfl), by first | exact Kd.S_nil _ _ _ _ _ | exact Kd.N_nil _ _ _ _ _ | exact Kd.V_nil _ _ _ _ _ | exact Kd.Q_nil _ _ _ _ _ | exact Kd.R_nil _ _ _ _ _, by repeat (first | (with_reducible first | exact HB.out | apply below_alloc | apply pw_below_drewN | apply below_drew1) | exact HB.out)⟩
        · rw [if_neg c12] at H
          have c12b0 : decide (0 < (x5_1.length : Int)) = false := decide_eq_false c12
          have c12b1 : decide (0 < x5_1.length) = false := decide_eq_false (by omega)
          clear c12
          simp only [Option.some.injEq, Prod.mk.injEq] at H
          obtain ⟨rfl, rfl⟩ := H
          obtain ⟨Ao14, co14, eo14⟩ := Kd.R_slice HO_5.out
          subst eo14
          go_wp2
          go_ret2
          exact ⟨_, by first | rfl | (simp [errW_none, errW_some] <;> rfl) | (simp [*, errW_none, errW_some] <;> rfl), by (with_reducible repeat (first | apply Kd.S_alloc | apply Kd.S_drewN | apply Kd.S_drew)); exact Kd.S_mono HO_4.out (fun _ hk => trivial), by repeat (first | (with_reducible first | exact HB.out | apply below_alloc | apply pw_below_drewN | apply below_drew1) | exact HB.out)⟩

end Go.Proofs.Ytjpkjakdhbnehaa.Q
end
section
-- Written by this session's own program (ext_print.py) over the kit's print.py, hand proofs among it. Not trusted: Lean checks it.
namespace Go.Proofs.Ytjpkjakdhbnehaa.Q
open Go.RowKit Go.Proofs.YtjpkjakdhbnehaaW.PrintWords Go.Proofs.YtjpkjakdhbnehaaW.PrintLast Go.Proofs.YtjpkjakdhbnehaaW.PrintMore
attribute [local go_sem] max2_int min2_int max_two min_two max_three min_three max_four min_four   -- for this text's walks alone
set_option linter.unusedVariables false
set_option linter.unusedSimpArgs false

theorem eqA37 (d : Nat) (w : World) (x0 y0 : Int) (x1 y1 : ByteArray) :
    (Op.equalIn (d + 2) 37 (.agg #[.int .u64 x0, .string x1]) (.agg #[.int .u64 y0, .string y1])).run Try.prog w = .ok (x0 == y0 && (x1.toList == y1.toList)) w := by
  refine eqA_of Try.underlying37 (by kernel_rfl) ?_
  refine eqf_cons (by rfl) (by go_simp; rfl) (by go_simp; rfl) (by go_simp) ?_
  exact eqf_last (by rfl) (by go_simp; rfl) (by go_simp; rfl) (by go_simp)
end Go.Proofs.Ytjpkjakdhbnehaa.Q
end
section
-- Written by this session's own program (ext_print.py) over the kit's print.py, hand proofs among it. Not trusted: Lean checks it.
namespace Go.Proofs.Ytjpkjakdhbnehaa.Q
open Go.RowKit Go.Proofs.YtjpkjakdhbnehaaW.PrintWords Go.Proofs.YtjpkjakdhbnehaaW.PrintLast Go.Proofs.YtjpkjakdhbnehaaW.PrintMore
attribute [local go_sem] max2_int min2_int max_two min_two max_three min_three max_four min_four   -- for this text's walks alone
set_option linter.unusedVariables false
set_option linter.unusedSimpArgs false

attribute [local go_sem high] eqA37
/-! ### reliquaryref12_Same: function 20 -/
def reliquaryref12_Same.l0 : Nat → List (S37) → List (S37) → Int → Option (Bool)
  | 0, _, _, _ => none
  | k + 1, x0, x1, x5 => if x5 < (x0.length : Int) then (if 0 ≤ x5 then (if x5 < (x1.length : Int) then (if (!(((rd_T37 x0 x5).f0) == ((rd_T37 x1 x5).f0)) || (!((((rd_T37 x0 x5).f1).toList) == (((rd_T37 x1 x5).f1).toList)))) = true then (some false) else (reliquaryref12_Same.l0 k x0 x1 (wrap64 (x5 + 1)))) else (none)) else (none)) else (some true)
def reliquaryref12_Same.f (k : Nat) (l0 : List (S37)) (l1 : List (S37)) : Option (Bool) := if (l0.length : Int) = (l1.length : Int) then (reliquaryref12_Same.l0 k l0 l1 0) else (some false)
theorem reliquaryref12_Same.mono_l : ∀ k, (∀ y0 y1 y2, LeO (reliquaryref12_Same.l0 k y0 y1 y2) (reliquaryref12_Same.l0 (k + 1) y0 y1 y2))
  | 0 => fun _ _ _ r h => by simp [reliquaryref12_Same.l0] at h
  | k + 1 => by
    have ih0 := reliquaryref12_Same.mono_l k
    · intro y0 y1 y2
      unfold reliquaryref12_Same.l0
      repeat' first
      | (with_reducible exact ih0 _ _ _)
      | (with_reducible exact LeO.refl _)
      | (with_reducible exact LeO.none _)
      | (with_reducible refine LeO.ite ?_ ?_)
      | (with_reducible refine LeO.bind ?_ (fun _ => ?_))
      | exact ih0 _ _ _
      | exact LeO.none _
      | refine LeO.ite ?_ ?_
      | refine LeO.bind ?_ (fun _ => ?_)
theorem reliquaryref12_Same.mono : ∀ a0 a1 k, LeO (reliquaryref12_Same.f k a0 a1) (reliquaryref12_Same.f (k + 1) a0 a1) := by
  intro a0 a1 k
  have ih0 := reliquaryref12_Same.mono_l k
  unfold reliquaryref12_Same.f
  repeat' first
      | (with_reducible exact ih0 _ _ _)
      | (with_reducible exact LeO.refl _)
      | (with_reducible exact LeO.none _)
      | (with_reducible refine LeO.ite ?_ ?_)
      | (with_reducible refine LeO.bind ?_ (fun _ => ?_))
      | exact ih0 _ _ _
      | exact LeO.none _
      | refine LeO.ite ?_ ?_
      | refine LeO.bind ?_ (fun _ => ?_)
set_option maxHeartbeats 8000000 in
set_option maxRecDepth 100000 in
theorem reliquaryref12_Same.calls (k : Nat) (A0 : Option Addr) (c0 : Nat) (l0 : List (S37)) (A1 : Option Addr) (c1 : Nat) (l1 : List (S37)) (r : Bool) (w : World) (hr0 : Kd.C k37 w A0 l0.length l0) (hc0 : l0.length ≤ c0) (hr1 : Kd.C k37 w A1 l1.length l1) (hc1 : l1.length ≤ c1) (h : reliquaryref12_Same.f k l0 l1 = some r) :
    Calls Try.prog 20 #[.slice A0 l0.length c0, .slice A1 l1.length c1] w fun e w' => e = .returned (.bool r) ∧ Drawn0 w w' := by
  have hu37 := Try.underlying37
  have HR0 := Aside0.mk hr0
  have HC0 := Aside0.mk hc0
  clear hr0 hc0
  have HR1 := Aside0.mk hr1
  have HC1 := Aside0.mk hc1
  clear hr1 hc1
  have H : (if (l0.length : Int) = (l1.length : Int) then (reliquaryref12_Same.l0 k l0 l1 0) else (some false)) = some r := h
  clear h
  by_cases c3 : (l0.length : Int) = (l1.length : Int)
  · rw [if_pos c3] at H
    have c3b0 : ((l0.length : Int) == (l1.length : Int)) = true := beq_iff_eq.mpr c3
    have c3b1 : ((l0.length : Int) != (l1.length : Int)) = false := bne_eq_false_iff_eq.mpr c3
    have c3b2 : (l0.length == l1.length) = true := by first | simpa using c3 | (simp at c3 ⊢; omega)
    clear c3
    have H' := Aside0.mk H
    clear H
    go_enter Try.func20, Try.ntmps20
    go_wp2
    repeat (go_quiet (fail); try go_wp2)
    go_loopg [5] k (fun kq v5 w' => ∃ (x5_1 : Int), v5 = .int .i64 x5_1 ∧ Aside0 (reliquaryref12_Same.l0 kq l0 l1 x5_1 = some r) ∧ Aside0 (kq ≤ k) ∧ Drawn0 w w')
    case atStart => exact ⟨(0), (by first | rfl | (simp; done) | (simp [*]; done)), H', ⟨Nat.le_refl _⟩, by repeat (first | exact Drawn0.refl _ | apply Drawn0.step)⟩
    case round =>
      clear H'
      try clear c1
      try clear c2
      try clear p2
      try clear c3
      try clear c3b0
      try clear c3b1
      try clear c3b2
      obtain ⟨x5_1, rfl, HA, HK1, ⟨m1, rfl⟩⟩ := hrel
      cases gk with
      | zero => exact absurd HA.out (by simp [reliquaryref12_Same.l0])
      | succ k1 =>
        have H := HA.out
        clear HA
        simp only [reliquaryref12_Same.l0] at H
        by_cases c4 : x5_1 < (l0.length : Int)
        · rw [if_pos c4] at H
          have c4b0 : decide (x5_1 < (l0.length : Int)) = true := decide_eq_true c4
          clear c4
          by_cases c5 : 0 ≤ x5_1
          · rw [if_pos c5] at H
            have c5b0 : decide (0 ≤ x5_1) = true := decide_eq_true c5
            clear c5
            by_cases c6 : x5_1 < (l1.length : Int)
            · rw [if_pos c6] at H
              have c6b0 : decide (x5_1 < (l1.length : Int)) = true := decide_eq_true c6
              clear c6
              by_cases c7 : (!(((rd_T37 l0 x5_1).f0) == ((rd_T37 l1 x5_1).f0)) || (!((((rd_T37 l0 x5_1).f1).toList) == (((rd_T37 l1 x5_1).f1).toList)))) = true
              · rw [if_pos c7] at H
                have c7b0 : (!(((rd_T37 l0 x5_1).f0) == ((rd_T37 l1 x5_1).f0)) || (!((((rd_T37 l0 x5_1).f1).toList) == (((rd_T37 l1 x5_1).f1).toList)))) = true := c7
                clear c7
                obtain rfl := Option.some.inj H
                have p315 : 0 ≤ (x5_1 : Int) := of_decide_eq_true (by first | (with_reducible assumption) | assumption)
                have q315 : x5_1 < (l0.length : Int) := of_decide_eq_true (by first | (with_reducible assumption) | assumption)
                obtain ⟨ad315, e315, hx315_0, hx315_1⟩ := at_T37 HR0.out x5_1 p315 q315
                cases e315
                replace p315 := eq_true p315
                replace q315 := eq_true q315
                have p316 : 0 ≤ (x5_1 : Int) := of_decide_eq_true (by first | (with_reducible assumption) | assumption)
                have q316 : x5_1 < (l1.length : Int) := of_decide_eq_true (by first | (with_reducible assumption) | assumption)
                obtain ⟨ad316, e316, hx316_0, hx316_1⟩ := at_T37 HR1.out x5_1 p316 q316
                cases e316
                replace p316 := eq_true p316
                replace q316 := eq_true q316
                go_wp2
                repeat (go_quiet (fail); try go_wp2)
                go_ret
                exact ⟨by first | rfl | (simp; done) | (simp [*]; done), by repeat (first | exact Drawn0.refl _ | apply Drawn0.step)⟩
              · rw [if_neg c7] at H
                have c7b0 : (!(((rd_T37 l0 x5_1).f0) == ((rd_T37 l1 x5_1).f0)) || (!((((rd_T37 l0 x5_1).f1).toList) == (((rd_T37 l1 x5_1).f1).toList)))) = false := by simpa using c7
                clear c7
                have H' := Aside0.mk H
                clear H
                have p315 : 0 ≤ (x5_1 : Int) := of_decide_eq_true (by first | (with_reducible assumption) | assumption)
                have q315 : x5_1 < (l0.length : Int) := of_decide_eq_true (by first | (with_reducible assumption) | assumption)
                obtain ⟨ad315, e315, hx315_0, hx315_1⟩ := at_T37 HR0.out x5_1 p315 q315
                cases e315
                replace p315 := eq_true p315
                replace q315 := eq_true q315
                have p316 : 0 ≤ (x5_1 : Int) := of_decide_eq_true (by first | (with_reducible assumption) | assumption)
                have q316 : x5_1 < (l1.length : Int) := of_decide_eq_true (by first | (with_reducible assumption) | assumption)
                obtain ⟨ad316, e316, hx316_0, hx316_1⟩ := at_T37 HR1.out x5_1 p316 q316
                cases e316
                replace p316 := eq_true p316
                replace q316 := eq_true q316
                go_wp2
                repeat (go_quiet (fail); try go_wp2)
                go_roundg k1
                case measure => have := HK1.out; omega
                case rel => exact ⟨(wrap64 (x5_1 + 1)), (by first | rfl | (simp; done) | (simp [*]; done)), H', ⟨by have := HK1.out; omega⟩, by repeat (first | exact Drawn0.refl _ | apply Drawn0.step)⟩
            · rw [if_neg c6] at H
              exact absurd H (by simp)
          · rw [if_neg c5] at H
            exact absurd H (by simp)
        · rw [if_neg c4] at H
          have c4b0 : decide (x5_1 < (l0.length : Int)) = false := decide_eq_false c4
          clear c4
          obtain rfl := Option.some.inj H
          go_wp2
          repeat (go_quiet (fail); try go_wp2)
          go_ret
          exact ⟨by first | rfl | (simp; done) | (simp [*]; done), by repeat (first | exact Drawn0.refl _ | apply Drawn0.step)⟩
  · rw [if_neg c3] at H
    have c3b0 : ((l0.length : Int) == (l1.length : Int)) = false := beq_eq_false_iff_ne.mpr c3
    have c3b1 : ((l0.length : Int) != (l1.length : Int)) = true := bne_iff_ne.mpr c3
    have c3b2 : (l0.length == l1.length) = false := by first | simpa using c3 | (simp at c3 ⊢; omega)
    obtain rfl := Option.some.inj H
    go_enter Try.func20, Try.ntmps20
    go_wp2
    repeat (go_quiet (fail); try go_wp2)
    go_ret
    exact ⟨by first | rfl | (simp; done) | (simp [*]; done), by repeat (first | exact Drawn0.refl _ | apply Drawn0.step)⟩

end Go.Proofs.Ytjpkjakdhbnehaa.Q
end
section
-- Written by this session's own program (ext_print.py) over the kit's print.py, hand proofs among it. Not trusted: Lean checks it.
namespace Go.Proofs.Ytjpkjakdhbnehaa.Q
open Go.RowKit Go.Proofs.YtjpkjakdhbnehaaW.PrintWords Go.Proofs.YtjpkjakdhbnehaaW.PrintLast Go.Proofs.YtjpkjakdhbnehaaW.PrintMore
attribute [local go_sem] max2_int min2_int max_two min_two max_three min_three max_four min_four   -- for this text's walks alone
set_option linter.unusedVariables false
set_option linter.unusedSimpArgs false

-- EXT record_Changes: function 18
/-! ### record_Changes: function 18 -/
-- IMPORT HChgW
def record_Changes.f (l0 : List (S30)) : Option (List (List (S25)) × Int) := if chgOk l0 = true then some (chgV l0) else none
theorem record_Changes.calls (A0 : Option Addr) (c0 : Nat) (l0 : List (S30)) (r1 : List (List (S25))) (r2 : Int) (w : World) (hr0 : Kd.C k30 w A0 l0.length l0) (hc0 : l0.length ≤ c0) (h : record_Changes.f l0 = some (r1, r2)) :
    Calls Try.prog 18 #[.slice A0 l0.length c0] w fun e w' => ∃ v0_ : Value, e = .returned (.tuple #[v0_, .int .i64 r2]) ∧ Kd.N (Kd.slice 25 k25) 27 w' w.heap.size (fun k => True ∧ w.heap.size ≤ k ∧ True) v0_ r1 ∧ Below w.heap.size w w' := by
  unfold record_Changes.f at h
  by_cases hok : chgOk l0 = true
  · rw [if_pos hok] at h
    exact chg.calls A0 c0 l0 w hr0 hc0 hok r1 r2 (Option.some.inj h)
  · rw [if_neg hok] at h
    cases h

end Go.Proofs.Ytjpkjakdhbnehaa.Q
end
section
/- Records of changes, and changes of records, in plain words. -/
namespace Go.Proofs.Ytjpkjakdhbnehaa.Pure
open Go.RowKit Go.Proofs.Ytjpkjakdhbnehaa.Q Go.Proofs.YtjpkjakdhbnehaaW.PrintWords Go.Proofs.YtjpkjakdhbnehaaW.PrintLast Go.Proofs.YtjpkjakdhbnehaaW.PrintMore
set_option linter.unusedVariables false
set_option linter.unusedSimpArgs false
def m25 (x : S25) : S37 := ⟨x.f0, strOfNums x.f1⟩
def m30 (x : S30) : S39 := ⟨m25 x.f0, x.f1⟩
theorem rd25 (l : List S25) (i : Nat) (h : i < l.length) : rd_T25 l (i : Int) = l[i] := by simp [rd_T25, List.getD_eq_getElem?_getD, List.getElem?_eq_getElem h]
theorem rd37 (l : List S37) (i : Nat) (h : i < l.length) : rd_T37 l (i : Int) = l[i] := by simp [rd_T37, List.getD_eq_getElem?_getD, List.getElem?_eq_getElem h]
theorem rd39 (l : List S39) (i : Nat) (h : i < l.length) : rd_T39 l (i : Int) = l[i] := by simp [rd_T39, List.getD_eq_getElem?_getD, List.getElem?_eq_getElem h]
theorem rd30 (l : List S30) (i : Nat) (h : i < l.length) : rd_T30 l (i : Int) = l[i] := by simp [rd_T30, List.getD_eq_getElem?_getD, List.getElem?_eq_getElem h]
/-! modelOf -/
theorem modelOf_loop (L : List S25) (hL : L.length ≤ 100000) (d : Nat) : ∀ (k i : Nat) (acc : List S37), L.length - i = d → i ≤ L.length → acc.length = i → d < k →
    reliquarylaw12_modelOf.l0 k L acc i = some (acc ++ (L.drop i).map m25) := by
  induction d with
  | zero =>
    intro k i acc hd hi ha hk
    obtain ⟨k, rfl⟩ : ∃ m, k = m + 1 := ⟨k - 1, by omega⟩
    simp only [reliquarylaw12_modelOf.l0]
    rw [if_neg (by omega), List.drop_eq_nil_of_le (by omega), List.map_nil, List.append_nil]
  | succ d ih =>
    intro k i acc hd hi ha hk
    obtain ⟨k, rfl⟩ : ∃ m, k = m + 1 := ⟨k - 1, by omega⟩
    have hil : i < L.length := by omega
    simp only [reliquarylaw12_modelOf.l0]
    rw [if_pos (by omega), if_pos (by omega), if_pos (by omega), rd25 L i hil, wrap64_id (by omega) (by omega), List.drop_eq_getElem_cons hil, List.map_cons]
    have := ih k (i + 1) (acc ++ [m25 L[i]]) (by omega) (by omega) (by rw [List.length_append, ha]; rfl) (by omega)
    rw [List.append_assoc] at this
    exact this
theorem modelOf_eq (k : Nat) (L : List S25) (hL : L.length ≤ 100000) (hk : L.length < k) : reliquarylaw12_modelOf.f k L = some (L.map m25) := by
  unfold reliquarylaw12_modelOf.f
  have := modelOf_loop L hL L.length k 0 [] (by omega) (by omega) rfl hk
  simpa using this
/-! Of -/
def oddL (L : List S25) : Bool := L.any fun x => decide (x.f1.length ≠ 160)
def recsAt (n : Nat) : Nat → List S25 → List S30
  | _, [] => []
  | i, x :: l => ⟨x, decide (i + 1 = n)⟩ :: recsAt n (i + 1) l
def ofV (L : List S25) : List S30 × Int := if L.length = 0 ∨ oddL L = true then ([], 1) else (recsAt L.length 0 L, 0)
theorem recsAt_length (n : Nat) : ∀ (i : Nat) (l : List S25), (recsAt n i l).length = l.length
  | _, [] => rfl
  | i, x :: l => by rw [recsAt, List.length_cons, recsAt_length n (i + 1) l, List.length_cons]
theorem odd_loop (L : List S25) (hL : L.length ≤ 100000) (d : Nat) : ∀ (k i : Nat), L.length - i = d → i ≤ L.length → d < k →
    (api_Image_36_at_record_Of_lit1.l0 k L (L.length : Int) i).bind (fun t => some (decide (t ≥ 0))) = some (oddL (L.drop i)) := by
  induction d with
  | zero =>
    intro k i hd hi hk
    obtain ⟨k, rfl⟩ : ∃ m, k = m + 1 := ⟨k - 1, by omega⟩
    simp only [api_Image_36_at_record_Of_lit1.l0]
    rw [if_neg (by omega), List.drop_eq_nil_of_le (by omega)]
    rfl
  | succ d ih =>
    intro k i hd hi hk
    obtain ⟨k, rfl⟩ : ∃ m, k = m + 1 := ⟨k - 1, by omega⟩
    have hil : i < L.length := by omega
    simp only [api_Image_36_at_record_Of_lit1.l0, record_Of_lit1.f, Option.bind_some]
    rw [if_pos (by omega), if_pos (by omega), if_pos (by omega), rd25 L i hil, List.drop_eq_getElem_cons hil]
    unfold oddL
    rw [List.any_cons]
    by_cases h : (L[i].f1.length : Int) = 160
    · rw [bne_eq_false_iff_eq.mpr h, if_neg (by simp), wrap64_id (by omega) (by omega), decide_eq_false (show ¬ (L[i].f1.length ≠ 160) from fun z => z (by omega)), Bool.false_or]
      exact ih k (i + 1) (by omega) (by omega) (by omega)
    · rw [bne_iff_ne.mpr h, if_pos rfl, Option.bind_some, decide_eq_true (show L[i].f1.length ≠ 160 by omega), Bool.true_or, decide_eq_true (by omega)]
theorem odd_eq (k : Nat) (L : List S25) (hL : L.length ≤ 100000) (hk : L.length < k) : api_Image_31_at_record_Of_lit1.f k L = some (oddL L) := by
  unfold api_Image_31_at_record_Of_lit1.f api_Image_36_at_record_Of_lit1.f
  have := odd_loop L hL L.length k 0 (by omega) (by omega) hk
  simpa using this
theorem of_loop (L : List S25) (hL : L.length ≤ 100000) (ho : oddL L = false) (d : Nat) : ∀ (k i : Nat) (acc : List S30), L.length - i = d → i ≤ L.length → acc.length = i → d < k →
    record_Of.l0 k L acc L (L.length : Int) i = some (acc ++ recsAt L.length i (L.drop i), 0) := by
  induction d with
  | zero =>
    intro k i acc hd hi ha hk
    obtain ⟨k, rfl⟩ : ∃ m, k = m + 1 := ⟨k - 1, by omega⟩
    simp only [record_Of.l0]
    rw [if_neg (by omega), List.drop_eq_nil_of_le (by omega), recsAt, List.append_nil]
  | succ d ih =>
    intro k i acc hd hi ha hk
    obtain ⟨k, rfl⟩ : ∃ m, k = m + 1 := ⟨k - 1, by omega⟩
    have hil : i < L.length := by omega
    have hx : L[i].f1.length = 160 := by
      have := List.any_eq_false.1 ho L[i] (List.getElem_mem _)
      simpa using this
    simp only [record_Of.l0]
    rw [if_pos (by omega), if_pos (by omega), if_pos (by omega), rd25 L i hil, clone_eq _ (by omega), Option.bind_some, if_pos (by omega), wrap64_id (n := (i : Int) + 1) (by omega) (by omega), wrap64_id (n := (L.length : Int) - 1) (by omega) (by omega), List.drop_eq_getElem_cons hil, recsAt]
    have hb : ((i : Int) == (L.length : Int) - 1) = decide (i + 1 = L.length) := by
      by_cases h : i + 1 = L.length
      · rw [decide_eq_true h]; exact beq_iff_eq.mpr (by omega)
      · rw [decide_eq_false h]; exact beq_eq_false_iff_ne.mpr (by omega)
    rw [hb]
    have := ih k (i + 1) (acc ++ [⟨L[i], decide (i + 1 = L.length)⟩]) (by omega) (by omega) (by rw [List.length_append, ha]; rfl) (by omega)
    rw [List.append_assoc] at this
    exact this
theorem record_Of_eq (k : Nat) (L : List S25) (hL : L.length ≤ 100000) (hk : L.length + 2 ≤ k) : record_Of.f k L = some (ofV L) := by
  obtain ⟨k, rfl⟩ : ∃ m, k = m + 1 := ⟨k - 1, by omega⟩
  unfold record_Of.f ofV
  by_cases h0 : L.length = 0
  · rw [if_pos (by omega), if_pos (.inl h0)]
    simp only [record_Of.j0]
    rfl
  · rw [if_neg (by omega), odd_eq (k + 1) L hL (by omega), Option.bind_some]
    simp only [record_Of.j0]
    by_cases h1 : oddL L = true
    · rw [if_pos h1, if_pos (.inr h1)]
    · rw [if_neg h1, if_neg (fun z => z.elim h0 h1)]
      have := of_loop L hL (Bool.eq_false_iff.mpr h1) L.length k 0 [] (by omega) (by omega) rfl (by omega)
      simpa using this
theorem refOf_loop (L : List S25) (hL : L.length ≤ 100000) (d : Nat) : ∀ (k i : Nat) (acc : List S39), L.length - i = d → i ≤ L.length → acc.length = i → d < k →
    reliquaryref12_Of.l0 k (L.map m25) acc i = some (if oddL (L.drop i) = true then ([], 1) else (acc ++ (recsAt L.length i (L.drop i)).map m30, 0)) := by
  induction d with
  | zero =>
    intro k i acc hd hi ha hk
    obtain ⟨k, rfl⟩ : ∃ m, k = m + 1 := ⟨k - 1, by omega⟩
    simp only [reliquaryref12_Of.l0]
    rw [List.length_map, if_neg (by omega), List.drop_eq_nil_of_le (by omega), recsAt, List.map_nil, List.append_nil, if_neg (by decide)]
  | succ d ih =>
    intro k i acc hd hi ha hk
    obtain ⟨k, rfl⟩ : ∃ m, k = m + 1 := ⟨k - 1, by omega⟩
    have hil : i < L.length := by omega
    have hr : rd_T37 (L.map m25) (i : Int) = m25 L[i] := by rw [rd37 _ i (by rw [List.length_map]; exact hil), List.getElem_map]
    have hs : ((m25 L[i]).f1.size : Int) = (L[i].f1.length : Int) := by rw [show (m25 L[i]).f1 = strOfNums L[i].f1 from rfl, strOfNums_size]
    simp only [reliquaryref12_Of.l0]
    rw [List.length_map, if_pos (by omega), if_pos (by omega), hr, hs, List.drop_eq_getElem_cons hil]
    have hodd : oddL (L[i] :: L.drop (i + 1)) = (decide (L[i].f1.length ≠ 160) || oddL (L.drop (i + 1))) := by unfold oddL; rw [List.any_cons]
    rw [hodd]
    by_cases h : L[i].f1.length = 160
    · rw [if_pos (by omega), if_pos (by omega), wrap64_id (by omega) (by omega), decide_eq_false (by simpa using h), Bool.false_or, recsAt, List.map_cons]
      have hb : ((i : Int) + 1 == (L.length : Int)) = decide (i + 1 = L.length) := by
        by_cases h : i + 1 = L.length
        · rw [decide_eq_true h]; exact beq_iff_eq.mpr (by omega)
        · rw [decide_eq_false h]; exact beq_eq_false_iff_ne.mpr (by omega)
      rw [hb]
      have := ih k (i + 1) (acc ++ [m30 ⟨L[i], decide (i + 1 = L.length)⟩]) (by omega) (by omega) (by rw [List.length_append, ha]; rfl) (by omega)
      rw [List.append_assoc] at this
      exact this
    · rw [if_neg (by omega), decide_eq_true h, Bool.true_or, if_pos rfl]
theorem refOf_eq (k : Nat) (L : List S25) (hL : L.length ≤ 100000) (hk : L.length < k) : reliquaryref12_Of.f k (L.map m25) = some ((ofV L).1.map m30, (ofV L).2) := by
  unfold reliquaryref12_Of.f ofV
  rw [List.length_map]
  by_cases h0 : L.length = 0
  · rw [if_pos (by omega), if_pos (.inl h0)]
    rfl
  · rw [if_neg (by omega)]
    have := refOf_loop L hL L.length k 0 [] (by omega) (by omega) rfl hk
    rw [show ((0 : Nat) : Int) = 0 from rfl, List.drop_zero, List.nil_append] at this
    rw [this]
    by_cases h1 : oddL L = true
    · rw [if_pos h1, if_pos (.inr h1)]
      rfl
    · rw [if_neg h1, if_neg (fun z => z.elim h0 h1)]
/-! Changes -/
theorem chg_nil_iff (l : List S30) (i : Nat) (hi : i < l.length) : (chgAt l (i + 1)).1 = [] ↔ l[i].f1 = true := by
  rw [chgAt_succ l i hi, rd30 l i hi]
  unfold chgStep
  by_cases h : l[i].f1 = true
  · rw [if_pos h]; exact ⟨fun _ => h, fun _ => rfl⟩
  · rw [if_neg h]; exact ⟨fun z => by simp at z, fun z => absurd z h⟩
theorem now_length (l : List S30) : ∀ i, i ≤ l.length → (chgAt l i).1.length ≤ i
  | 0, _ => by simp [chgAt]
  | i + 1, h => by
    have ih := now_length l i (by omega)
    rw [chgAt_succ l i (by omega)]
    unfold chgStep
    by_cases c : (rd_T30 l (i : Int)).f1 = true
    · rw [if_pos c]; simp
    · rw [if_neg c, List.length_append, List.length_singleton]; omega
theorem refChanges_loop (l : List S30) (hl : l.length ≤ 100000) (d : Nat) : ∀ (k i : Nat), l.length - i = d → i ≤ l.length → d < k →
    reliquaryref12_Changes.l0 k (l.map m30) ((chgAt l i).2.map (List.map m25)) ((chgAt l i).1.map m25) i = some (if (chgAt l l.length).1 = [] then ((chgAt l l.length).2.map (List.map m25), 0) else ([], 11)) := by
  induction d with
  | zero =>
    intro k i hd hi hk
    obtain ⟨k, rfl⟩ : ∃ m, k = m + 1 := ⟨k - 1, by omega⟩
    have : i = l.length := by omega
    subst this
    simp only [reliquaryref12_Changes.l0]
    rw [List.length_map, if_neg (by omega), List.length_map]
    by_cases h : (chgAt l l.length).1 = []
    · rw [if_neg (by rw [h]; simp), if_pos h]
    · rw [if_pos (by have := List.length_pos_iff.2 h; omega), if_neg h]
  | succ d ih =>
    intro k i hd hi hk
    obtain ⟨k, rfl⟩ : ∃ m, k = m + 1 := ⟨k - 1, by omega⟩
    have hil : i < l.length := by omega
    have hr : rd_T39 (l.map m30) (i : Int) = m30 l[i] := by rw [rd39 _ i (by rw [List.length_map]; exact hil), List.getElem_map]
    have h1 := now_length l i hi
    have h2 := outs_length l i hi
    simp only [reliquaryref12_Changes.l0]
    rw [List.length_map, if_pos (by omega), if_pos (by omega), if_pos (by rw [List.length_map]; omega), Option.bind_some, hr, wrap64_id (by omega) (by omega)]
    have ih2 := ih k (i + 1) (by omega) (by omega) (by omega)
    rw [← ih2, chgAt_succ l i hil, rd30 l i hil]
    unfold chgStep
    by_cases c : l[i].f1 = true
    · rw [if_pos (show (m30 l[i]).f1 = true from c), if_pos (by rw [List.length_map]; omega), if_pos c, List.map_append, List.map_cons, List.map_nil, List.map_append, List.map_cons, List.map_nil]
      rfl
    · rw [if_neg (show ¬ (m30 l[i]).f1 = true from c), if_neg c, List.map_append, List.map_cons, List.map_nil]
      rfl
theorem refChanges_eq (k : Nat) (l : List S30) (hl : l.length ≤ 100000) (hk : l.length < k) : reliquaryref12_Changes.f k (l.map m30) = some ((chgV l).1.map (List.map m25), (chgV l).2) := by
  unfold reliquaryref12_Changes.f
  have h := refChanges_loop l hl l.length k 0 (by omega) (by omega) hk
  have e0 : chgAt l 0 = ([], []) := rfl
  rw [e0] at h
  have h' : reliquaryref12_Changes.l0 k (l.map m30) [] [] 0 = _ := h
  rw [h']
  unfold chgV
  by_cases h0 : 0 < l.length
  · have e1 : rd_T30 l ((l.length : Int) - 1) = l[l.length - 1] := by rw [← rd30 l (l.length - 1) (by omega)]; congr 1; omega
    have h3 := chg_nil_iff l (l.length - 1) (by omega)
    rw [show l.length - 1 + 1 = l.length by omega] at h3
    rw [e1]
    by_cases c : l[l.length - 1].f1 = true
    · rw [if_pos (h3.2 c), if_neg (by rw [c]; rintro ⟨_, z⟩; cases z)]
    · rw [if_neg (fun z => c (h3.1 z)), if_pos ⟨h0, Bool.eq_false_iff.mpr c⟩]
      rfl
  · have hn : l = [] := List.eq_nil_of_length_eq_zero (by omega)
    subst hn
    rfl
/-! Same -/
theorem same_loop (L : List S37) (hL : L.length ≤ 100000) (d : Nat) : ∀ (k i : Nat), L.length - i = d → i ≤ L.length → d < k → reliquaryref12_Same.l0 k L L i = some true := by
  induction d with
  | zero =>
    intro k i hd hi hk
    obtain ⟨k, rfl⟩ : ∃ m, k = m + 1 := ⟨k - 1, by omega⟩
    simp only [reliquaryref12_Same.l0]
    rw [if_neg (by omega)]
  | succ d ih =>
    intro k i hd hi hk
    obtain ⟨k, rfl⟩ : ∃ m, k = m + 1 := ⟨k - 1, by omega⟩
    simp only [reliquaryref12_Same.l0]
    rw [if_pos (by omega), if_pos (by omega), if_pos (by omega), if_neg (by simp), wrap64_id (by omega) (by omega)]
    exact ih k (i + 1) (by omega) (by omega) (by omega)
theorem same_eq (k : Nat) (L : List S37) (hL : L.length ≤ 100000) (hk : L.length < k) : reliquaryref12_Same.f k L L = some true := by
  unfold reliquaryref12_Same.f
  rw [if_pos rfl]
  exact same_loop L hL L.length k 0 (by omega) (by omega) hk
/-- Every change told is no longer than all of it. -/
theorem chg_member (l : List S30) : ∀ i, i ≤ l.length → ∀ c ∈ (chgAt l i).2, c.length ≤ i
  | 0, _, c, hc => by simp [chgAt] at hc
  | i + 1, h, c, hc => by
    have ih := chg_member l i (by omega)
    have hn := now_length l i (by omega)
    rw [chgAt_succ l i (by omega)] at hc
    unfold chgStep at hc
    by_cases e : (rd_T30 l (i : Int)).f1 = true
    · rw [if_pos e] at hc
      rcases List.mem_append.1 hc with hc | hc
      · have := ih c hc; omega
      · rw [List.mem_singleton.1 hc, List.length_append, List.length_singleton]; omega
    · rw [if_neg e] at hc
      have := ih c hc; omega
theorem chgV_member (l : List S30) : ∀ c ∈ (chgV l).1, c.length ≤ l.length := by
  intro c hc
  unfold chgV at hc
  split at hc
  · cases hc
  · exact chg_member l l.length (Nat.le_refl _) c hc
theorem chgV_length (l : List S30) : (chgV l).1.length ≤ l.length := by
  unfold chgV
  split
  · exact Nat.zero_le _
  · exact outs_length l l.length (Nat.le_refl _)
theorem chgOk_of (l : List S30) (h : l.length ≤ 100000) (hb : ∀ x ∈ l, x.f0.f1.length ≤ 100000) : chgOk l = true := by
  unfold chgOk
  rw [Bool.and_eq_true, decide_eq_true_eq, List.all_eq_true]
  exact ⟨h, fun x hx => by simpa using hb x hx⟩
theorem recChanges_eq (l : List S30) (h : l.length ≤ 100000) (hb : ∀ x ∈ l, x.f0.f1.length ≤ 100000) : record_Changes.f l = some (chgV l) := by
  unfold record_Changes.f
  rw [if_pos (chgOk_of l h hb)]
/-- Images that are told whole. -/
theorem imgs_mem (short : Bool) : ∀ (j : Nat) (l : List S25), ∀ x ∈ imgs short j l, x.f1.length ≤ 160
  | _, [], x, hx => by simp [imgs] at hx
  | j, y :: l, x, hx => by
    rw [imgs] at hx
    rcases List.mem_cons.1 hx with rfl | hx
    · unfold imgV padV
      simp only [List.length_append, List.length_take, List.length_replicate]
      split <;> omega
    · exact imgs_mem short (j + 1) l x hx
end Go.Proofs.Ytjpkjakdhbnehaa.Pure
end
