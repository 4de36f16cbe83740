-- Written by this session's own program (ext_print.py) over the kit's print.py, hand proofs among it. Not trusted: Lean checks it.
import Derived.Test.YtjpkjakdhbnehaaQx0
namespace Go.Proofs.Ytjpkjakdhbnehaa.Q
open Go.RowKit Go.Proofs.YtjpkjakdhbnehaaW.PrintWords Go.Proofs.YtjpkjakdhbnehaaW.PrintLast Go.Proofs.YtjpkjakdhbnehaaW.PrintMore
attribute [local go_sem] max2_int min2_int max_two min_two max_three min_three max_four min_four   -- for this text's walks alone
set_option linter.unusedVariables false
set_option linter.unusedSimpArgs false

-- EXT words
/-- copy(v[off:], ys...) into a row of one's own. -/
theorem ext_copy_run {P : Program} {o : Oper} {a : Act} {w0 W : World} (base : Nat) (d s : Operand) (dT sT e : TypeId)
    (ho : o.op = .call { callee := .builtin .copy, args := #[d, s], argTypes := #[dT, sT] })
    (hu : P.underlying dT = some (.slice e)) (hsz : (P.info? e).map (·.size) = some 1)
    (k : IntKind) (ok : Nat → Prop) (g cap : Nat) (xs ys : List Int) (off dLen dCap : Nat) (dp A : Option Addr) (m c : Nat)
    (hd : a.eval d = .slice dp dLen dCap) (hs : a.eval s = .slice A m c)
    (HO : (Kd.int k).R e W base ok (.slice (some ⟨g, 0, none⟩) xs.length cap) xs) (HR : (Kd.int k).C W A m ys)
    (hoff : off + dLen = xs.length) (hdp : 0 < dLen → dp = some ⟨g, off, none⟩) (HB : Below base w0 W) :
    ∃ w', (execOp a.eval o).run P W = .ok (.value (goInt (min m dLen : Nat))) w' ∧ (Kd.int k).R e w' base ok (.slice (some ⟨g, 0, none⟩) xs.length cap) (xs.take off ++ (ys.take dLen ++ xs.drop (off + min m dLen))) ∧ Below base w0 w' ∧ W.grownBy w' (some g) := by
  have hrd := Kd.reads_of_C (enc := Value.int k) (d := (0 : Int)) (h1 := fun _ => rfl) HR
  have hm : ys.length = m := hrd.1
  obtain ⟨hlen, hown⟩ := Kd.own_of_R (enc := Value.int k) (h1 := fun _ => rfl) HO
  rcases hown with ⟨h1, _⟩ | ⟨g', cap', cur, he, hb, hheap, hnc, hcm, hcs, hpre⟩
  · cases h1
  · injection he with ha hn hc
    injection ha with ha
    injection ha with ha
    subst ha
    subst hc
    by_cases h0 : min m dLen = 0
    · have hrun := run_copy_none (P := P) W dT sT o.type e dp A dLen dCap m c hu hsz h0
      have e1 : ys.take dLen = [] := by
        apply List.eq_nil_of_length_eq_zero
        rw [List.length_take]
        omega
      have e2 : xs.take off ++ (ys.take dLen ++ xs.drop (off + min m dLen)) = xs := by
        rw [e1, h0, List.nil_append, Nat.add_zero, List.take_append_drop]
      refine ⟨W, ?_, by rw [e2]; exact HO, HB, World.grownBy.refl W _⟩
      rw [h0]
      simp [execOp, ho, resolve, invoke, builtin, hd, hs, hrun, Result.andThen]
    · have hdp' := hdp (by omega)
      subst hdp'
      obtain ⟨ad, rfl, hcell⟩ := hrd.2.2 (by omega)
      obtain ⟨CS, hCS⟩ : ∃ CS, CS = (ys.take dLen).map (Value.int k) := ⟨_, rfl⟩
      have hcl : CS.length = Nat.min m dLen := by
        rw [hCS]
        simp only [List.length_map, List.length_take]
        show min dLen ys.length = min m dLen
        omega
      have hml : Nat.min m dLen = min m dLen := rfl
      have hrun := run_copy_row (P := P) W dT sT o.type e g off dLen dCap ad m c cur e CS hu hsz hheap hcl ?_ ?_ ?_
      rotate_left
      · intro j v hj
        rw [hCS] at hj
        have hj' : j < ys.length ∧ j < dLen := by
          have := (List.getElem?_eq_some_iff.1 hj).1
          simp only [List.length_map, List.length_take] at this
          omega
        have hv : v = .int k (ys.getD j 0) := by
          rw [List.getElem?_map, List.getElem?_take_of_lt hj'.2, List.getElem?_eq_getElem hj'.1] at hj
          simp only [Option.map_some, Option.some.injEq] at hj
          rw [← hj, List.getD_eq_getElem?_getD, List.getElem?_eq_getElem hj'.1]
          rfl
        rw [hv]
        exact hcell j (by omega)
      · rw [hcl, hml]
        omega
      · intro v hv
        rw [hCS] at hv
        obtain ⟨q, _, rfl⟩ := List.mem_map.1 hv
        rfl
      · rw [hcl, hml] at hrun
        try rw [List.append_assoc] at hrun
        have hold : cur.toList = encs (Value.int k) xs ++ cur.toList.drop xs.length := by
          have := (List.take_append_drop (xs.length * 1) cur.toList).symm
          rw [hpre] at this
          simpa using this
        have hel : (encs (Value.int k) xs).length = xs.length := encs_length xs
        have ht1 : cur.toList.take off = (encs (Value.int k) xs).take off := by
          rw [hold, List.take_append_of_le_length (by omega)]
        have ht2 : cur.toList.drop (off + min m dLen) = (encs (Value.int k) xs).drop (off + min m dLen) ++ cur.toList.drop xs.length := by
          conv => lhs; rw [hold]
          rw [List.drop_append_of_le_length (by omega)]
        have hnew : cur.toList.take off ++ (CS ++ cur.toList.drop (off + min m dLen)) = encs (Value.int k) (xs.take off ++ (ys.take dLen ++ xs.drop (off + min m dLen))) ++ cur.toList.drop xs.length := by
          rw [ht1, ht2, hCS]
          simp only [encs, List.map_append, List.map_take, List.map_drop, List.append_assoc]
        have hnl : (xs.take off ++ (ys.take dLen ++ xs.drop (off + min m dLen))).length = xs.length := by
          simp only [List.length_append, List.length_take, List.length_drop]
          omega
        refine ⟨_, by simp [execOp, ho, resolve, invoke, builtin, hd, hs, hrun, Result.andThen]; rfl, ?_, below_setRow HB hb _, ?_⟩
        · refine Kd.R_of_own (enc := Value.int k) (h1 := fun _ => rfl) ⟨by rw [encs_length]; omega, .inr ⟨g, cap, _, by rw [hnl], hb, setRow_heap W g _ _ e _ hheap, by omega, hcm, ?_, ?_⟩⟩ HO.1
          · rw [hnew]
            simp only [List.size_toArray, List.length_append, encs_length, hnl, List.length_drop, Array.length_toList]
            omega
          · rw [hnew]
            rw [List.take_append_of_le_length (by rw [encs_length]; omega), List.take_of_length_le (by rw [encs_length]; omega)]
        · exact ⟨rfl, rfl, rfl, by simp [World.setRow], fun q hq hne => setRow_other W g q _ (fun e => hne (by rw [e]))⟩

theorem ext_copy {P : Program} {ops : Array Oper} {rest : List Oper} {o : Oper} {a : Act} {Q : Exit → Act → World → Prop} {w0 W : World} (base : Nat) (hgd : o.guard = none) (d s : Operand) (dT sT e : TypeId)
    (ho : o.op = .call { callee := .builtin .copy, args := #[d, s], argTypes := #[dT, sT] })
    (hu : P.underlying dT = some (.slice e)) (hsz : (P.info? e).map (·.size) = some 1)
    (k : IntKind) (ok : Nat → Prop) (g cap : Nat) (xs ys : List Int) (off dLen dCap : Nat) (dp A : Option Addr) (m c : Nat)
    (hd : a.eval d = .slice dp dLen dCap) (hs : a.eval s = .slice A m c)
    (HO : (Kd.int k).R e W base ok (.slice (some ⟨g, 0, none⟩) xs.length cap) xs) (HR : (Kd.int k).C W A m ys)
    (hoff : off + dLen = xs.length) (hdp : 0 < dLen → dp = some ⟨g, off, none⟩) (HB : Below base w0 W)
    (h : ∀ w', (Kd.int k).R e w' base ok (.slice (some ⟨g, 0, none⟩) xs.length cap) (xs.take off ++ (ys.take dLen ++ xs.drop (off + min m dLen))) → Below base w0 w' → W.grownBy w' (some g) → wpList P ops Q rest (a.put o.dst (goInt (min m dLen : Nat))) w') :
    wpList P ops Q (o :: rest) a W := by
  obtain ⟨w', hr, h1, h2, h3⟩ := ext_copy_run base d s dT sT e ho hu hsz k ok g cap xs ys off dLen dCap dp A m c hd hs HO HR hoff hdp HB
  exact Kd.event_run hgd hr (h w' h1 h2 h3)
theorem ext_copy_step {P : Program} {ops : Array Oper} {o : Oper} {a : Act} {K : Act → World → Prop} {Q : Exit → Act → World → Prop} {E : Prop} {w0 W : World} (base : Nat) (hgd : o.guard = none) (d s : Operand) (dT sT e : TypeId)
    (ho : o.op = .call { callee := .builtin .copy, args := #[d, s], argTypes := #[dT, sT] })
    (hu : P.underlying dT = some (.slice e)) (hsz : (P.info? e).map (·.size) = some 1)
    (k : IntKind) (ok : Nat → Prop) (g cap : Nat) (xs ys : List Int) (off dLen dCap : Nat) (dp A : Option Addr) (m c : Nat)
    (hd : a.eval d = .slice dp dLen dCap) (hs : a.eval s = .slice A m c)
    (HO : (Kd.int k).R e W base ok (.slice (some ⟨g, 0, none⟩) xs.length cap) xs) (HR : (Kd.int k).C W A m ys)
    (hoff : off + dLen = xs.length) (hdp : 0 < dLen → dp = some ⟨g, off, none⟩) (HB : Below base w0 W)
    (h : ∀ w', (Kd.int k).R e w' base ok (.slice (some ⟨g, 0, none⟩) xs.length cap) (xs.take off ++ (ys.take dLen ++ xs.drop (off + min m dLen))) → Below base w0 w' → W.grownBy w' (some g) → K (a.put o.dst (goInt (min m dLen : Nat))) w') :
    if Region.wanted o (yielded ops a.tmps) = true then Oper.wp P o a W K Q else E := by
  obtain ⟨w', hr, h1, h2, h3⟩ := ext_copy_run base d s dT sT e ho hu hsz k ok g cap xs ys off dLen dCap dp A m c hd hs HO HR hoff hdp HB
  have hw : Region.wanted o (yielded ops a.tmps) = true := by simp [Region.wanted, hgd]
  rw [if_pos hw]
  unfold Oper.wp
  rw [hr]
  exact h w' h1 h2 h3
/-- v[a:] of a row of one's own, behind its head. -/
theorem ext_cut {P : Program} (t e : TypeId) (kl : IntKind) (ht : P.underlying t = some (.slice e)) (hsz : (P.info? e).map (·.size) = some 1) (g n c : Nat) (a : Int) (h0 : 0 ≤ a) (h1 : a < n) (hc : n ≤ c) :
    ∀ W : World, (Instr.slice t (.slice (some ⟨g, 0, none⟩) n c) (some (.int kl a)) none none).run P W = .ok (.slice (some ⟨g, a.toNat, none⟩) (n - a.toNat) (c - a.toNat)) W := by
  intro W
  obtain ⟨i, hi, hs⟩ := Option.map_eq_some_iff.1 hsz
  have hel : P.elem t = e := by simp [Program.elem, ht]
  have hu : P.underlying t = some (.slice (P.elem t)) := by rw [hel]; exact ht
  rw [run_slice_l W t (some ⟨g, 0, none⟩) n c hu kl a h0 (by omega), hel]
  simp [sizeOf, typeInfo, hi, hs, sliced, Result.andThen, show ¬ (c = a.toNat) by omega, add_plain]
theorem ext_R_le {α : Type} {d : Kd α} {e n c : Nat} {w : World} {base : Nat} {ok : Nat → Prop} {A : Option Addr} {xs : List α} (h : d.R e w base ok (.slice A n c) xs) : n ≤ c := by
  obtain ⟨A', c', he, hl, _⟩ := Kd.R_reads h
  injection he with _ h1 h2
  omega

/-! the number that bytes tell, the lowest first -/
def leval : List Int → Int
  | [] => 0
  | x :: t => x + 256 * leval t
def u8s (l : List Int) : Prop := ∀ x ∈ l, 0 ≤ x ∧ x < 256
instance (l : List Int) : Decidable (u8s l) := by unfold u8s; infer_instance
theorem leval_range : ∀ (l : List Int), u8s l → 0 ≤ leval l ∧ leval l < 256 ^ l.length
  | [], _ => by simp [leval]
  | x :: t, h => by
    have h1 := h x (by simp)
    have h2 := leval_range t (fun y hy => h y (by simp [hy]))
    rw [leval, List.length_cons, Int.pow_succ]
    omega
theorem leval_snoc : ∀ (l : List Int) (x : Int), leval (l ++ [x]) = leval l + x * 256 ^ l.length
  | [], x => by simp [leval]
  | y :: t, x => by
    rw [List.cons_append, leval, leval, leval_snoc t x, List.length_cons, Int.pow_succ, Int.mul_add, ← Int.add_assoc, Int.mul_comm 256 (x * 256 ^ t.length), Int.mul_assoc]
theorem leval_take (l : List Int) (i : Nat) (h : i < l.length) : leval (l.take (i + 1)) = leval (l.take i) + rd l i * 256 ^ i := by
  rw [List.take_succ_eq_append_getElem h, leval_snoc, List.length_take, Nat.min_eq_left (by omega)]
  simp [rd, List.getD_eq_getElem?_getD, List.getElem?_eq_getElem h]
theorem wraps_u64 (n : Int) (h0 : 0 ≤ n) (h1 : n < 2 ^ 64) : IntKind.u64.wrap n = n := by
  simp [IntKind.wrap, IntKind.bits, IntKind.signed]
  omega
theorem pow_mono (b : Nat) (hb : 0 < b) {i j : Nat} (h : i ≤ j) : ((b : Int)) ^ i ≤ (b : Int) ^ j := by exact_mod_cast Nat.pow_le_pow_right hb h
theorem or_u64 (x y : Int) (i : Nat) (hi : i ≤ 64) (hx0 : 0 ≤ x) (hx : x < 2 ^ i) (hy0 : 0 ≤ y) (hy : y % 2 ^ i = 0) (hy1 : y < 2 ^ 64) : Go.bits .or .u64 x y = x + y := by
  have hx1 : x < 2 ^ 64 := Int.lt_of_lt_of_le hx (pow_mono 2 (by decide) hi)
  have hc : Go.bits .or .u64 x y = Go.bits .or .u64 y x := by
    obtain ⟨a, rfl⟩ := Int.eq_ofNat_of_zero_le hx0
    obtain ⟨b, rfl⟩ := Int.eq_ofNat_of_zero_le hy0
    rw [(bits_nat .u64 64 (by decide) wraps_u64 a b (by exact_mod_cast hx1) (by exact_mod_cast hy1)).2, (bits_nat .u64 64 (by decide) wraps_u64 b a (by exact_mod_cast hy1) (by exact_mod_cast hx1)).2, Nat.or_comm]
  rw [hc, bits_join .u64 64 (by decide) wraps_u64 i y x hy0 hy hy1 hx0 hx hx1, Int.add_comm]
theorem pow256 (i : Nat) : (256 : Int) ^ i = 2 ^ (8 * i) := by rw [Int.pow_mul]; rfl
theorem leval_step (l : List Int) (hu : u8s l) (hl : l.length ≤ 8) (i : Int) (h0 : 0 ≤ i) (h1 : i < l.length) :
    Go.bits .or .u64 (leval (l.take i.toNat)) (shl .u64 (IntKind.u64.wrap (rd l i)) (IntKind.u64.wrap (wrap64 (8 * i)))) = leval (l.take (i + 1).toNat) := by
  obtain ⟨n, rfl⟩ := Int.eq_ofNat_of_zero_le h0
  have hn : n < l.length := by omega
  have hb : 0 ≤ rd l n ∧ rd l n < 256 := by
    have := hu (l[n]) (List.getElem_mem hn)
    simpa [rd, List.getD_eq_getElem?_getD, List.getElem?_eq_getElem hn] using this
  have hw : IntKind.u64.wrap (wrap64 (8 * (n : Int))) = 8 * (n : Int) := by
    have : wrap64 (8 * (n : Int)) = 8 * (n : Int) := by unfold wrap64; omega
    rw [this, wraps_u64 _ (by omega) (by omega)]
  have hr := leval_range (l.take n) (fun x hx => hu x (List.mem_of_mem_take hx))
  rw [List.length_take, Nat.min_eq_left (by omega)] at hr
  have e1 : ((n : Int) + 1).toNat = n + 1 := by omega
  have e2 : (8 * (n : Int)).toNat = 8 * n := by omega
  have hp : (256 : Int) ^ n * 256 ≤ 2 ^ 64 := by
    rw [← Int.pow_succ, show (2 : Int) ^ 64 = 256 ^ 8 from by decide]
    exact pow_mono 256 (by decide) (by omega)
  have hp0 : (0 : Int) < 256 ^ n := Int.pow_pos (by decide)
  have hprod : rd l n * 256 ^ n ≤ 255 * 256 ^ n := Int.mul_le_mul_of_nonneg_right (by omega) (by omega)
  have hprod0 : 0 ≤ rd l n * 256 ^ n := Int.mul_nonneg hb.1 (by omega)
  rw [hw, wraps_u64 (rd l n) hb.1 (by omega), Int.toNat_natCast, e1, leval_take l n hn]
  unfold shl
  rw [e2, show IntKind.u64.bits = 64 from rfl, Nat.min_eq_left (by omega), ← pow256, wraps_u64 _ hprod0 (by omega)]
  exact or_u64 _ _ (8 * n) (by omega) hr.1 (by rw [← pow256]; exact hr.2) hprod0 (by rw [← pow256]; exact Int.mul_emod_left _ _) (by omega)
/-- '[]T{}'. -/
theorem ext_R_empty (k : IntKind) (e : Nat) (w : World) : (Kd.int k).R e (w.alloc (.cells #[] e)) w.heap.size (fun _ => True) (.slice (some ⟨w.heap.size, 0, none⟩) 0 0) [] :=
  Kd.R_of_own (enc := Value.int k) (h1 := fun _ => rfl) ⟨rfl, .inr ⟨w.heap.size, 0, #[], rfl, Nat.le_refl _, by simpa using heap_alloc_new w _, Nat.le_refl _, by simp [maxLen], rfl, rfl⟩⟩ (fun _ _ => trivial)
/-- v[:0] of a row of one's own. -/
theorem ext_take0 {P : Program} (t e : TypeId) (kl : IntKind) (ht : P.underlying t = some (.slice e)) (hsz : (P.info? e).map (·.size) = some 1) (g n c : Nat) :
    ∀ W : World, (Instr.slice t (.slice (some ⟨g, 0, none⟩) n c) none (some (.int kl 0)) none).run P W = .ok (.slice (some ⟨g, 0, none⟩) 0 c) W := by
  intro W
  obtain ⟨i, hi, hs⟩ := Option.map_eq_some_iff.1 hsz
  have hel : P.elem t = e := by simp [Program.elem, ht]
  have hu : P.underlying t = some (.slice (P.elem t)) := by rw [hel]; exact ht
  rw [run_slice_h W t (some ⟨g, 0, none⟩) n c hu kl 0 (by omega) (by omega), hel]
  simp [sizeOf, typeInfo, hi, hs, sliced, Result.andThen, Addr.add]
/-- An element of a row of rows that is read. -/
theorem ext_row_at {e : Nat} {α : Type} {d : Kd α} {w : World} {A : Option Addr} {n : Nat} {xs : List (List α)} (h : (Kd.slice e d).C w A n xs) (i : Int) (h0 : 0 ≤ i) (h1 : i < n) :
    ∃ ad A9 c9, A = some ad ∧ w.cell? (ad.add i.toNat) = some (.slice A9 (xs.getD i.toNat []).length c9) ∧ (xs.getD i.toNat []).length ≤ c9 ∧ d.C w A9 (xs.getD i.toNat []).length (xs.getD i.toNat []) := by
  obtain ⟨ad, c, e1, _, ⟨A9, c9, rfl, hl, hr⟩, hc⟩ := Kd.C_get h [] i h0 h1
  have h2 := hc 0 _ rfl
  have h3 : i.toNat * (Kd.slice e d).sz + 0 = i.toNat := by
    show i.toNat * 1 + 0 = i.toNat
    omega
  rw [h3] at h2
  exact ⟨ad, A9, c9, e1, h2, hl, hr⟩
theorem flat_snoc {α : Type} (l : List (List α)) (i : Nat) (h : i < l.length) : (l.take (i + 1)).flatten = (l.take i).flatten ++ l.getD i [] := by
  rw [List.take_succ_eq_append_getElem h, List.flatten_append]
  simp [List.getElem?_eq_getElem h]
theorem flat_le {α : Type} (l : List (List α)) (i : Nat) : (l.take i).flatten.length ≤ l.flatten.length := by
  conv => rhs; rw [← List.take_append_drop i l, List.flatten_append, List.length_append]
  omega
/-! a row of bytes that is only seen: whatever is marked, whatever room is behind it -/
def SeenRow (W : World) (base : Nat) (e : TypeId) (xs : List Int) (v : Value) : Prop :=
  ∃ (g c : Nat) (cells : Array Value) (fr : Nat × Nat), v = .slice (some ⟨g, 0, none⟩) xs.length c ∧ xs.length ≤ c ∧ xs.length ≤ 9223372036854775807 ∧ base ≤ g ∧ W.heap[g]? = some (.cells cells e fr) ∧ cells.toList.take xs.length = encs (Value.int .u8) xs
theorem SeenRow.lt {W : World} {base : Nat} {e : TypeId} {xs : List Int} {v : Value} (h : SeenRow W base e xs v) : ∀ k, v.ownBlock = some k → k < W.heap.size := by
  obtain ⟨g, c, cells, fr, rfl, _, _, _, hh, _⟩ := h
  intro k hk
  have : g = k := by simpa [Value.ownBlock] using hk
  subst this
  exact (Array.getElem?_eq_some_iff.1 hh).1
theorem SeenRow.below {W W1 : World} {base : Nat} {e : TypeId} {xs : List Int} {v : Value} (h : SeenRow W base e xs v) (hb : Below W.heap.size W W1) : SeenRow W1 base e xs v := by
  obtain ⟨g, c, cells, fr, rfl, h1, h2, h3, hh, h4⟩ := h
  exact ⟨g, c, cells, fr, rfl, h1, h2, h3, (hb.block g (Array.getElem?_eq_some_iff.1 hh).1).trans hh, h4⟩
theorem SeenRow.reads {W : World} {base : Nat} {e : TypeId} {xs : List Int} {v : Value} (h : SeenRow W base e xs v) : ∃ A c, v = .slice A xs.length c ∧ xs.length ≤ c ∧ (Kd.int .u8).C W A xs.length xs := by
  obtain ⟨g, c, cells, fr, rfl, h1, h2, h3, hh, h4⟩ := h
  refine ⟨_, c, rfl, h1, Kd.C_of_reads (enc := Value.int .u8) (d := (0 : Int)) (h1 := fun _ => rfl) ⟨rfl, h2, fun hn => ⟨_, rfl, fun j hj => ?_⟩⟩⟩
  rw [add_plain]
  have h5 : cells.toList[j]? = some (.int .u8 (xs.getD j 0)) := by
    have h6 := encs_get (enc := Value.int .u8) (d := (0 : Int)) xs j hj
    rw [← h4, List.getElem?_take_of_lt hj] at h6
    exact h6
  simp only [World.cell?, hh]
  rw [Array.getElem?_toList] at h5
  simpa using h5
/-- '[]byte{..}', as it is laid. -/
theorem SeenRow.lit (W : World) (base : Nat) (e : TypeId) (xs : List Int) (hb : base ≤ W.heap.size) (hn : xs.length ≤ 9223372036854775807) : SeenRow (W.alloc (.cells (encs (Value.int .u8) xs).toArray e)) base e xs (.slice (some ⟨W.heap.size, 0, none⟩) xs.length xs.length) :=
  ⟨W.heap.size, xs.length, (encs (Value.int .u8) xs).toArray, (0, 0), rfl, Nat.le_refl _, hn, hb, heap_alloc_new W _, by show List.take xs.length (encs (Value.int .u8) xs) = _; exact List.take_of_length_le (by rw [encs_length]; exact Nat.le_refl _)⟩
theorem below_freeze {B : Nat} {w W : World} (h : Below B w W) (a : Addr) (n : Nat) (hB : B ≤ a.block) : Below B w (W.freeze a n) := by
  refine h.trans ⟨?_, ?_, ?_, ?_, fun k hk => ?_⟩
  · unfold World.freeze; split <;> rfl
  · unfold World.freeze; split <;> rfl
  · unfold World.freeze; split <;> rfl
  · unfold World.freeze; split <;> simp
  · unfold World.freeze
    split
    · rfl
    · have hne : a.block ≠ k := by omega
      simp [Array.getElem?_modify, hne]
/-- '[]byte("..")' of a constant: the literal's row gets the run-time's mark. -/
theorem SeenRow.mark {P : Program} {w0 W : World} {base : Nat} {t e : TypeId} {xs : List Int} {v : Value} (h : SeenRow W base e xs v) (ht : P.underlying t = some (.slice e)) (he : P.underlying e = some (.int .u8)) (hb : Below base w0 W) :
    ∃ W1 : World, (convert t t v).run P W = .ok v W1 ∧ SeenRow W1 base e xs v ∧ Below base w0 W1 ∧ W1.heap.size = W.heap.size ∧ ∀ k, some k ≠ v.ownBlock → W1.heap[k]? = W.heap[k]? := by
  obtain ⟨g, c, cells, ⟨lo, hi⟩, rfl, h1, h2, h3, hh, h4⟩ := h
  have hsh : W.shape? g = some (e, cells.size) := by unfold World.shape?; rw [hh]
  refine ⟨W.freeze ⟨g, cells.size, none⟩ 1, ?_, ?_, below_freeze hb _ _ h3, by unfold World.freeze; split <;> simp, fun k hk => ?_⟩
  · simp [convert, run_underlying ht, run_underlying he, markStringish, hsh]
  · refine ⟨g, c, cells, (if lo == hi then (cells.size, cells.size + 1) else (min lo cells.size, max hi (cells.size + 1))), rfl, h1, h2, h3, ?_, h4⟩
    unfold World.freeze
    rw [if_neg (by decide)]
    simp [Array.getElem?_modify, hh]
  · have hne : g ≠ k := by
      rintro rfl
      exact hk (by simp [Value.ownBlock])
    unfold World.freeze
    rw [if_neg (by decide)]
    simp [Array.getElem?_modify, hne]
/-- '[]byte(s)': a row of its own, seen. -/
theorem SeenRow.conv (W : World) (base : Nat) (e : TypeId) (s : ByteArray) (hb : base ≤ W.heap.size) (hs : s.size ≤ 9223372036854775807) : SeenRow (Lib.bytesWorld W e s) base e (bytesOf s) (.slice (some ⟨W.heap.size, 0, none⟩) s.size (grownCap W s.size 0 e)) := by
  refine ⟨W.heap.size, grownCap W s.size 0 e, Lib.bytesCells W e s, _, by rw [bytesOf_length], ?_, by rw [bytesOf_length]; exact hs, hb, Lib.bytesWorld_at_new W e s, ?_⟩
  · rw [bytesOf_length]
    exact grownCap_ge _ _ _ _
  · have h1 : (s.data.map fun b => Value.int .u8 b.toNat).toList = encs (Value.int .u8) (bytesOf s) := by
      rw [Array.toList_map, encs, bytesOf, List.map_map]
      rfl
    have h2 : (encs (Value.int .u8) (bytesOf s)).length = s.size := by rw [encs_length, bytesOf_length]
    rw [bytesOf_length]
    unfold Lib.bytesCells
    rw [Array.toList_append, h1, List.take_append_of_le_length (by rw [h2]; exact Nat.le_refl _), List.take_of_length_le (by rw [h2]; exact Nat.le_refl _)]
/-- What a call has made is none of an elder row. -/
theorem ext_R_new {e : Nat} {W W1 : World} {base : Nat} {u v : Value} {p : List Int} {c : Prop} (ho : (Kd.int .u8).R e W1 W.heap.size (fun _ => True) v p) (hv : c → ∀ k, u.ownBlock = some k → k < W.heap.size) (hb : base ≤ W.heap.size) :
    (Kd.int .u8).R e W1 base (fun k => c → some k ≠ u.ownBlock) v p :=
  Kd.R_lower (Kd.R_mono (Kd.R_bound ho) (fun k hk hc he => by have := hv hc k he.symm; have := hk.2.1; omega)) hb
/-- A row behind a new block. -/
theorem ext_R_fresh {e : Nat} {W W1 : World} {base n m : Nat} {v : Value} {p : List Int} {ok : Nat → Prop} {c : Prop} (h : (Kd.int .u8).R e W base ok v p) (hb : Below W.heap.size W W1) :
    (Kd.int .u8).R e W1 base (fun k => c → some k ≠ (Value.slice (some ⟨W.heap.size, 0, none⟩) n m).ownBlock) v p :=
  Kd.R_below (Kd.R_mono (Kd.R_bound h) (fun k hk _ he => by have h1 : k = W.heap.size := by simpa [Value.ownBlock] using he
                                                            have := hk.2.2.1; omega)) hb
/-- A literal of rows that are read. -/
theorem ext_C_rows {α : Type} {d : Kd α} {e E : Nat} (W : World) (vs : List Value) (xss : List (List α)) (hl : vs.length = xss.length) (hn : xss.length ≤ 9223372036854775807)
    (h : ∀ (j : Nat) (v : Value) (xs : List α), vs[j]? = some v → xss[j]? = some xs → ∃ (A : Option Addr) (c : Nat), v = Value.slice A xs.length c ∧ xs.length ≤ c ∧ d.C W A xs.length xs) :
    (Kd.slice e d).C (W.alloc (.cells vs.toArray E)) (some ⟨W.heap.size, 0, none⟩) xss.length xss := by
  refine ⟨rfl, hn, fun h0 => ⟨_, rfl, fun j p hj => ?_⟩⟩
  have hjl : j < xss.length := (List.getElem?_eq_some_iff.1 hj).1
  have hv : vs[j]? = some vs[j] := List.getElem?_eq_getElem (by omega)
  obtain ⟨A, c, e1, h1, h2⟩ := h j _ p hv hj
  refine ⟨[vs[j]], rfl, ⟨A, c, by rw [e1], h1, Kd.C_alloc h2 _⟩, fun i u hu => ?_⟩
  have hi : i = 0 := by
    rcases Nat.eq_zero_or_pos i with h | h
    · exact h
    · rw [List.getElem?_eq_none (by simp; omega)] at hu; cases hu
  subst hi
  simp only [List.getElem?_cons_zero, Option.some.injEq] at hu
  subst hu
  rw [add_plain, show j * (Kd.slice e d).sz + 0 = j from by show j * 1 + 0 = j; omega]
  have hh : (W.alloc (.cells vs.toArray E)).heap[W.heap.size]? = some (.cells vs.toArray E (0, 0)) := by simpa using heap_alloc_new W _
  simp only [World.cell?, hh]
  simp [hv]
/-- A literal of one number. -/
theorem ext_C_one (k : IntKind) (e : TypeId) (W : World) (x : Int) : (Kd.int k).C (W.alloc (.cells #[.int k x] e)) (some ⟨W.heap.size, 0, none⟩) 1 [x] :=
  Kd.C_of_reads (enc := Value.int k) (d := (0 : Int)) (h1 := fun _ => rfl) ⟨rfl, by decide, fun _ => ⟨_, rfl, fun j hj => by
    obtain rfl : j = 0 := by omega
    have hh : (W.alloc (.cells #[.int k x] e)).heap[W.heap.size]? = some (.cells #[.int k x] e (0, 0)) := heap_alloc_new W _
    rw [add_plain]
    simp only [World.cell?, hh]
    rfl⟩⟩
/-- append onto a slice that is only seen, where there is no room. -/
theorem ext_append_grows {P : Program} {ops : Array Oper} {rest : List Oper} {o : Oper} {a : Act} {Q : Exit → Act → World → Prop} {w0 W : World} (base : Nat) (hgd : o.guard = none) (s x : Operand) (t e : TypeId)
    (ho : o.op = .call { callee := .builtin .append, args := #[s, x], argTypes := #[t, t] })
    (ht : P.underlying t = some (.slice e)) (hinfo : (P.info? e).map (fun i => (i.zero, i.size, i.bytes)) = some (some (.int .u8 0), 1, 1))
    (A A2 : Option Addr) (n c m c2 : Nat) (xs ys : List Int) (hs : a.eval s = .slice A n c) (hx : a.eval x = .slice A2 m c2)
    (HX : (Kd.int .u8).C W A n xs) (HY : (Kd.int .u8).C W A2 m ys) (hn0 : 0 < n) (hm0 : 0 < m) (hfull : c < n + m) (hb : n + m ≤ 140737488355328) (HB : Below base w0 W) (hbase : base ≤ W.heap.size)
    (h : ∀ v1 w1, (Kd.int .u8).R e w1 base (fun _ => True) v1 (xs ++ ys) → Below base w0 w1 → Below W.heap.size W w1 → wpList P ops Q rest (a.put o.dst v1) w1) :
    wpList P ops Q (o :: rest) a W := by
  obtain ⟨i, hi, hzz⟩ := Option.map_eq_some_iff.1 hinfo
  simp only [Prod.mk.injEq] at hzz
  obtain ⟨hz0, hz1, hz2⟩ := hzz
  have hX := Kd.reads_of_C (enc := Value.int .u8) (d := (0 : Int)) (h1 := fun _ => rfl) HX
  have hY := Kd.reads_of_C (enc := Value.int .u8) (d := (0 : Int)) (h1 := fun _ => rfl) HY
  have hxl : xs.length = n := hX.1
  have hyl : ys.length = m := hY.1
  obtain ⟨ad, rfl, hxc⟩ := hX.2.2 hn0
  obtain ⟨ad2, rfl, hyc⟩ := hY.2.2 hm0
  have cells : ∀ (zs : List Int) (b : Addr), (∀ j, j < zs.length → W.cell? (b.add j) = some (.int .u8 (zs.getD j 0))) → ∀ j u, (encs (Value.int .u8) zs)[j]? = some u → W.cell? (b.add j) = some u := by
    intro zs b hc j u hu
    have hj : j < zs.length := by
      have := (List.getElem?_eq_some_iff.1 hu).1
      rwa [encs_length] at this
    rw [encs_get (enc := Value.int .u8) (d := (0 : Int)) zs j hj] at hu
    rw [← hu]
    exact hc j hj
  refine wpList_append_grows W hgd s x t ho e i (.int .u8 0) 1 1 ht hi hz0 hz1 hz2 rfl (by decide) (some ad) n c (encs (Value.int .u8) xs) hs (fun h => by cases h) (by rw [encs_length]; omega)
    (fun b hb2 => by injection hb2 with hb2; subst hb2; exact cells xs ad (by rw [hxl]; exact hxc)) ad2 m c2 (encs (Value.int .u8) ys) hx (by rw [encs_length]; omega) (cells ys ad2 (by rw [hyl]; exact hyc))
    (fun u hu => by obtain ⟨q, _, rfl⟩ := List.mem_map.1 hu; rfl) hfull (by unfold maxLen; omega) (by omega) ?_
  intro v1 w1 hown hg
  have hb1 : Below W.heap.size W w1 := ⟨hg.os, hg.tape, hg.output, hg.size, fun k hk => hg.block k hk (by simp)⟩
  refine h v1 w1 (Kd.R_lower (Kd.R_of_own (enc := Value.int .u8) (h1 := fun _ => rfl) (by rw [List.length_append, hxl, hyl, encs_append]; exact hown) (fun _ _ => trivial)) hbase) (HB.grown hg hbase (fun k hk => by cases hk)) hb1

end Go.Proofs.Ytjpkjakdhbnehaa.Q
