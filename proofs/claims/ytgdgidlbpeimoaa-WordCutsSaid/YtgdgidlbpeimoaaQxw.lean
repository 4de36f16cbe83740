-- Written by this session's own program (ext_print.py) over the kit's print.py, hand proofs among it. Not trusted: Lean checks it.
import Derived.Test.YtgdgidlbpeimoaaQx0
namespace Go.Proofs.Ytgdgidlbpeimoaa.Q
open Go.RowKit Go.Proofs.YtgdgidlbpeimoaaW.PrintWords Go.Proofs.YtgdgidlbpeimoaaW.PrintLast Go.Proofs.YtgdgidlbpeimoaaW.PrintMore
attribute [local go_sem] max2_int min2_int max_two min_two max_three min_three max_four min_four   -- for this text's walks alone
set_option linter.unusedVariables false
set_option linter.unusedSimpArgs false

-- EXT words
/-- copy(v[off:], ys...) into a row of one's own. -/
theorem ext_copy_run {P : Program} {o : Oper} {a : Act} {w0 W : World} (base : Nat) (d s : Operand) (dT sT e : TypeId)
    (ho : o.op = .call { callee := .builtin .copy, args := #[d, s], argTypes := #[dT, sT] })
    (hu : P.underlying dT = some (.slice e)) (hsz : (P.info? e).map (·.size) = some 1)
    (k : IntKind) (ok : Nat → Prop) (g cap : Nat) (xs ys : List Int) (off dLen dCap : Nat) (dp A : Option Addr) (m c : Nat)
    (hd : a.eval d = .slice dp dLen dCap) (hs : a.eval s = .slice A m c)
    (HO : (Kd.int k).R e W base ok (.slice (some ⟨g, 0, none⟩) xs.length cap) xs) (HR : (Kd.int k).C W A m ys)
    (hoff : off + dLen = xs.length) (hdp : 0 < dLen → dp = some ⟨g, off, none⟩) (HB : Below base w0 W) :
    ∃ w', (execOp a.eval o).run P W = .ok (.value (goInt (min m dLen : Nat))) w' ∧ (Kd.int k).R e w' base ok (.slice (some ⟨g, 0, none⟩) xs.length cap) (xs.take off ++ (ys.take dLen ++ xs.drop (off + min m dLen))) ∧ Below base w0 w' ∧ W.grownBy w' (some g) := by
  have hrd := Kd.reads_of_C (enc := Value.int k) (d := (0 : Int)) (h1 := fun _ => rfl) HR
  have hm : ys.length = m := hrd.1
  obtain ⟨hlen, hown⟩ := Kd.own_of_R (enc := Value.int k) (h1 := fun _ => rfl) HO
  rcases hown with ⟨h1, _⟩ | ⟨g', cap', cur, he, hb, hheap, hnc, hcm, hcs, hpre⟩
  · cases h1
  · injection he with ha hn hc
    injection ha with ha
    injection ha with ha
    subst ha
    subst hc
    by_cases h0 : min m dLen = 0
    · have hrun := run_copy_none (P := P) W dT sT o.type e dp A dLen dCap m c hu hsz h0
      have e1 : ys.take dLen = [] := by
        apply List.eq_nil_of_length_eq_zero
        rw [List.length_take]
        omega
      have e2 : xs.take off ++ (ys.take dLen ++ xs.drop (off + min m dLen)) = xs := by
        rw [e1, h0, List.nil_append, Nat.add_zero, List.take_append_drop]
      refine ⟨W, ?_, by rw [e2]; exact HO, HB, World.grownBy.refl W _⟩
      rw [h0]
      simp [execOp, ho, resolve, invoke, builtin, hd, hs, hrun, Result.andThen]
    · have hdp' := hdp (by omega)
      subst hdp'
      obtain ⟨ad, rfl, hcell⟩ := hrd.2.2 (by omega)
      obtain ⟨CS, hCS⟩ : ∃ CS, CS = (ys.take dLen).map (Value.int k) := ⟨_, rfl⟩
      have hcl : CS.length = Nat.min m dLen := by
        rw [hCS]
        simp only [List.length_map, List.length_take]
        show min dLen ys.length = min m dLen
        omega
      have hml : Nat.min m dLen = min m dLen := rfl
      have hrun := run_copy_row (P := P) W dT sT o.type e g off dLen dCap ad m c cur e CS hu hsz hheap hcl ?_ ?_ ?_
      rotate_left
      · intro j v hj
        rw [hCS] at hj
        have hj' : j < ys.length ∧ j < dLen := by
          have := (List.getElem?_eq_some_iff.1 hj).1
          simp only [List.length_map, List.length_take] at this
          omega
        have hv : v = .int k (ys.getD j 0) := by
          rw [List.getElem?_map, List.getElem?_take_of_lt hj'.2, List.getElem?_eq_getElem hj'.1] at hj
          simp only [Option.map_some, Option.some.injEq] at hj
          rw [← hj, List.getD_eq_getElem?_getD, List.getElem?_eq_getElem hj'.1]
          rfl
        rw [hv]
        exact hcell j (by omega)
      · rw [hcl, hml]
        omega
      · intro v hv
        rw [hCS] at hv
        obtain ⟨q, _, rfl⟩ := List.mem_map.1 hv
        rfl
      · rw [hcl, hml] at hrun
        try rw [List.append_assoc] at hrun
        have hold : cur.toList = encs (Value.int k) xs ++ cur.toList.drop xs.length := by
          have := (List.take_append_drop (xs.length * 1) cur.toList).symm
          rw [hpre] at this
          simpa using this
        have hel : (encs (Value.int k) xs).length = xs.length := encs_length xs
        have ht1 : cur.toList.take off = (encs (Value.int k) xs).take off := by
          rw [hold, List.take_append_of_le_length (by omega)]
        have ht2 : cur.toList.drop (off + min m dLen) = (encs (Value.int k) xs).drop (off + min m dLen) ++ cur.toList.drop xs.length := by
          conv => lhs; rw [hold]
          rw [List.drop_append_of_le_length (by omega)]
        have hnew : cur.toList.take off ++ (CS ++ cur.toList.drop (off + min m dLen)) = encs (Value.int k) (xs.take off ++ (ys.take dLen ++ xs.drop (off + min m dLen))) ++ cur.toList.drop xs.length := by
          rw [ht1, ht2, hCS]
          simp only [encs, List.map_append, List.map_take, List.map_drop, List.append_assoc]
        have hnl : (xs.take off ++ (ys.take dLen ++ xs.drop (off + min m dLen))).length = xs.length := by
          simp only [List.length_append, List.length_take, List.length_drop]
          omega
        refine ⟨_, by simp [execOp, ho, resolve, invoke, builtin, hd, hs, hrun, Result.andThen]; rfl, ?_, below_setRow HB hb _, ?_⟩
        · refine Kd.R_of_own (enc := Value.int k) (h1 := fun _ => rfl) ⟨by rw [encs_length]; omega, .inr ⟨g, cap, _, by rw [hnl], hb, setRow_heap W g _ _ e _ hheap, by omega, hcm, ?_, ?_⟩⟩ HO.1
          · rw [hnew]
            simp only [List.size_toArray, List.length_append, encs_length, hnl, List.length_drop, Array.length_toList]
            omega
          · rw [hnew]
            rw [List.take_append_of_le_length (by rw [encs_length]; omega), List.take_of_length_le (by rw [encs_length]; omega)]
        · exact ⟨rfl, rfl, rfl, by simp [World.setRow], fun q hq hne => setRow_other W g q _ (fun e => hne (by rw [e]))⟩

theorem ext_copy {P : Program} {ops : Array Oper} {rest : List Oper} {o : Oper} {a : Act} {Q : Exit → Act → World → Prop} {w0 W : World} (base : Nat) (hgd : o.guard = none) (d s : Operand) (dT sT e : TypeId)
    (ho : o.op = .call { callee := .builtin .copy, args := #[d, s], argTypes := #[dT, sT] })
    (hu : P.underlying dT = some (.slice e)) (hsz : (P.info? e).map (·.size) = some 1)
    (k : IntKind) (ok : Nat → Prop) (g cap : Nat) (xs ys : List Int) (off dLen dCap : Nat) (dp A : Option Addr) (m c : Nat)
    (hd : a.eval d = .slice dp dLen dCap) (hs : a.eval s = .slice A m c)
    (HO : (Kd.int k).R e W base ok (.slice (some ⟨g, 0, none⟩) xs.length cap) xs) (HR : (Kd.int k).C W A m ys)
    (hoff : off + dLen = xs.length) (hdp : 0 < dLen → dp = some ⟨g, off, none⟩) (HB : Below base w0 W)
    (h : ∀ w', (Kd.int k).R e w' base ok (.slice (some ⟨g, 0, none⟩) xs.length cap) (xs.take off ++ (ys.take dLen ++ xs.drop (off + min m dLen))) → Below base w0 w' → W.grownBy w' (some g) → wpList P ops Q rest (a.put o.dst (goInt (min m dLen : Nat))) w') :
    wpList P ops Q (o :: rest) a W := by
  obtain ⟨w', hr, h1, h2, h3⟩ := ext_copy_run base d s dT sT e ho hu hsz k ok g cap xs ys off dLen dCap dp A m c hd hs HO HR hoff hdp HB
  exact Kd.event_run hgd hr (h w' h1 h2 h3)
theorem ext_copy_step {P : Program} {ops : Array Oper} {o : Oper} {a : Act} {K : Act → World → Prop} {Q : Exit → Act → World → Prop} {E : Prop} {w0 W : World} (base : Nat) (hgd : o.guard = none) (d s : Operand) (dT sT e : TypeId)
    (ho : o.op = .call { callee := .builtin .copy, args := #[d, s], argTypes := #[dT, sT] })
    (hu : P.underlying dT = some (.slice e)) (hsz : (P.info? e).map (·.size) = some 1)
    (k : IntKind) (ok : Nat → Prop) (g cap : Nat) (xs ys : List Int) (off dLen dCap : Nat) (dp A : Option Addr) (m c : Nat)
    (hd : a.eval d = .slice dp dLen dCap) (hs : a.eval s = .slice A m c)
    (HO : (Kd.int k).R e W base ok (.slice (some ⟨g, 0, none⟩) xs.length cap) xs) (HR : (Kd.int k).C W A m ys)
    (hoff : off + dLen = xs.length) (hdp : 0 < dLen → dp = some ⟨g, off, none⟩) (HB : Below base w0 W)
    (h : ∀ w', (Kd.int k).R e w' base ok (.slice (some ⟨g, 0, none⟩) xs.length cap) (xs.take off ++ (ys.take dLen ++ xs.drop (off + min m dLen))) → Below base w0 w' → W.grownBy w' (some g) → K (a.put o.dst (goInt (min m dLen : Nat))) w') :
    if Region.wanted o (yielded ops a.tmps) = true then Oper.wp P o a W K Q else E := by
  obtain ⟨w', hr, h1, h2, h3⟩ := ext_copy_run base d s dT sT e ho hu hsz k ok g cap xs ys off dLen dCap dp A m c hd hs HO HR hoff hdp HB
  have hw : Region.wanted o (yielded ops a.tmps) = true := by simp [Region.wanted, hgd]
  rw [if_pos hw]
  unfold Oper.wp
  rw [hr]
  exact h w' h1 h2 h3
/-- v[a:] of a row of one's own, behind its head. -/
theorem ext_cut {P : Program} (t e : TypeId) (kl : IntKind) (ht : P.underlying t = some (.slice e)) (hsz : (P.info? e).map (·.size) = some 1) (g n c : Nat) (a : Int) (h0 : 0 ≤ a) (h1 : a < n) (hc : n ≤ c) :
    ∀ W : World, (Instr.slice t (.slice (some ⟨g, 0, none⟩) n c) (some (.int kl a)) none none).run P W = .ok (.slice (some ⟨g, a.toNat, none⟩) (n - a.toNat) (c - a.toNat)) W := by
  intro W
  obtain ⟨i, hi, hs⟩ := Option.map_eq_some_iff.1 hsz
  have hel : P.elem t = e := by simp [Program.elem, ht]
  have hu : P.underlying t = some (.slice (P.elem t)) := by rw [hel]; exact ht
  rw [run_slice_l W t (some ⟨g, 0, none⟩) n c hu kl a h0 (by omega), hel]
  simp [sizeOf, typeInfo, hi, hs, sliced, Result.andThen, show ¬ (c = a.toNat) by omega, add_plain]
theorem ext_R_le {α : Type} {d : Kd α} {e n c : Nat} {w : World} {base : Nat} {ok : Nat → Prop} {A : Option Addr} {xs : List α} (h : d.R e w base ok (.slice A n c) xs) : n ≤ c := by
  obtain ⟨A', c', he, hl, _⟩ := Kd.R_reads h
  injection he with _ h1 h2
  omega

/-! the number that bytes tell, the lowest first -/
def leval : List Int → Int
  | [] => 0
  | x :: t => x + 256 * leval t
def u8s (l : List Int) : Prop := ∀ x ∈ l, 0 ≤ x ∧ x < 256
instance (l : List Int) : Decidable (u8s l) := by unfold u8s; infer_instance
theorem leval_range : ∀ (l : List Int), u8s l → 0 ≤ leval l ∧ leval l < 256 ^ l.length
  | [], _ => by simp [leval]
  | x :: t, h => by
    have h1 := h x (by simp)
    have h2 := leval_range t (fun y hy => h y (by simp [hy]))
    rw [leval, List.length_cons, Int.pow_succ]
    omega
theorem leval_snoc : ∀ (l : List Int) (x : Int), leval (l ++ [x]) = leval l + x * 256 ^ l.length
  | [], x => by simp [leval]
  | y :: t, x => by
    rw [List.cons_append, leval, leval, leval_snoc t x, List.length_cons, Int.pow_succ, Int.mul_add, ← Int.add_assoc, Int.mul_comm 256 (x * 256 ^ t.length), Int.mul_assoc]
theorem leval_take (l : List Int) (i : Nat) (h : i < l.length) : leval (l.take (i + 1)) = leval (l.take i) + rd l i * 256 ^ i := by
  rw [List.take_succ_eq_append_getElem h, leval_snoc, List.length_take, Nat.min_eq_left (by omega)]
  simp [rd, List.getD_eq_getElem?_getD, List.getElem?_eq_getElem h]
theorem wraps_u64 (n : Int) (h0 : 0 ≤ n) (h1 : n < 2 ^ 64) : IntKind.u64.wrap n = n := by
  simp [IntKind.wrap, IntKind.bits, IntKind.signed]
  omega
theorem pow_mono (b : Nat) (hb : 0 < b) {i j : Nat} (h : i ≤ j) : ((b : Int)) ^ i ≤ (b : Int) ^ j := by exact_mod_cast Nat.pow_le_pow_right hb h
theorem or_u64 (x y : Int) (i : Nat) (hi : i ≤ 64) (hx0 : 0 ≤ x) (hx : x < 2 ^ i) (hy0 : 0 ≤ y) (hy : y % 2 ^ i = 0) (hy1 : y < 2 ^ 64) : Go.bits .or .u64 x y = x + y := by
  have hx1 : x < 2 ^ 64 := Int.lt_of_lt_of_le hx (pow_mono 2 (by decide) hi)
  have hc : Go.bits .or .u64 x y = Go.bits .or .u64 y x := by
    obtain ⟨a, rfl⟩ := Int.eq_ofNat_of_zero_le hx0
    obtain ⟨b, rfl⟩ := Int.eq_ofNat_of_zero_le hy0
    rw [(bits_nat .u64 64 (by decide) wraps_u64 a b (by exact_mod_cast hx1) (by exact_mod_cast hy1)).2, (bits_nat .u64 64 (by decide) wraps_u64 b a (by exact_mod_cast hy1) (by exact_mod_cast hx1)).2, Nat.or_comm]
  rw [hc, bits_join .u64 64 (by decide) wraps_u64 i y x hy0 hy hy1 hx0 hx hx1, Int.add_comm]
theorem pow256 (i : Nat) : (256 : Int) ^ i = 2 ^ (8 * i) := by rw [Int.pow_mul]; rfl
theorem leval_step (l : List Int) (hu : u8s l) (hl : l.length ≤ 8) (i : Int) (h0 : 0 ≤ i) (h1 : i < l.length) :
    Go.bits .or .u64 (leval (l.take i.toNat)) (shl .u64 (IntKind.u64.wrap (rd l i)) (IntKind.u64.wrap (wrap64 (8 * i)))) = leval (l.take (i + 1).toNat) := by
  obtain ⟨n, rfl⟩ := Int.eq_ofNat_of_zero_le h0
  have hn : n < l.length := by omega
  have hb : 0 ≤ rd l n ∧ rd l n < 256 := by
    have := hu (l[n]) (List.getElem_mem hn)
    simpa [rd, List.getD_eq_getElem?_getD, List.getElem?_eq_getElem hn] using this
  have hw : IntKind.u64.wrap (wrap64 (8 * (n : Int))) = 8 * (n : Int) := by
    have : wrap64 (8 * (n : Int)) = 8 * (n : Int) := by unfold wrap64; omega
    rw [this, wraps_u64 _ (by omega) (by omega)]
  have hr := leval_range (l.take n) (fun x hx => hu x (List.mem_of_mem_take hx))
  rw [List.length_take, Nat.min_eq_left (by omega)] at hr
  have e1 : ((n : Int) + 1).toNat = n + 1 := by omega
  have e2 : (8 * (n : Int)).toNat = 8 * n := by omega
  have hp : (256 : Int) ^ n * 256 ≤ 2 ^ 64 := by
    rw [← Int.pow_succ, show (2 : Int) ^ 64 = 256 ^ 8 from by decide]
    exact pow_mono 256 (by decide) (by omega)
  have hp0 : (0 : Int) < 256 ^ n := Int.pow_pos (by decide)
  have hprod : rd l n * 256 ^ n ≤ 255 * 256 ^ n := Int.mul_le_mul_of_nonneg_right (by omega) (by omega)
  have hprod0 : 0 ≤ rd l n * 256 ^ n := Int.mul_nonneg hb.1 (by omega)
  rw [hw, wraps_u64 (rd l n) hb.1 (by omega), Int.toNat_natCast, e1, leval_take l n hn]
  unfold shl
  rw [e2, show IntKind.u64.bits = 64 from rfl, Nat.min_eq_left (by omega), ← pow256, wraps_u64 _ hprod0 (by omega)]
  exact or_u64 _ _ (8 * n) (by omega) hr.1 (by rw [← pow256]; exact hr.2) hprod0 (by rw [← pow256]; exact Int.mul_emod_left _ _) (by omega)
/-- '[]T{}'. -/
theorem ext_R_empty (k : IntKind) (e : Nat) (w : World) : (Kd.int k).R e (w.alloc (.cells #[] e)) w.heap.size (fun _ => True) (.slice (some ⟨w.heap.size, 0, none⟩) 0 0) [] :=
  Kd.R_of_own (enc := Value.int k) (h1 := fun _ => rfl) ⟨rfl, .inr ⟨w.heap.size, 0, #[], rfl, Nat.le_refl _, by simpa using heap_alloc_new w _, Nat.le_refl _, by simp [maxLen], rfl, rfl⟩⟩ (fun _ _ => trivial)

end Go.Proofs.Ytgdgidlbpeimoaa.Q
