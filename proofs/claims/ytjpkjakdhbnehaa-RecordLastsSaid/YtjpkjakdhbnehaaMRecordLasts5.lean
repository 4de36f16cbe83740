/- RecordLasts: for every input the statement's function returns true; there is no further condition. Text 6 of 6: this session's texts, laid together by its own program (merge.py). Not trusted: Lean checks them. -/
import Derived.Test.YtjpkjakdhbnehaaMRecordLasts3
import Derived.Test.YtjpkjakdhbnehaaMRecordLasts4
import Derived.Test.YtjpkjakdhbnehaaMRecordLasts2
import Derived.Test.YtjpkjakdhbnehaaMRecordLasts0
import Derived.Test.YtjpkjakdhbnehaaRows
import Derived.WalkKit
import Derived.ProofKit
import Derived.OpenShut
import Derived.ShutString
import Derived.ChangeOld
import Derived.Below
import Derived.SizedLaws
import Derived.Test.YtjpkjakdhbnehaaWSized
section
/- RecordLasts: a change ends with each last record, and none is left open. -/
namespace Go.Proofs.Ytjpkjakdhbnehaa.Pure
open Go.RowKit Go.Proofs.Ytjpkjakdhbnehaa.Q Go.Proofs.YtjpkjakdhbnehaaW.PrintWords Go.Proofs.YtjpkjakdhbnehaaW.PrintLast Go.Proofs.YtjpkjakdhbnehaaW.PrintMore
set_option linter.unusedVariables false
set_option linter.unusedSimpArgs false
def mkL (c : List S25) : List Bool := (List.range c.length).map fun k => decide (k + 1 = c.length)
theorem mkL_length (c : List S25) : (mkL c).length = c.length := by simp [mkL]
theorem mkL_get (c : List S25) (k : Nat) (h : k < c.length) : (mkL c)[k]'(by rw [mkL_length]; exact h) = decide (k + 1 = c.length) := by simp [mkL]
theorem mkL_snoc (c : List S25) (y : S25) : mkL (c ++ [y]) = List.replicate c.length false ++ [true] := by
  apply List.ext_getElem
  · rw [mkL_length]; simp
  · intro k h1 h2
    have hk : k < c.length + 1 := by rw [mkL_length] at h1; simpa using h1
    rw [mkL_get _ k (by simpa using hk), List.getElem_append]
    by_cases h : k < c.length
    · rw [dif_pos (by simpa using h), List.getElem_replicate, decide_eq_false (by simp; omega)]
    · rw [dif_neg (by simpa using h), List.getElem_singleton, decide_eq_true (by simp; omega)]
def marks (cs : List (List S25)) : List Bool := cs.flatMap mkL
/-- What the changes and the open one say of all records. -/
theorem chg_all (l : List S30) : ∀ i, i ≤ l.length → (l.take i).map (·.f0) = (chgAt l i).2.flatten ++ (chgAt l i).1 ∧ (l.take i).map (·.f1) = marks (chgAt l i).2 ++ List.replicate (chgAt l i).1.length false
  | 0, _ => by simp [chgAt, marks]
  | i + 1, h => by
    have hi : i < l.length := by omega
    obtain ⟨h1, h2⟩ := chg_all l i (by omega)
    rw [List.take_succ_eq_append_getElem hi, List.map_append, List.map_append, h1, h2, chgAt_succ l i hi, rd30 l i hi]
    unfold chgStep
    by_cases c : l[i].f1 = true
    · rw [if_pos c]
      refine ⟨by simp, ?_⟩
      unfold marks
      rw [List.flatMap_append]
      simp [mkL_snoc, c]
    · rw [if_neg c]
      refine ⟨by simp, ?_⟩
      rw [List.length_append, List.length_singleton, List.replicate_succ', ← List.append_assoc]
      simp [Bool.eq_false_iff.mpr c]
theorem drop_cons {α : Type} {l t : List α} {a : Nat} {y : α} (h : l.drop a = y :: t) : ∃ h : a < l.length, l[a] = y ∧ l.drop (a + 1) = t := by
  have hl : a < l.length := by
    rcases Nat.lt_or_ge a l.length with h1 | h1
    · exact h1
    · rw [List.drop_eq_nil_of_le h1] at h; cases h
  rw [List.drop_eq_getElem_cons hl] at h
  injection h with h1 h2
  exact ⟨hl, h1, h2⟩
def zipL (x : List S25) (b : List Bool) : List S30 := List.zipWith (fun y t => ⟨y, t⟩) x b
theorem zipL_length (x : List S25) (b : List Bool) (h : x.length ≤ b.length) : (zipL x b).length = x.length := by
  unfold zipL
  rw [List.length_zipWith]
  omega
theorem zipL_get (x : List S25) (b : List Bool) (h : x.length ≤ b.length) (i : Nat) (hi : i < x.length) : (zipL x b)[i]'(by rw [zipL_length x b h]; exact hi) = ⟨x[i], b[i]⟩ := by
  unfold zipL
  rw [List.getElem_zipWith]
theorem zipL_f0 (x : List S25) (b : List Bool) (h : x.length ≤ b.length) : (zipL x b).map (·.f0) = x := by
  apply List.ext_getElem
  · rw [List.length_map, zipL_length x b h]
  · intro i h1 h2
    rw [List.getElem_map, zipL_get x b h i h2]
theorem zipL_f1 (x : List S25) (b : List Bool) (h : x.length ≤ b.length) : (zipL x b).map (·.f1) = b.take x.length := by
  apply List.ext_getElem
  · rw [List.length_map, zipL_length x b h, List.length_take]; omega
  · intro i h1 h2
    have hi : i < x.length := by rw [List.length_map, zipL_length x b h] at h1; exact h1
    rw [List.getElem_map, zipL_get x b h i hi, List.getElem_take]
theorem rdOf_nat (b : List Bool) (i : Nat) (h : i < b.length) : rdOf false b (i : Int) = b[i] := by simp [rdOf, List.getD_eq_getElem?_getD, List.getElem?_eq_getElem h]
theorem rd12 (c : List (List S25)) (i : Nat) (h : i < c.length) : rd_L12 c (i : Int) = c[i] := by simp [rd_L12, List.getD_eq_getElem?_getD, List.getElem?_eq_getElem h]
/-- The last loop. -/
theorem rl_all (b : List Bool) (x : List S25) (c : List (List S25)) (hx : x.length ≤ 1000) (hb : x.length ≤ b.length) (hc : c.length ≤ 1000) (hcl : ∀ y ∈ c, y.length ≤ 1000) (d : Nat) : ∀ (k i at' : Nat), c.length - i = d → i ≤ c.length → x.drop at' = (c.drop i).flatten → (b.take x.length).drop at' = marks (c.drop i) → at' ≤ x.length → 1003 * d + 1 ≤ k →
    reliquarylaw12_RecordLasts.l1 k b x c at' i = some true := by
  induction d with
  | zero =>
    intro k i at' hd hi h1 h2 ha hk
    obtain ⟨k, rfl⟩ : ∃ m, k = m + 1 := ⟨k - 1, by omega⟩
    simp only [reliquarylaw12_RecordLasts.l1]
    rw [show c.drop i = [] from List.drop_eq_nil_of_le (by omega), List.flatten_nil] at h1
    have h3 := List.drop_eq_nil_iff.1 h1
    rw [if_neg (by omega), show ((at' : Int) == (x.length : Int)) = true from beq_iff_eq.mpr (by omega)]
  | succ d ih =>
    intro k i at' hd hi h1 h2 ha hk
    obtain ⟨k, rfl⟩ : ∃ m, k = m + 1 := ⟨k - 1, by omega⟩
    have hil : i < c.length := by omega
    have hlen := hcl c[i] (List.getElem_mem _)
    simp only [reliquarylaw12_RecordLasts.l1]
    rw [if_pos (by omega)]
    rw [show c.drop i = c[i] :: c.drop (i + 1) from List.drop_eq_getElem_cons hil, List.flatten_cons] at h1
    rw [show c.drop i = c[i] :: c.drop (i + 1) from List.drop_eq_getElem_cons hil] at h2
    unfold marks at h2
    rw [List.flatMap_cons] at h2
    have inner : ∀ (e : Nat) (r j at' : Nat), c[i].length - j = e → j ≤ c[i].length → x.drop at' = c[i].drop j ++ (c.drop (i + 1)).flatten → (b.take x.length).drop at' = (mkL c[i]).drop j ++ marks (c.drop (i + 1)) → at' ≤ x.length → 1003 * d + e + 2 ≤ r →
        reliquarylaw12_RecordLasts.l2 r b x c at' i j = some true := by
      intro e
      induction e with
      | zero =>
        intro r j at' he hj g1 g2 ga hr
        obtain ⟨r, rfl⟩ : ∃ m, r = m + 1 := ⟨r - 1, by omega⟩
        simp only [reliquarylaw12_RecordLasts.l2]
        rw [if_pos (by omega), if_pos (by omega), rd12 c i hil, if_neg (by omega), wrap64_id (by omega) (by omega)]
        rw [show c[i].drop j = [] from List.drop_eq_nil_of_le (by omega), List.nil_append] at g1
        rw [show (mkL c[i]).drop j = [] from List.drop_eq_nil_of_le (by rw [mkL_length]; omega), List.nil_append] at g2
        exact ih r (i + 1) at' (by omega) (by omega) g1 g2 ga (by omega)
      | succ e ihe =>
        intro r j at' he hj g1 g2 ga hr
        obtain ⟨r, rfl⟩ : ∃ m, r = m + 1 := ⟨r - 1, by omega⟩
        have hjl : j < c[i].length := by omega
        rw [show c[i].drop j = c[i][j] :: c[i].drop (j + 1) from List.drop_eq_getElem_cons hjl, List.cons_append] at g1
        rw [show (mkL c[i]).drop j = (mkL c[i])[j]'(by rw [mkL_length]; exact hjl) :: (mkL c[i]).drop (j + 1) from List.drop_eq_getElem_cons _, List.cons_append] at g2
        obtain ⟨a1, a2, a3⟩ := drop_cons g1
        obtain ⟨b1, b2, b3⟩ := drop_cons g2
        rw [mkL_get c[i] j hjl, List.getElem_take] at b2
        simp only [reliquarylaw12_RecordLasts.l2]
        rw [if_pos (by omega), if_pos (by omega), rd12 c i hil, if_pos (by omega), if_neg (by omega), if_pos (by omega), if_pos (by omega), if_pos (by omega), rd25 c[i] j hjl, rd25 x at' a1, a2, if_pos rfl, if_pos rfl, if_pos (by omega), rdOf_nat b at' (by omega), b2, wrap64_id (n := (c[i].length : Int) - 1) (by omega) (by omega)]
        have ht : ((j : Int) == (c[i].length : Int) - 1) = decide (j + 1 = c[i].length) := by
          by_cases h : j + 1 = c[i].length
          · rw [decide_eq_true h]; exact beq_iff_eq.mpr (by omega)
          · rw [decide_eq_false h]; exact beq_eq_false_iff_ne.mpr (by omega)
        rw [ht, if_neg (by simp), wrap64_id (n := (at' : Int) + 1) (by omega) (by omega), wrap64_id (n := (j : Int) + 1) (by omega) (by omega)]
        exact ihe r (j + 1) (at' + 1) (by omega) (by omega) a3 b3 (by omega) (by omega)
    exact inner c[i].length k 0 at' (by omega) (by omega) h1 h2 ha (by omega)
theorem rl_made (b : List Bool) (x : List S25) (hx : x.length ≤ 20) (hb : x.length ≤ b.length) (hm : ∀ y ∈ x, y.f1.length ≤ 160) (d : Nat) : ∀ (k i : Nat), x.length - i = d → i ≤ x.length → d + 100000 ≤ k →
    reliquarylaw12_RecordLasts.l0 k b x ((zipL x b).take i) ((chgAt (zipL x b) i).2.length : Int) i = some true := by
  have hzl := zipL_length x b hb
  induction d with
  | zero =>
    intro k i hd hi hk
    obtain ⟨k, rfl⟩ : ∃ m, k = m + 1 + 1 + 1 + 1 := ⟨k - 4, by omega⟩
    have : i = x.length := by omega
    subst this
    obtain ⟨z, hz⟩ : ∃ z, zipL x b = z := ⟨_, rfl⟩
    have hf0 := zipL_f0 x b hb
    have hf1 := zipL_f1 x b hb
    have hget := zipL_get x b hb
    simp only [hz] at hzl hf0 hf1 hget ⊢
    have hzm : ∀ y ∈ z, y.f0.f1.length ≤ 100000 := by
      intro y hy
      have : y.f0 ∈ x := by rw [← hf0]; exact List.mem_map_of_mem hy
      have := hm _ this
      omega
    obtain ⟨e0, e1⟩ := chg_all z z.length (Nat.le_refl _)
    rw [List.take_length] at e0 e1
    have hco := outs_length z z.length (Nat.le_refl _)
    simp only [reliquarylaw12_RecordLasts.l0]
    rw [if_neg (by omega), ← hzl, List.take_length, recChanges_eq z (by omega) hzm, Option.bind_some]
    have fin : (chgAt z z.length).1 = [] → reliquarylaw12_RecordLasts.j2 (k + 1 + 1 + 1) b x ((chgAt z z.length).2.length : Int) (chgAt z z.length).2 0 false = some true := by
      intro hn
      simp only [reliquarylaw12_RecordLasts.j2]
      rw [if_neg (by decide), if_pos trivial]
      simp only [reliquarylaw12_RecordLasts.j3]
      rw [if_neg (by simp)]
      rw [hn, List.append_nil, hf0] at e0
      rw [hn, List.length_nil, List.replicate_zero, List.append_nil, hf1] at e1
      exact rl_all b x _ (by omega) hb (by omega) (fun y hy => by have := chg_member z z.length (Nat.le_refl _) y hy; omega) _ (k + 1) 0 0 rfl (Nat.zero_le _) e0 e1 (Nat.zero_le _) (by omega)
    by_cases h0 : 0 < x.length
    · have hw : wrap64 ((z.length : Int) - 1) = ((x.length - 1 : Nat) : Int) := by rw [wrap64_id (by omega) (by omega)]; omega
      have hlast : (rd_T30 z ((z.length : Int) - 1)).f1 = b[x.length - 1] := by
        rw [show ((z.length : Int) - 1) = ((x.length - 1 : Nat) : Int) by omega, rd30 z _ (by omega), hget _ (by omega)]
      have hnil := chg_nil_iff z (z.length - 1) (by omega)
      rw [show z.length - 1 + 1 = z.length by omega] at hnil
      have hlz : z[z.length - 1].f1 = b[x.length - 1] := by
        rw [← hlast, show ((z.length : Int) - 1) = ((z.length - 1 : Nat) : Int) by omega, rd30 z _ (by omega)]
      rw [if_pos (by omega), hw, if_pos (by omega), if_pos (by omega), rdOf_nat b _ (by omega)]
      unfold chgV
      rw [hlast]
      by_cases c : b[x.length - 1] = true
      · rw [c, if_neg (by rintro ⟨_, z⟩; cases z)]
        exact fin (hnil.2 (by rw [hlz]; exact c))
      · rw [if_pos ⟨by omega, Bool.eq_false_iff.mpr c⟩, Bool.eq_false_iff.mpr c]
        simp only [reliquarylaw12_RecordLasts.j2]
        rfl
    · rw [if_neg (by omega)]
      have hzn : z = [] := List.eq_nil_of_length_eq_zero (by omega)
      unfold chgV
      rw [if_neg (fun z => by omega)]
      exact fin (by rw [hzn]; rfl)
  | succ d ih =>
    intro k i hd hi hk
    obtain ⟨k, rfl⟩ : ∃ m, k = m + 1 := ⟨k - 1, by omega⟩
    have hil : i < x.length := by omega
    have hzi : i < (zipL x b).length := by omega
    have hco := outs_length (zipL x b) i (by omega)
    simp only [reliquarylaw12_RecordLasts.l0]
    rw [if_pos (by omega), if_pos (by omega), if_pos (by omega), if_pos (by rw [List.length_take]; omega), Option.bind_some, rd25 x i hil, rdOf_nat b i (by omega), wrap64_id (n := (i : Int) + 1) (by omega) (by omega), wrap64_id (n := ((chgAt (zipL x b) i).2.length : Int) + 1) (by omega) (by omega)]
    have ih2 := ih k (i + 1) (by omega) (by omega) (by omega)
    rw [List.take_succ_eq_append_getElem hzi, zipL_get x b hb i hil, chgAt_succ _ i hzi, rd30 _ i hzi, zipL_get x b hb i hil] at ih2
    unfold chgStep at ih2
    by_cases c : b[i] = true
    · rw [if_pos c]
      rw [if_pos c, List.length_append, List.length_singleton] at ih2
      exact ih2
    · rw [if_neg c]
      rw [if_neg c] at ih2
      exact ih2
theorem rl_true (l : List S25) (b : List Bool) : ∃ k, reliquarylaw12_RecordLasts.f k l b = some true := by
  refine ⟨200000, ?_⟩
  unfold reliquarylaw12_RecordLasts.f
  rw [awake12_ok 200000 (by decide), Option.bind_some, if_pos rfl]
  obtain ⟨k, hk⟩ : ∃ k, 200000 = k + 1 := ⟨199999, rfl⟩
  rw [hk]
  by_cases h : (l.length : Int) > 20
  · rw [if_pos h]
    simp only [reliquarylaw12_RecordLasts.j0]
    rfl
  · rw [if_neg h]
    simp only [reliquarylaw12_RecordLasts.j0]
    by_cases h1 : (b.length : Int) < (l.length : Int)
    · rw [decide_eq_true h1]
      rfl
    · rw [decide_eq_false h1, if_neg (by decide), images_eq k l false (by omega) (by omega), Option.bind_some]
      have hl := imgs_length false 0 l
      exact rl_made b (imgs false 0 l) (by omega) (by omega) (imgs_mem false 0 l) _ k 0 rfl (Nat.zero_le _) (by omega)
end Go.Proofs.Ytjpkjakdhbnehaa.Pure
end
section
/- RecordLasts: its walk and its law, joined. -/
namespace Go.Proofs.Ytjpkjakdhbnehaa.Q
open Go.RowKit Go.Proofs.YtjpkjakdhbnehaaW.PrintWords
theorem RecordLasts.walk (w : World) (x : RowIn S25) (hx : RowIn.Ok k25 w x) (y : RowIn Bool) (hy : RowIn.Ok Kd.bool w y) :
    Calls Try.prog 7 #[.slice x.a x.xs.length x.c, .slice y.a y.xs.length y.c] w fun e w' => e = .returned (.bool true) ∧ Below w.heap.size w w' := by
  obtain ⟨k, hk⟩ := Pure.rl_true x.xs y.xs
  exact reliquarylaw12_RecordLasts.calls k x.a x.c x.xs y.a y.c y.xs true w hx.1 hx.2 hy.1 hy.2 hk
end Go.Proofs.Ytjpkjakdhbnehaa.Q
end
section
-- Written by this session's own program (hand_row.py). Not trusted: Lean checks it.
namespace Go.Proofs.Ytjpkjakdhbnehaa.recordLasts
open Go.ChangeShapes Go.WideShapes Go.ChangeAt Go.RowKit
open Go.ChangeMaps (open_string shut_string)
set_option linter.unusedVariables false
theorem own : ownKnob Try.prog.godebug = none := by kernel_rfl
theorem laidOut : laidOutB Try.prog = true := by kernel_rfl
set_option maxRecDepth 100000 in
theorem lifted (os : Os) (started : os.Started) (H : Type) (enc : TypeId × Value → H) :
    ReturnsInHanded {} Try.checked os 7 .any (Rows.recordLastsSpec.pre6 enc Try.prog Try.f7 Rows.recordLastsRow.domain false) (Rows.recordLastsSpec.post enc Try.prog Try.f7 false true false false) := by
  refine returnsInHanded_of_change_sized (C := Try.checked) own started (by kernel_rfl) Try.func7
    (ChangeSpec.witness6 (enc := enc) (C := Try.checked) false ⟨#[], #[.slice none 0 0, .slice none 0 0], []⟩ 8 (by kernel_rfl) (by kernel_rfl) (by kernel_rfl) (by kernel_rfl)) ?_
  intro W base args ds gs before hval0 hW hcnd hsz0 _
  have hsz : (DataW.weightsEach Try.prog (Try.f7.params.toList ++ Rows.recordLastsSpec.plain.varTypes Try.prog) (ds ++ gs)).all (· ≤ reachBytes) = true := hsz0
  have hval : ∀ (j : Nat) t v, Try.f7.params[j]? = some t → args[j]? = some v → Value.okWide Try.prog W .any base t v := hval0
  have hW' := hW
  obtain ⟨p, q, hA0, hV, rfl, hfz, hnd⟩ := hW
  have hA : DataW.TrodAll enc Try.prog W 0 (fun _ => true) true Try.f7.params.toList args.toList ds p := hA0
  rw [Try.params7] at hA hval hsz
  obtain ⟨v0, vs0, d0, ds0, p0, q0, hargs, rfl, rfl, h0, r0⟩ := trodAll_cons hA
  obtain ⟨v1, vs1, d1, ds1, p1, q1, rfl, rfl, rfl, h1, r1⟩ := trodAll_cons r0
  obtain ⟨rfl, rfl, rfl⟩ := trodAll_nil r1
  obtain rfl : args = #[v0, v1] := by cases args; simp_all
  obtain ⟨rfl, rfl⟩ := trodVars_none hV
  have k0 := h0
  have lt0 : ∀ x ∈ p0, x.block < W.heap.size := by obtain ⟨m, hm⟩ := k0; exact DataW.trod_lt m _ _ _ hm
  obtain ⟨x0, hx0, rfl⟩ := Q.in_imgs (hval 0 27 v0 rfl rfl) h0
  have k1 := h1
  have lt1 : ∀ x ∈ p1, x.block < W.heap.size := by obtain ⟨m, hm⟩ := k1; exact DataW.trod_lt m _ _ _ hm
  obtain ⟨x1, hx1, rfl⟩ := Q.in_bools (hval 1 47 v1 rfl rfl) h1
  clear hA0 hval0 hsz0 hsz
  refine (Q.RecordLasts.walk W x0 hx0 x1 hx1).mono fun e W' ⟨he, bel⟩ => ?_
  subst he
  exact ⟨_, rfl, _, _, _, [], _, [], hW', trodAll_mk1 (shut_bool Try.underlying4 _), (trodAll_cons_mk (Below.trod laidOut (by kernel_rfl) (of_decide_eq_true (by kernel_rfl)) k0 bel lt0) (trodAll_cons_mk (Below.trod laidOut (by kernel_rfl) (of_decide_eq_true (by kernel_rfl)) k1 bel lt1) trodAll_mk0)), rfl, bel.frame _, fun h => by cases h⟩
theorem over : Rows.recordLastsRow.holds Try.pinned (OpenSpec.ofChange Rows.recordLastsSpec) :=
  OpenClaim.holds_of_wide 7 Try.f7 rfl rfl rfl rfl rfl rfl rfl ⟨rfl, rfl, rfl, rfl, rfl⟩ rfl rfl rfl rfl rfl (by kernel_rfl) Try.func7 (by kernel_rfl)
    (of_decide_eq_true (by kernel_rfl)) (by unfold Func.isWrapper; first | (rw [if_pos (by decide +kernel)]; kernel_rfl) | (rw [if_neg (by decide +kernel)]; exact ⟨rfl, rfl⟩))
    (fun os started H enc _ => lifted os started H enc)
theorem proved : Rows.RecordLastsSaid := over
#print axioms proved
end Go.Proofs.Ytjpkjakdhbnehaa.recordLasts
namespace Go.Proofs.Ytjpkjakdhbnehaa
/-- The row, under a short name, for the claim. -/
theorem recordLasts_holds : Rows.RecordLastsSaid := recordLasts.proved
end Go.Proofs.Ytjpkjakdhbnehaa
end
