/- The layout of any first block is the document's, or refused; put it is got, got it is put as it was. -/
import Derived.Test.YtllbgccdcibopaaPureL
import Derived.Test.YtllbgccdcibopaaPureS2
import Derived.Laws.Closers25b
import Derived.Test.YtllbgccdcibopaaQxf4
import Derived.Test.YtllbgccdcibopaaQxf17
import Derived.Test.YtllbgccdcibopaaQxf11
namespace Go.Proofs.Ytllbgccdcibopaa.Pure
open Go.RowKit Go.Proofs.Ytllbgccdcibopaa.Q Go.Proofs.YtllbgccdcibopaaW.PrintWords Go.Proofs.YtllbgccdcibopaaW.PrintLast Go.Proofs.YtllbgccdcibopaaW.PrintMore
set_option linter.unusedVariables false
set_option linter.unusedSimpArgs false

theorem putL_of {l : List Int} (hu : u8s l) (hl : l.length = 160) (h4 : l.take 4 = [82, 76, 81, 49]) (hz : l.drop 12 = List.replicate 148 0) : l = putL (getV l 4 4).1 (getV l 8 4).1 := by
  have g4 : getV l 4 4 = (leval (cutV l 4 4), 0) := by unfold getV; rw [hl, if_pos (by decide)]
  have g8 : getV l 8 4 = (leval (cutV l 8 4), 0) := by unfold getV; rw [hl, if_pos (by decide)]
  have c4 : (cutV l 4 4).length = 4 := by rw [cutV_length (by decide) (by decide) (by omega)]; rfl
  have c8 : (cutV l 8 4).length = 4 := by rw [cutV_length (by decide) (by decide) (by omega)]; rfl
  have b4 := lebytes_leval _ (u8s_cut hu 4 4)
  have b8 := lebytes_leval _ (u8s_cut hu 8 4)
  rw [c4] at b4
  rw [c8] at b8
  rw [g4, g8]
  unfold putL
  show l = [82, 76, 81, 49] ++ lebytes 4 (leval (cutV l 4 4)) ++ lebytes 4 (leval (cutV l 8 4)) ++ List.replicate 148 0
  rw [b4, b8, ← h4, ← hz]
  show l = l.take 4 ++ (l.take 8).drop 4 ++ (l.take 12).drop 8 ++ l.drop 12
  have e1 : l.take 4 ++ (l.take 8).drop 4 = l.take 8 := by
    have := List.take_append_drop 4 (l.take 8)
    rwa [List.take_take, Nat.min_eq_left (by decide)] at this
  have e2 : l.take 8 ++ (l.take 12).drop 8 = l.take 12 := by
    have := List.take_append_drop 8 (l.take 12)
    rwa [List.take_take, Nat.min_eq_left (by decide)] at this
  rw [e1, e2, List.take_append_drop]
theorem conv_get (k : Nat) (hk : 20 ≤ k) (l : List Int) (a n : Int) (hu : u8s l) (hl : l.length ≤ 140737488351232) (ha1 : a ≤ 9223372036854775807) : conv_reliquaryref01_Get.f k (strOfNums l) a n = some (getV l a n) := by
  unfold conv_reliquaryref01_Get.f
  rw [if_pos (by rw [strOfNums_size]; exact hl), bytesOf_str hu, refget_eq k hk l a n hu hl ha1]
def finV (x y : Int) : Int × Int × Int × Int × Int := if newOk x y then (x, y, 3, 3 + (y + 4) / 5, 0) else (0, 0, 0, 0, 11)
theorem ref17_loop (l : List Int) (hu : u8s l) (hl : l.length = 160) (x y : Int) (hx : 0 ≤ x ∧ x < 4294967296) (hy : 0 ≤ y ∧ y < 4294967296) (d : Nat) : ∀ (k i : Nat), 160 - i = d → i ≤ 160 → d + 300 < k →
    reliquaryref17_Get.l0 k (strOfNums l) x y i = some (if l.drop i = List.replicate (160 - i) 0 then finV x y else (0, 0, 0, 0, 11)) := by
  induction d with
  | zero =>
    intro k i hd hi hk
    obtain ⟨k, rfl⟩ : ∃ m, k = m + 1 := ⟨k - 1, by omega⟩
    simp only [reliquaryref17_Get.l0]
    have e0 : (if l.drop i = List.replicate (160 - i) 0 then finV x y else ((0, 0, 0, 0, 11) : Int × Int × Int × Int × Int)) = finV x y := if_pos (by rw [show 160 - i = 0 by omega, List.drop_eq_nil_of_le (by omega)]; rfl)
    rw [if_neg (by omega), wrap64_id (n := x) (by omega) (by omega), wrap64_id (n := y) (by omega) (by omega), refnew_eq k (by omega), Option.bind_some, e0]
    unfold finV
    by_cases h : newOk x y
    · rw [newV_ok h, if_pos h]; rfl
    · rw [newV_no h, if_neg h]; rfl
  | succ d ih =>
    intro k i hd hi hk
    obtain ⟨k, rfl⟩ : ∃ m, k = m + 1 := ⟨k - 1, by omega⟩
    have hil : i < l.length := by omega
    simp only [reliquaryref17_Get.l0]
    rw [if_pos (by omega), if_pos (by omega), if_pos (by rw [strOfNums_size]; omega), bt_str hu, rd_nat l i hil, wrap64_id (by omega) (by omega), List.drop_eq_getElem_cons hil, show 160 - i = (160 - (i + 1)) + 1 by omega, List.replicate_succ]
    by_cases h : l[i] = 0
    · have := ih k (i + 1) (by omega) (by omega) (by omega)
      rw [if_pos h, show ((i : Int) + 1) = ((i + 1 : Nat) : Int) by omega, this, h]
      congr 1
      by_cases hz : l.drop (i + 1) = List.replicate (160 - (i + 1)) 0
      · rw [if_pos hz, if_pos (by rw [hz])]
      · rw [if_neg hz, if_neg (by intro e; exact hz (List.cons.inj e).2)]
    · rw [if_neg h, if_neg (by intro e; exact h (List.cons.inj e).1)]
theorem ref17_eq (k : Nat) (hk : 600 ≤ k) (l : List Int) (hu : u8s l) (hl : l.length ≤ 140737488351232) : reliquaryref17_Get.f k (strOfNums l) = some (formL l) := by
  have r1 := getV_range l hu 4 4 (by omega)
  have r2 := getV_range l hu 8 4 (by omega)
  obtain ⟨k, rfl⟩ : ∃ m, k = m + 1 := ⟨k - 1, by omega⟩
  unfold reliquaryref17_Get.f
  have hs : (strOfNums l).size = l.length := strOfNums_size l
  have hno : formL l = (0, 0, 0, 0, 11) → reliquaryref17_Get.j0 (k + 1) (strOfNums l) true = some (formL l) := fun h => by
    simp only [reliquaryref17_Get.j0]
    rw [h]
    simp
  by_cases h1 : l.length = 160
  · rw [if_pos (by rw [hs]; omega), if_pos (by decide), if_pos (by rw [hs]; omega), str_take]
    have e4 : ([82, 76, 81, 49] : List UInt8) = ([82, 76, 81, 49] : List Int).map fun m => UInt8.ofNat m.toNat := by decide
    by_cases h4 : l.take 4 = [82, 76, 81, 49]
    · rw [h4, ← e4, bne_self_eq_false]
      simp only [reliquaryref17_Get.j0]
      rw [if_neg (by simp), conv_get k (by omega) l 4 4 hu hl (by decide), Option.bind_some, conv_get k (by omega) l 8 4 hu hl (by decide), Option.bind_some]
      have := ref17_loop l hu h1 (getV l 4 4).1 (getV l 8 4).1 ⟨r1.1, by omega⟩ ⟨r2.1, by omega⟩ 148 k 12 (by decide) (by decide) (by omega)
      rw [show ((12 : Nat) : Int) = 12 from rfl] at this
      rw [this]
      unfold finV formL
      rw [h1]
      by_cases hz : l.drop 12 = List.replicate 148 0
      · rw [if_pos hz]
        have hp := putL_of hu h1 h4 hz
        by_cases hn : newOk (getV l 4 4).1 (getV l 8 4).1
        · rw [if_pos hn]
          congr 1
          exact (if_pos ⟨by decide, by decide, hn, hp⟩).symm
        · rw [if_neg hn]
          congr 1
          exact (if_neg (fun z => hn z.2.2.1)).symm
      · rw [if_neg hz]
        congr 1
        refine (if_neg (fun z => hz ?_)).symm
        rw [z.2.2.2]
        unfold putL
        rw [List.drop_append_of_le_length (by simp [lebytes_length]), List.drop_eq_nil_of_le (by simp [lebytes_length])]
        rfl
    · have hb : ((l.take 4).map (fun m : Int => UInt8.ofNat m.toNat) != ([82, 76, 81, 49] : List UInt8)) = true := by
        rw [e4]
        exact bne_iff_ne.mpr fun e => h4 (map_u8_inj (u8s_take hu 4) (by intro v hv; simp at hv; omega) e)
      rw [hb]
      refine hno ?_
      unfold formL
      refine if_neg (fun z => h4 ?_)
      rw [z.2.2.2]
      rfl
  · rw [if_neg (by rw [hs]; omega)]
    refine hno ?_
    unfold formL
    refine if_neg (fun z => h1 ?_)
    rw [z.2.2.2, putL_length]
theorem j1_ok (k : Nat) (hk : 1000 ≤ k) (l : List Int) (hu : u8s l) (hl : l.length ≤ 300) : reliquarylaw17_LayoutGets.j1 k l = some true := by
  obtain ⟨k, rfl⟩ : ∃ m, k = m + 1 := ⟨k - 1, by omega⟩
  simp only [reliquarylaw17_LayoutGets.j1]
  rw [layout_Get_eq k l (by omega) hu (by omega), Option.bind_some, ref17_eq k (by omega) l hu (by omega), Option.bind_some]
  unfold reliquarylaw17_modelOf.f
  rw [Option.bind_some, if_pos (by simp), if_pos rfl]
  by_cases h : (formL l).2.2.2.2 = 0
  · rw [if_pos h]
    by_cases hc : insideV l.length 4 4 = 0 ∧ insideV l.length 8 4 = 0 ∧ newOk (getV l 4 4).1 (getV l 8 4).1 ∧ l = putL (getV l 4 4).1 (getV l 8 4).1
    · have ef : formL l = ((getV l 4 4).1, (getV l 8 4).1, 3, 3 + ((getV l 8 4).1 + 4) / 5, 0) := if_pos hc
      rw [ef]
      have hn := hc.2.2.1
      unfold newOk at hn
      rw [layout_Put_eq _ _ _ _ (by show 0 ≤ (getV l 4 4).1; omega) (by show (getV l 4 4).1 < _; omega) (by show 0 ≤ (getV l 8 4).1; omega) (by show (getV l 8 4).1 < _; omega), Option.bind_some]
      show some ((strOfNums (putL (getV l 4 4).1 (getV l 8 4).1)).toList == (strOfNums l).toList) = some true
      rw [← hc.2.2.2, beq_self_eq_true]
    · have ef : formL l = (0, 0, 0, 0, 11) := if_neg hc
      rw [ef] at h
      exact absurd h (by decide)
  · rw [if_neg h]
theorem LayoutGets : reliquarylaw17_LayoutGets.Pure := by
  intro b n at' ov cut hb hn hat hov
  have kt := wf_u8 hat
  have ko := wf_u8 hov
  refine ⟨2000, ?_⟩
  unfold reliquarylaw17_LayoutGets.f
  rw [awake17_ok 2000 (by omega), Option.bind_some, if_pos rfl, layout_New_eq 2000 (by omega), Option.bind_some]
  by_cases h : newOk b n
  · have h1 := h
    unfold newOk at h1
    rw [newV_ok h, if_pos rfl]
    simp only []
    rw [layout_Put_eq _ _ _ _ (by omega) (by omega) (by omega) (by omega), Option.bind_some, layout_Get_eq 2000 _ (by rw [putL_length]; omega) (putL_u8s b n) (by rw [putL_length]; decide), Option.bind_some, formL_putL b n h]
    simp only [beq_self_eq_true, Bool.not_true, Bool.or_false, Bool.or_self, Bool.false_eq_true, if_false, bne_self_eq_false, reliquarylaw17_LayoutGets.j0]
    rw [layout_Put_eq _ _ _ _ (by omega) (by omega) (by omega) (by omega), Option.bind_some, putL_length]
    have hk : Int.tmod (wrap64 at') ((160 : Nat) : Int) = at' % 160 := by
      rw [wrap64_id (n := at') (by omega) (by omega), Int.tmod_eq_emod_of_nonneg (by omega)]
      rfl
    rw [hk, if_neg (by decide), if_pos (by omega), if_pos (by omega), Option.bind_some]
    have hx : 0 ≤ Go.bits .xor .u8 (rd (putL b n) (at' % 160)) ov ∧ Go.bits .xor .u8 (rd (putL b n) (at' % 160)) ov < 256 := by
      have z := bits_within .xor .u8 (rd (putL b n) (at' % 160)) ov
      have h0 : IntKind.u8.min = 0 := by decide
      have h2 : IntKind.u8.max = 255 := by decide
      omega
    have hu : u8s ((putL b n).set (at' % 160).toNat (Go.bits .xor .u8 (rd (putL b n) (at' % 160)) ov)) := by
      intro x hm
      rcases List.mem_or_eq_of_mem_set hm with hm | rfl
      · exact putL_u8s b n x hm
      · exact hx
    have hl : ((putL b n).set (at' % 160).toNat (Go.bits .xor .u8 (rd (putL b n) (at' % 160)) ov)).length = 160 := by rw [List.length_set, putL_length]
    cases cut with
    | true =>
      rw [if_pos rfl, wrap64_id (by decide) (by decide), if_pos (by decide), if_pos (by decide)]
      exact j1_ok _ (by omega) _ (u8s_take hu _) (by rw [List.length_take, hl]; omega)
    | false =>
      rw [if_neg (by simp)]
      exact j1_ok _ (by omega) _ hu (by omega)
  · rw [newV_no h]
    simp
end Go.Proofs.Ytllbgccdcibopaa.Pure
