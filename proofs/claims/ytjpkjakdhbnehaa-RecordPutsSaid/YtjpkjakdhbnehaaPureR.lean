/- What the package record computes, in plain words. -/
import Derived.Test.YtjpkjakdhbnehaaPureW
import Derived.Test.YtjpkjakdhbnehaaQxf10
import Derived.Test.YtjpkjakdhbnehaaQxf13
import Derived.Test.YtjpkjakdhbnehaaQxf15
import Derived.Test.YtjpkjakdhbnehaaQxf9
import Derived.Test.YtjpkjakdhbnehaaQxf8
import Derived.Test.YtjpkjakdhbnehaaQxf54
import Derived.Test.YtjpkjakdhbnehaaQxf55
import Derived.Test.YtjpkjakdhbnehaaQxf28
namespace Go.Proofs.Ytjpkjakdhbnehaa.Pure
open Go.RowKit Go.Proofs.Ytjpkjakdhbnehaa.Q Go.Proofs.YtjpkjakdhbnehaaW.PrintWords Go.Proofs.YtjpkjakdhbnehaaW.PrintLast Go.Proofs.YtjpkjakdhbnehaaW.PrintMore
set_option linter.unusedVariables false
set_option linter.unusedSimpArgs false

theorem xor0 : ∀ n : Fin 256, Go.bits .xor .u8 0 (n.val : Int) = n.val := by decide +kernel
theorem xor1 : ∀ n : Fin 256, Go.bits .xor .u8 1 (n.val : Int) = if n.val % 2 = 0 then (n.val : Int) + 1 else (n.val : Int) - 1 := by decide +kernel
theorem xor_zero {x : Int} (h : 0 ≤ x ∧ x < 256) : Go.bits .xor .u8 0 x = x := by
  obtain ⟨n, rfl⟩ := Int.eq_ofNat_of_zero_le h.1
  exact xor0 ⟨n, by omega⟩
theorem xor_one {x : Int} (h : 0 ≤ x ∧ x < 256) : Go.bits .xor .u8 1 x = if x % 2 = 0 then x + 1 else x - 1 := by
  obtain ⟨n, rfl⟩ := Int.eq_ofNat_of_zero_le h.1
  rw [xor1 ⟨n, by omega⟩]
  by_cases h2 : n % 2 = 0
  · rw [if_pos h2, if_pos (by omega)]
  · rw [if_neg h2, if_neg (by omega)]
theorem clone_eq (l : List Int) (h : l.length ≤ 140737488351232) : slices_Clone_byte_byte.f l = some l := by unfold slices_Clone_byte_byte.f; rw [if_pos h]

/-! a record's bytes -/
def headL (last : Bool) : List Int := [1, if last then 1 else 0, 0, 0, 0, 0, 0, 0]
def recL (b : Int) (last : Bool) (l : List Int) : List Int := headL last ++ lebytes 8 b ++ l
theorem recL_length (b : Int) (last : Bool) (l : List Int) (h : l.length = 160) : (recL b last l).length = 176 := by
  simp [recL, headL, lebytes_length, h]
theorem recL_u8s (b : Int) (last : Bool) (l : List Int) (h : u8s l) : u8s (recL b last l) := by
  intro x hx
  unfold recL at hx
  rcases List.mem_append.1 hx with hx | hx
  · rcases List.mem_append.1 hx with hx | hx
    · cases last <;> simp [headL] at hx <;> omega
    · exact lebytes_u8s 8 b x hx
  · exact h x hx
theorem put_row (b : Int) (hd l : List Int) : [hd, lebytes 8 b, l].flatten = hd ++ lebytes 8 b ++ l := by simp [List.append_assoc]
theorem record_Put_eq (k : Nat) (hk : 9 ≤ k) (b : Int) (l : List Int) (last : Bool) (hb : 0 ≤ b) : record_Put.f k b l last = some (if l.length = 160 then (recL b last l, 0) else ([], 1)) := by
  unfold record_Put.f
  by_cases h : l.length = 160
  · rw [if_pos (by omega), if_pos h, Option.bind_some]
    have hp : putV b 8 = lebytes 8 b := by unfold putV; rw [if_pos (by omega)]; rfl
    cases last with
    | true =>
      rw [if_pos rfl, if_pos (by decide), word_Pad_eq _ _ (by decide), Option.bind_some, word_Put_eq k hk b 8 hb, Option.bind_some, hp]
      rw [slices_Concat_eq _ (by simp [lebytes_length, padV_length, h]), Option.bind_some, put_row]
      rfl
    | false =>
      rw [if_neg (by simp), word_Pad_eq _ _ (by decide), Option.bind_some, word_Put_eq k hk b 8 hb, Option.bind_some, hp]
      rw [slices_Concat_eq _ (by simp [lebytes_length, padV_length, h]), Option.bind_some, put_row]
      rfl
  · rw [if_neg (by omega), if_neg h]

/-! the record of bytes -/
theorem any_loop (l : List Int) (hl : l.length ≤ 140737488351232) (d : Nat) : ∀ (k i : Nat), l.length - i = d → i ≤ l.length → d < k →
    (slices_IndexFunc_byte_byte_at_record_Get_lit1.l0 k l (l.length : Int) i).bind (fun t => some (decide (t ≥ 0))) = some ((l.drop i).any (· != 0)) := by
  induction d with
  | zero =>
    intro k i hd hi hk
    obtain ⟨k, rfl⟩ : ∃ m, k = m + 1 := ⟨k - 1, by omega⟩
    simp only [slices_IndexFunc_byte_byte_at_record_Get_lit1.l0]
    rw [if_neg (by omega), List.drop_eq_nil_of_le (by omega)]
    rfl
  | succ d ih =>
    intro k i hd hi hk
    obtain ⟨k, rfl⟩ : ∃ m, k = m + 1 := ⟨k - 1, by omega⟩
    have hil : i < l.length := by omega
    simp only [slices_IndexFunc_byte_byte_at_record_Get_lit1.l0, record_Get_lit1.f, Option.bind_some]
    rw [if_pos (by omega), if_pos (by omega), if_pos (by omega), rd_nat l i hil, List.drop_eq_getElem_cons hil, List.any_cons]
    by_cases h : l[i] = 0
    · rw [bne_eq_false_iff_eq.mpr h, if_neg (by simp), wrap64_id (by omega) (by omega), Bool.false_or]
      exact ih k (i + 1) (by omega) (by omega) (by omega)
    · rw [bne_iff_ne.mpr h, if_pos rfl, Option.bind_some, Bool.true_or, decide_eq_true (by omega)]
theorem any_eq (k : Nat) (l : List Int) (hk : l.length < k) (hl : l.length ≤ 140737488351232) : slices_ContainsFunc_byte_byte_at_record_Get_lit1.f k l = some (l.any (· != 0)) := by
  unfold slices_ContainsFunc_byte_byte_at_record_Get_lit1.f slices_IndexFunc_byte_byte_at_record_Get_lit1.f
  have := any_loop l hl l.length k 0 (by omega) (by omega) hk
  simpa using this
def formR (l : List Int) : Int × List Int × Bool × Int := if l.length = 176 ∧ rd l 0 = 1 ∧ rd l 1 ≤ 1 ∧ ((l.take 8).drop 2).any (· != 0) = false then ((getV l 8 8).1, l.drop 16, rd l 1 == 1, 0) else (0, [], false, 11)
theorem record_Get_eq (k : Nat) (hk : 20 ≤ k) (l : List Int) (hu : u8s l) (hl : l.length ≤ 140737488351232) : record_Get.f k l = some (formR l) := by
  obtain ⟨k, rfl⟩ : ∃ m, k = m + 1 := ⟨k - 1, by omega⟩
  have hno : ¬ (l.length = 176 ∧ rd l 0 = 1 ∧ rd l 1 ≤ 1 ∧ ((l.take 8).drop 2).any (· != 0) = false) → record_Get.j0 (k + 1) l true = some (formR l) := fun h => by
    simp only [record_Get.j0]
    unfold formR
    rw [if_neg h]
    simp
  unfold record_Get.f
  by_cases h1 : l.length = 176
  · rw [if_pos (by omega), if_pos (by omega)]
    by_cases h2 : rd l 0 = 1
    · rw [if_pos h2, if_pos (by omega)]
      by_cases h3 : rd l 1 > 1
      · rw [if_pos h3]; exact hno (fun z => by have := z.2.2.1; omega)
      · rw [if_neg h3, if_pos (by decide), if_pos (by omega), any_eq (k + 1) _ (by rw [List.length_drop, List.length_take]; omega) (by rw [List.length_drop, List.length_take]; omega), Option.bind_some]
        by_cases h4 : ((l.take 8).drop 2).any (· != 0) = true
        · rw [h4]; exact hno (fun z => by rw [h4] at z; exact absurd z.2.2.2 (by simp))
        · have h4 := Bool.eq_false_iff.mpr h4
          rw [h4]
          simp only [record_Get.j0]
          unfold formR
          rw [if_neg (by simp), if_pos ⟨h1, h2, by omega, h4⟩, word_Get_eq l 8 8 hu hl (by decide), Option.bind_some, if_pos (by omega), clone_eq _ (by rw [List.length_drop]; omega), Option.bind_some, if_pos (by omega)]
    · rw [if_neg h2]; exact hno (fun z => h2 z.2.1)
  · rw [if_neg (by omega)]; exact hno (fun z => h1 z.1)
theorem formR_recL (b : Int) (last : Bool) (l : List Int) (hl : l.length = 160) (hb : 0 ≤ b) (hb1 : b < 18446744073709551616) : formR (recL b last l) = (b, l, last, 0) := by
  have hlen := recL_length b last l hl
  have hg : getV (recL b last l) 8 8 = (b, 0) := by
    unfold getV
    rw [hlen, if_pos (by decide)]
    have : cutV (recL b last l) 8 8 = lebytes 8 b := by
      unfold cutV recL
      simp [lebytes, headL]
    rw [this, leval_lebytes, Int.emod_eq_of_lt hb (by simpa using hb1)]
  have hd : (recL b last l).drop 16 = l := by
    unfold recL
    rw [List.drop_append_of_le_length (by simp [headL, lebytes_length]), List.drop_eq_nil_of_le (by simp [headL, lebytes_length]), List.nil_append]
  have ht : (recL b last l).take 8 = headL last := by
    unfold recL
    rw [List.append_assoc, List.take_append_of_le_length (by simp [headL])]
    rfl
  have h0 : rd (recL b last l) 0 = 1 := rfl
  have h1 : rd (recL b last l) 1 = if last then 1 else 0 := rfl
  unfold formR
  rw [if_pos ⟨hlen, h0, by rw [h1]; cases last <;> simp, by rw [ht]; cases last <;> rfl⟩, hg, hd, h1]
  cases last <;> rfl

/-! images -/
def imgV (short : Bool) (j : Nat) (x : S25) : S25 := ⟨x.f0, padV x.f1 (if short = true ∧ j = 1 then 159 else 160)⟩
def imgs (short : Bool) : Nat → List S25 → List S25
  | _, [] => []
  | j, x :: l => imgV short j x :: imgs short (j + 1) l
theorem imgs_length (short : Bool) : ∀ (j : Nat) (l : List S25), (imgs short j l).length = l.length
  | _, [] => rfl
  | j, x :: l => by rw [imgs, List.length_cons, imgs_length short (j + 1) l, List.length_cons]
theorem set_fill2 (l : List Int) (j m : Nat) (h : j < l.length) (hm : j < m) : (l.take j ++ List.replicate (m - j) 0).set j l[j] = l.take (j + 1) ++ List.replicate (m - (j + 1)) 0 := by
  have h1 : (l.take j).length = j := by rw [List.length_take]; omega
  rw [List.set_append, if_neg (by omega), h1, Nat.sub_self, show m - j = (m - (j + 1)) + 1 by omega, List.replicate_succ, List.set_cons_zero, List.take_succ_eq_append_getElem h, List.append_assoc]
  rfl
theorem images_inner (L : List S25) (short : Bool) (acc : List S25) (i : Nat) (hi : i < L.length) (hL : L.length ≤ 1000) (hacc : acc.length < 4398046511104) (x : S25) (hx : rd_T25 L i = x) (m : Nat) (hm : m ≤ 160) (d : Nat) : ∀ (r j : Nat), min m x.f1.length - j = d → j ≤ min m x.f1.length →
    reliquarylaw12_images.l1 (r + d + 1) L short acc i m (x.f1.take j ++ List.replicate (m - j) 0) j = reliquarylaw12_images.l0 r L short (acc ++ [⟨x.f0, padV x.f1 m⟩]) ((i + 1 : Nat) : Int) := by
  induction d with
  | zero =>
    intro r j hd hj
    have hpad : x.f1.take j ++ List.replicate (m - j) 0 = padV x.f1 m := by
      unfold padV
      rw [Int.toNat_natCast]
      by_cases h : m ≤ x.f1.length
      · rw [show j = m by omega, show m - x.f1.length = m - m by omega]
      · rw [show j = x.f1.length by omega, List.take_of_length_le (Nat.le_refl _), List.take_of_length_le (by omega)]
    rw [hpad]
    simp only [reliquarylaw12_images.l1, hx]
    rw [if_pos (by omega), if_pos (by omega), if_pos hacc, wrap64_id (n := (i : Int) + 1) (by omega) (by omega)]
    by_cases h : (j : Int) < x.f1.length
    · rw [if_pos h, if_neg (by omega)]
      rfl
    · rw [if_neg h]
      rfl
  | succ d ih =>
    intro r j hd hj
    have hjl : j < x.f1.length := by omega
    obtain ⟨q, hq⟩ : ∃ q, q = r + d + 1 := ⟨_, rfl⟩
    rw [show r + (d + 1) + 1 = q + 1 by omega]
    simp only [reliquarylaw12_images.l1, hx]
    rw [if_pos (by omega), if_pos (by omega), if_pos (by omega), if_pos (by omega), if_pos (by omega), if_pos (by rw [List.length_append, List.length_take, List.length_replicate]; omega), rd_nat _ j hjl, Int.toNat_natCast, set_fill2 _ j m hjl (by omega), wrap64_id (n := (j : Int) + 1) (by omega) (by omega), hq]
    exact ih r (j + 1) (by omega) (by omega)
theorem images_loop (L : List S25) (short : Bool) (hL : L.length ≤ 1000) (d : Nat) : ∀ (k i : Nat) (acc : List S25), L.length - i = d → i ≤ L.length → acc.length = i → 170 * d + 1 ≤ k →
    reliquarylaw12_images.l0 k L short acc i = some (acc ++ imgs short i (L.drop i)) := by
  induction d with
  | zero =>
    intro k i acc hd hi ha hk
    obtain ⟨k, rfl⟩ : ∃ m, k = m + 1 := ⟨k - 1, by omega⟩
    simp only [reliquarylaw12_images.l0]
    rw [if_neg (by omega), List.drop_eq_nil_of_le (by omega), imgs, List.append_nil]
  | succ d ih =>
    intro k i acc hd hi ha hk
    have hil : i < L.length := by omega
    have hx : rd_T25 L i = L[i] := by simp [rd_T25, List.getD_eq_getElem?_getD, List.getElem?_eq_getElem hil]
    have key : ∀ (m : Nat) (q : Nat), m ≤ 160 → 170 * d + 165 ≤ q → reliquarylaw12_images.j2 q L short acc i m = some (acc ++ (⟨L[i].f0, padV L[i].f1 m⟩ : S25) :: imgs short (i + 1) (L.drop (i + 1))) := by
      intro m q hm hq
      obtain ⟨r, hr⟩ : ∃ r, q = (r + min m L[i].f1.length + 1) + 1 := ⟨q - min m L[i].f1.length - 2, by omega⟩
      rw [hr]
      simp only [reliquarylaw12_images.j2]
      rw [if_pos (by omega), if_pos (by omega), Int.toNat_natCast]
      have := images_inner L short acc i hil hL (by omega) L[i] hx m hm (min m L[i].f1.length) r 0 (by omega) (by omega)
      rw [List.take_zero, List.nil_append, Nat.sub_zero] at this
      have this2 : reliquarylaw12_images.l1 (r + min m L[i].f1.length + 1) L short acc i m (List.replicate m 0) 0 = _ := this
      rw [this2, ih r (i + 1) _ (by omega) (by omega) (by rw [List.length_append, ha]; rfl) (by omega), List.append_assoc]
      rfl
    obtain ⟨k, rfl⟩ : ∃ m, k = m + 1 + 1 := ⟨k - 2, by omega⟩
    rw [List.drop_eq_getElem_cons hil, imgs]
    simp only [reliquarylaw12_images.l0]
    rw [if_pos (by omega)]
    unfold imgV
    cases short with
    | true =>
      rw [if_pos rfl]
      simp only [reliquarylaw12_images.j1]
      by_cases h : i = 1
      · rw [if_pos (by rw [h]; rfl), if_pos (by simp [h])]
        exact key 159 k (by omega) (by omega)
      · rw [if_neg (by simp; omega), if_neg (by simp [h])]
        exact key 160 k (by omega) (by omega)
    | false =>
      rw [if_neg (by simp)]
      simp only [reliquarylaw12_images.j1]
      rw [if_neg (by simp), if_neg (by simp)]
      exact key 160 k (by omega) (by omega)
theorem images_eq (k : Nat) (L : List S25) (short : Bool) (hL : L.length ≤ 1000) (hk : 170 * L.length + 1 ≤ k) : reliquarylaw12_images.f k L short = some (imgs short 0 L) := by
  unfold reliquarylaw12_images.f
  have := images_loop L short hL L.length k 0 [] (by omega) (by omega) rfl hk
  simpa using this
theorem awake12_ok (k : Nat) (hk : 20 ≤ k) : reliquarylaw12_awake.f k = some true := by
  obtain ⟨k, rfl⟩ : ∃ m, k = m + 1 := ⟨k - 1, by omega⟩
  have hu : u8s (List.replicate 160 (0 : Int)) := by intro x hx; have := List.eq_of_mem_replicate hx; omega
  have h1 : record_Of.f (k + 1) [] = some ([], 1) := by unfold record_Of.f; simp [record_Of.j0]
  unfold reliquarylaw12_awake.f
  rw [h1, Option.bind_some, if_pos (by decide), record_Put_eq (k + 1) (by omega) 3 _ true (by decide), Option.bind_some, if_pos (by simp)]
  simp only []
  rw [record_Get_eq (k + 1) hk _ (recL_u8s _ _ _ hu) (by rw [recL_length _ _ _ (by simp)]; decide), Option.bind_some, formR_recL _ _ _ (by simp) (by decide) (by decide), recL_length _ _ _ (by simp)]
  decide +kernel
end Go.Proofs.Ytjpkjakdhbnehaa.Pure
