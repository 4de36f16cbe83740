/- Bytes whose head may not be, or of another length, are no record. -/
import Derived.Test.YtjpkjakdhbnehaaPureR
import Derived.Test.YtjpkjakdhbnehaaQxf4
import Derived.Test.YtjpkjakdhbnehaaQxf9
namespace Go.Proofs.Ytjpkjakdhbnehaa.Pure
open Go.RowKit Go.Proofs.Ytjpkjakdhbnehaa.Q Go.Proofs.YtjpkjakdhbnehaaW.PrintWords Go.Proofs.YtjpkjakdhbnehaaW.PrintLast Go.Proofs.YtjpkjakdhbnehaaW.PrintMore
set_option linter.unusedVariables false
set_option linter.unusedSimpArgs false

theorem u8s_set {l : List Int} (h : u8s l) (i : Nat) {v : Int} (hv : 0 ≤ v ∧ v < 256) : u8s (l.set i v) := by
  intro x hx
  rcases List.mem_or_eq_of_mem_set hx with hx | rfl
  · exact h x hx
  · exact hv
theorem xor_rng : ∀ (a : Fin 2) (n : Fin 256), 0 ≤ Go.bits .xor .u8 (a.val : Int) (n.val : Int) ∧ Go.bits .xor .u8 (a.val : Int) (n.val : Int) < 256 := by decide +kernel
theorem recL_head (b : Int) (last : Bool) (l : List Int) (j : Nat) (h : j < 8) : rd (recL b last l) (j : Int) = if j = 0 then 1 else if j = 1 then (if last then 1 else 0) else 0 := by
  match j, h with
  | 0, _ => rfl
  | 1, _ => rfl
  | 2, _ => rfl
  | 3, _ => rfl
  | 4, _ => rfl
  | 5, _ => rfl
  | 6, _ => rfl
  | 7, _ => rfl
theorem rd_set (l : List Int) (j i : Nat) (v : Int) (h : j < l.length) : rd (l.set j v) (i : Int) = if j = i then v else rd l (i : Int) := by
  simp only [rd, List.getD_eq_getElem?_getD, List.getElem?_set, Int.toNat_natCast]
  by_cases e : j = i
  · subst e
    rw [if_pos rfl, if_pos rfl, if_pos h]
    rfl
  · rw [if_neg e, if_neg e]
/-- What a changed byte of the head does. -/
theorem formR_turn (b : Int) (last : Bool) (l : List Int) (hl : l.length = 160) (hb : 0 ≤ b) (hb1 : b < 18446744073709551616) (j : Nat) (hj : j < 8) (over : Int) (ho : 0 ≤ over ∧ over < 256) :
    formR ((recL b last l).set j (Go.bits .xor .u8 (rd (recL b last l) (j : Int)) over)) = if over = 0 ∨ (j = 1 ∧ over = 1) then (b, l, last != (over == 1), 0) else (0, [], false, 11) := by
  have hlen := recL_length b last l hl
  obtain ⟨o, rfl⟩ := Int.eq_ofNat_of_zero_le ho.1
  have ho2 : o < 256 := by omega
  obtain ⟨B, hB⟩ : ∃ B : Int, rd (recL b last l) (j : Int) = B := ⟨_, rfl⟩
  have hB2 := recL_head b last l j hj
  rw [hB] at hB2
  rw [hB]
  by_cases h0 : (o : Int) = 0
  · rw [if_pos (.inl h0)]
    have e : (recL b last l).set j (Go.bits .xor .u8 B (o : Int)) = recL b last l := by
      apply List.ext_getElem?
      intro i
      rw [List.getElem?_set]
      by_cases e : j = i
      · subst e
        rw [if_pos rfl, if_pos (by omega)]
        simp only [rd, List.getD_eq_getElem?_getD, Int.toNat_natCast] at hB
        rw [List.getElem?_eq_getElem (by omega)] at hB ⊢
        simp only [Option.getD_some] at hB
        rw [hB, h0]
        congr 1
        by_cases a0 : j = 0
        · rw [hB2, if_pos a0]; decide +kernel
        · rw [hB2, if_neg a0]
          by_cases a1 : j = 1
          · rw [if_pos a1]; cases last <;> decide +kernel
          · rw [if_neg a1]; decide +kernel
      · rw [if_neg e]
    rw [e, formR_recL b last l hl hb hb1, h0]
    cases last <;> rfl
  · by_cases h1 : j = 1 ∧ (o : Int) = 1
    · rw [if_pos (.inr h1)]
      obtain ⟨rfl, h1⟩ := h1
      have e : (recL b last l).set 1 (Go.bits .xor .u8 B (o : Int)) = recL b (!last) l := by
        rw [h1, hB2]
        cases last <;> rfl
      rw [e, formR_recL b (!last) l hl hb hb1, h1]
      cases last <;> rfl
    · rw [if_neg (fun z => z.elim h0 h1)]
      unfold formR
      refine if_neg fun z => ?_
      obtain ⟨z0, z1, z2, z3⟩ := z
      have q0 := rd_set (recL b last l) j 0 (Go.bits .xor .u8 B (o : Int)) (by omega)
      have q1 := rd_set (recL b last l) j 1 (Go.bits .xor .u8 B (o : Int)) (by omega)
      rw [show ((0 : Nat) : Int) = 0 from rfl] at q0
      rw [show ((1 : Nat) : Int) = 1 from rfl] at q1
      rw [q0] at z1
      rw [q1] at z2
      by_cases a0 : j = 0
      · rw [if_pos a0] at hB2
        rw [if_pos a0, hB2, xor1 ⟨o, ho2⟩] at z1
        dsimp only at z1
        split at z1 <;> omega
      · by_cases a1 : j = 1
        · rw [if_neg a0, if_pos a1] at hB2
          rw [if_pos a1, hB2] at z2
          cases last with
          | true =>
            rw [if_pos rfl, xor1 ⟨o, ho2⟩] at z2
            dsimp only at z2
            split at z2 <;> omega
          | false =>
            rw [if_neg (by simp), xor0 ⟨o, ho2⟩] at z2
            dsimp only at z2
            omega
        · rw [if_neg a0, if_neg a1] at hB2
          rw [hB2, xor0 ⟨o, ho2⟩] at z3
          dsimp only at z3
          have : ((((recL b last l).set j (o : Int)).take 8).drop 2).any (· != 0) = true := by
            rw [List.any_eq_true]
            refine ⟨(o : Int), ?_, by simpa using h0⟩
            rw [List.mem_iff_getElem?]
            refine ⟨j - 2, ?_⟩
            rw [List.getElem?_drop, List.getElem?_take_of_lt (by omega), show 2 + (j - 2) = j by omega, List.getElem?_set_self (by omega)]
          rw [this] at z3
          cases z3
theorem RecordKinds : reliquarylaw12_RecordKinds.Pure := by
  intro x l last at' over cut hx hl hlv hat hov
  have kx := wf_u64 hx
  have ku := wf_u8s hlv
  have kt := wf_u8 hat
  have ko := wf_u8 hov
  refine ⟨1000, ?_⟩
  unfold reliquarylaw12_RecordKinds.f
  have himg : lit1_reliquarylaw12_images.f 1000 x l false = some [⟨x, padV l 160⟩] := images_eq 1000 [⟨x, l⟩] false (by simp) (by simp)
  have hk : wrap64 (at'.tmod 8) = ((at' % 8).toNat : Nat) := by
    have : at'.tmod 8 = at' % 8 := Int.tmod_eq_emod_of_nonneg kt.1
    rw [this]; unfold wrap64; omega
  obtain ⟨j, hj⟩ : ∃ j, j = (at' % 8).toNat := ⟨_, rfl⟩
  have hj8 : j < 8 := by omega
  rw [← hj] at hk
  have hpl : (padV l 160).length = 160 := padV_length l 160
  have hpu : u8s (padV l 160) := by
    intro y hy
    unfold padV at hy
    rcases List.mem_append.1 hy with hy | hy
    · exact ku y (List.mem_of_mem_take hy)
    · have := List.eq_of_mem_replicate hy; omega
  rw [awake12_ok 1000 (by omega), Option.bind_some, if_pos rfl, himg, Option.bind_some, if_pos (by simp)]
  have hr0 : rd_T25 [(⟨x, padV l 160⟩ : S25)] 0 = ⟨x, padV l 160⟩ := rfl
  rw [hr0, record_Put_eq 1000 (by omega) x (padV l 160) last kx.1, if_pos hpl, Option.bind_some, if_pos rfl, hk]
  have hlen := recL_length x last (padV l 160) hpl
  have hru := recL_u8s x last (padV l 160) hpu
  have hb : rd (recL x last (padV l 160)) (j : Int) = 0 ∨ rd (recL x last (padV l 160)) (j : Int) = 1 := by
    rw [recL_head _ _ _ j hj8]
    by_cases a0 : j = 0
    · rw [if_pos a0]; exact .inr rfl
    · rw [if_neg a0]
      by_cases a1 : j = 1
      · rw [if_pos a1]; cases last <;> simp
      · rw [if_neg a1]; exact .inl rfl
  have hxr : 0 ≤ Go.bits .xor .u8 (rd (recL x last (padV l 160)) (j : Int)) over ∧ Go.bits .xor .u8 (rd (recL x last (padV l 160)) (j : Int)) over < 256 := by
    obtain ⟨o, rfl⟩ := Int.eq_ofNat_of_zero_le ko.1
    rcases hb with hb | hb
    · rw [hb]; exact xor_rng 0 ⟨o, by omega⟩
    · rw [hb]; exact xor_rng 1 ⟨o, by omega⟩
  have hsu := u8s_set hru j hxr
  have hform := formR_turn x last (padV l 160) hpl kx.1 kx.2 j hj8 over ko
  simp only [Option.bind_some]
  rw [if_pos (by omega), if_pos (by omega), Int.toNat_natCast]
  obtain ⟨S, hS⟩ : ∃ S, S = (recL x last (padV l 160)).set j (Go.bits .xor .u8 (rd (recL x last (padV l 160)) (j : Int)) over) := ⟨_, rfl⟩
  have hsl : S.length = 176 := by rw [hS, List.length_set, hlen]
  rw [← hS] at hform hsu ⊢
  cases cut with
  | true =>
    rw [if_pos rfl, if_pos (by omega), record_Get_eq 1000 (by omega) _ (fun y hy => hsu y (List.mem_of_mem_drop hy)) (by rw [List.length_drop]; omega), Option.bind_some]
    have : formR (S.drop 1) = (0, [], false, 11) := by
      unfold formR
      exact if_neg fun z => by have := z.1; rw [List.length_drop] at this; omega
    rw [this]
    rfl
  | false =>
    rw [if_neg (by simp), record_Get_eq 1000 (by omega) _ hsu (by omega), Option.bind_some]
    by_cases h0 : over = 0
    · rw [if_pos (.inl h0)] at hform
      rw [hform, h0]
      dsimp only
      rw [if_pos rfl, if_pos (by rfl), if_pos rfl]
      cases last <;> rfl
    · rw [if_neg h0]
      by_cases a1 : j = 1
      · rw [if_pos (show ((j : Nat) : Int) = 1 by omega)]
        by_cases h1 : over = 1
        · rw [if_pos (.inr ⟨a1, h1⟩)] at hform
          rw [hform, h1]
          dsimp only
          rw [if_pos (by rfl), if_pos rfl, if_pos rfl]
          cases last <;> rfl
        · rw [if_neg (fun z => z.elim h0 (fun y => h1 y.2))] at hform
          rw [hform]
          dsimp only
          rw [if_pos (by simp [h1]), if_neg h1]
      · rw [if_neg (fun z => z.elim h0 (fun y => a1 y.1))] at hform
        rw [if_neg (show ¬ ((j : Nat) : Int) = 1 by omega), hform]
        rfl
end Go.Proofs.Ytjpkjakdhbnehaa.Pure
