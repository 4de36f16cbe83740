/- EntriesUps: for every input the statement's function returns true; there is no further condition. Text 7 of 7: this session's texts, and of the words that print.sh has printed those that are needed, laid together by its own program (merge.py). Not trusted: Lean checks them. -/
import Derived.Test.YtkkflgdobgbmmaaMEntriesUps1
import Derived.Test.YtkkflgdobgbmmaaMEntriesUps2
import Derived.Test.YtkkflgdobgbmmaaMEntriesUps3
import Derived.Test.YtkkflgdobgbmmaaMEntriesUps4
import Derived.Test.YtkkflgdobgbmmaaMEntriesUps5
import Derived.Test.YtkkflgdobgbmmaaRows
import Derived.WalkKit
import Derived.ProofKit
import Derived.OpenShut
import Derived.ShutString
import Derived.ChangeOld
import Derived.Below
import Derived.SizedLaws
section
namespace Go.Proofs.Ytkkflgdobgbmmaa.Q
open Go.RowKit Go.Proofs.YtkkflgdobgbmmaaW.PrintWords Go.Proofs.YtkkflgdobgbmmaaW.PrintLast Go.Proofs.YtkkflgdobgbmmaaW.PrintMore
attribute [local go_sem] max2_int min2_int max_two min_two max_three min_three max_four min_four   -- for this text's walks alone
set_option linter.unusedVariables false
set_option linter.unusedSimpArgs false

end Go.Proofs.Ytkkflgdobgbmmaa.Q
end
section
namespace Go.Proofs.Ytkkflgdobgbmmaa.Q
open Go.RowKit Go.Proofs.YtkkflgdobgbmmaaW.PrintWords Go.Proofs.YtkkflgdobgbmmaaW.PrintLast Go.Proofs.YtkkflgdobgbmmaaW.PrintMore
attribute [local go_sem] max2_int min2_int max_two min_two max_three min_three max_four min_four   -- for this text's walks alone
set_option linter.unusedVariables false
set_option linter.unusedSimpArgs false

end Go.Proofs.Ytkkflgdobgbmmaa.Q
end
section
namespace Go.Proofs.Ytkkflgdobgbmmaa.Q
open Go.RowKit Go.Proofs.YtkkflgdobgbmmaaW.PrintWords Go.Proofs.YtkkflgdobgbmmaaW.PrintLast Go.Proofs.YtkkflgdobgbmmaaW.PrintMore
attribute [local go_sem] max2_int min2_int max_two min_two max_three min_three max_four min_four   -- for this text's walks alone
set_option linter.unusedVariables false
set_option linter.unusedSimpArgs false

end Go.Proofs.Ytkkflgdobgbmmaa.Q
end
section
namespace Go.Proofs.Ytkkflgdobgbmmaa.Q
open Go.RowKit Go.Proofs.YtkkflgdobgbmmaaW.PrintWords Go.Proofs.YtkkflgdobgbmmaaW.PrintLast Go.Proofs.YtkkflgdobgbmmaaW.PrintMore
attribute [local go_sem] max2_int min2_int max_two min_two max_three min_three max_four min_four   -- for this text's walks alone
set_option linter.unusedVariables false
set_option linter.unusedSimpArgs false

end Go.Proofs.Ytkkflgdobgbmmaa.Q
end
section
namespace Go.Proofs.Ytkkflgdobgbmmaa.Q
open Go.RowKit Go.Proofs.YtkkflgdobgbmmaaW.PrintWords Go.Proofs.YtkkflgdobgbmmaaW.PrintLast Go.Proofs.YtkkflgdobgbmmaaW.PrintMore
attribute [local go_sem] max2_int min2_int max_two min_two max_three min_three max_four min_four   -- for this text's walks alone
set_option linter.unusedVariables false
set_option linter.unusedSimpArgs false

end Go.Proofs.Ytkkflgdobgbmmaa.Q
end
section
/- Directories' bytes, read and written, and what is done with them: the program's, and the reference's. -/
namespace Go.Proofs.Ytkkflgdobgbmmaa.Pure
open Go.RowKit Go.Proofs.Ytkkflgdobgbmmaa.Q Go.Proofs.YtkkflgdobgbmmaaW.PrintWords Go.Proofs.YtkkflgdobgbmmaaW.PrintLast Go.Proofs.YtkkflgdobgbmmaaW.PrintMore
set_option linter.unusedVariables false
set_option linter.unusedSimpArgs false

/-! names that may be -/
def ckV (s : ByteArray) : Int := if s.size < 1 ∨ s.size > 24 ∨ s.data.toList.any badB = true ∨ s.toList = [46] ∨ s.toList = [46, 46] then 26 else 0
theorem check_eq (s : ByteArray) : entries_Check.f s = some (ckV s) := by
  unfold entries_Check.f ckV
  by_cases h1 : (s.size : Int) < 1
  · rw [if_pos h1, if_pos (Or.inl (by omega))]
  · rw [if_neg h1]
    by_cases h2 : (s.size : Int) > 24
    · rw [if_pos h2, if_pos (Or.inr (Or.inl (by omega)))]
    · have hc : strings_ContainsAny.f s (⟨#[47, 0]⟩ : ByteArray) = some (s.data.toList.any badB) := by unfold strings_ContainsAny.f; rw [if_pos ⟨by omega, rfl⟩]
      rw [if_neg h2, hc, Option.bind_some]
      have h3 : ¬ s.size < 1 := by omega
      have h4 : ¬ s.size > 24 := by omega
      by_cases h5 : s.data.toList.any badB = true
      · rw [if_pos h5, if_pos (Or.inr (Or.inr (Or.inl h5)))]
      · rw [if_neg h5]
        by_cases h6 : s.toList = [46]
        · rw [if_pos h6, if_pos (Or.inr (Or.inr (Or.inr (Or.inl h6))))]
        · rw [if_neg h6]
          by_cases h7 : s.toList = [46, 46]
          · rw [if_pos h7, if_pos (Or.inr (Or.inr (Or.inr (Or.inr h7))))]
          · rw [if_neg h7, if_neg (by rintro (h | h | h | h | h) <;> contradiction)]
theorem data_len (s : ByteArray) : s.data.toList.length = s.size := by rw [Array.length_toList]; rfl
theorem ckV_cases (s : ByteArray) : ckV s = 26 ∨ ckV s = 0 := by unfold ckV; split <;> simp
theorem ckV_zero {s : ByteArray} (h : ckV s = 0) : 1 ≤ s.size ∧ s.size ≤ 24 ∧ s.toList ≠ [46, 46] := by
  unfold ckV at h
  split at h
  · cases h
  · rename_i c
    refine ⟨?_, ?_, ?_⟩
    · exact Nat.le_of_not_lt fun e => c (Or.inl e)
    · exact Nat.le_of_not_lt fun e => c (Or.inr (Or.inl e))
    · exact fun e => c (Or.inr (Or.inr (Or.inr (Or.inr e))))

/-! strings of bytes -/
theorem str_ext {a b : ByteArray} (h : a.data.toList = b.data.toList) : a = b := by
  cases a; cases b; congr 1; exact Array.toList_inj.mp h
theorem str_size (x : List Int) : (strOfNums x).size = x.length := by rw [← data_len, strOfNums_data, List.length_map]
theorem bytesOf_u8s (s : ByteArray) : u8s (bytesOf s) := by
  intro v hv
  unfold bytesOf at hv
  obtain ⟨b, -, rfl⟩ := List.mem_map.mp hv
  have := b.toNat_lt
  omega
theorem str_bytesOf (s : ByteArray) : strOfNums (bytesOf s) = s := by
  apply str_ext
  rw [strOfNums_data]
  unfold bytesOf
  rw [List.map_map]
  have : ∀ l : List UInt8, l.map ((fun n : Int => UInt8.ofNat n.toNat) ∘ fun b : UInt8 => (b.toNat : Int)) = l := by
    intro l
    induction l with
    | nil => rfl
    | cons a l ih => rw [List.map_cons, ih]; congr 1; simp
  exact this _
theorem u8s_append {x y : List Int} (hx : u8s x) (hy : u8s y) : u8s (x ++ y) := fun v hv => (List.mem_append.mp hv).elim (hx v) (hy v)
theorem u8s_drop {l : List Int} (h : u8s l) (n : Nat) : u8s (l.drop n) := fun x hx => h x (List.mem_of_mem_drop hx)

/-! pieces -/
theorem pieceL_len (nm : List Int) (n : Int) : (pieceL nm n).length = 32 := by unfold pieceL; rw [padV_length]; rfl
theorem leb2 (n : Int) : lebytes 2 n = [n % 256, n / 256 % 256] := rfl
theorem padV_u8s {l : List Int} (h : u8s l) (n : Int) : u8s (padV l n) := by
  unfold padV
  exact u8s_append (u8s_take h _) (fun v hv => by rw [List.eq_of_mem_replicate hv]; omega)
theorem pieceL_u8s (nm : List Int) (h : u8s nm) (n : Int) : u8s (pieceL nm n) := by
  unfold pieceL
  refine padV_u8s (u8s_append (u8s_append (lebytes_u8s _ _) ?_) h) _
  intro v hv
  rw [List.mem_singleton.mp hv]
  omega
theorem epiece_eq (nm : ByteArray) (n : Int) (h0 : 0 ≤ n) (h1 : n < 65536) (hs : nm.size ≤ 29) : entries_piece.f nm n = some (pieceL (bytesOf nm) n) := by
  unfold entries_piece.f
  rw [if_pos (by omega)]

/-! a piece's parts -/
theorem pieceL_form (nm : List Int) (n : Int) (h : nm.length ≤ 24) : pieceL nm n = [n % 256, n / 256 % 256, (nm.length : Int)] ++ nm ++ List.replicate (29 - nm.length) 0 := by
  unfold pieceL padV
  have hl : (lebytes 2 n ++ [(nm.length : Int) % 256] ++ nm).length = 3 + nm.length := by rw [List.length_append, List.length_append, lebytes_length]; rfl
  rw [show (32 : Int).toNat = 32 from rfl, List.take_of_length_le (by omega), hl, show 32 - (3 + nm.length) = 29 - nm.length by omega, leb2, show (nm.length : Int) % 256 = nm.length by omega]
  rfl
theorem pcL_piece (nm : List Int) (n : Int) (h : nm.length ≤ 24) : pcL (pieceL nm n) = nm.length := by
  unfold pcL
  rw [pieceL_form nm n h]
  rfl
theorem pcN_piece (nm : List Int) (n : Int) (h : nm.length ≤ 24) (h0 : 0 ≤ n) (h1 : n < 65536) : pcN (pieceL nm n) = n := by
  unfold pcN
  rw [pieceL_form nm n h]
  show leval [n % 256, n / 256 % 256] = n
  simp only [leval]
  omega
theorem pcE_piece (nm : ByteArray) (n : Int) (h : nm.size ≤ 24) (h0 : 0 ≤ n) (h1 : n < 65536) : pcE (pieceL (bytesOf nm) n) = ⟨nm, n⟩ := by
  have hb := bytesOf_length nm
  unfold pcE
  rw [pcL_piece _ n (by omega), pcN_piece _ n (by omega) h0 h1, Int.toNat_natCast, pieceL_form _ n (by omega)]
  congr 1
  rw [List.append_assoc, List.drop_append_of_le_length (by simp), show ([n % 256, n / 256 % 256, ((bytesOf nm).length : Int)]).drop 3 = [] from rfl, List.nil_append, List.take_left', str_bytesOf]
  rfl

/-! entries -/
/-- What an entry that was read is. -/
structure EntOk (x : S28) : Prop where
  lo : 0 ≤ x.f1
  hi : x.f1 < 65536
  nm : x.f0.size ≤ 24
  fr : x.f1 = 0 ↔ x.f0.size = 0
theorem rd28 (l : List S28) (i : Nat) (h : i < l.length) : rd_T28 l (i : Int) = l[i] := by simp [rd_T28, List.getD_eq_getElem?_getD, List.getElem?_eq_getElem h]
def pieceOf (x : S28) : List Int := pieceL (bytesOf x.f0) x.f1
def bytesL (l : List S28) : List Int := l.flatMap pieceOf
theorem bytesL_length (l : List S28) : (bytesL l).length = 32 * l.length := by
  unfold bytesL
  induction l with
  | nil => rfl
  | cons x l ih => rw [List.flatMap_cons, List.length_append, ih, List.length_cons, pieceOf, pieceL_len]; omega
theorem bytesL_append (l m : List S28) : bytesL (l ++ m) = bytesL l ++ bytesL m := List.flatMap_append
theorem bytesL_one (x : S28) : bytesL [x] = pieceOf x := by simp [bytesL]
theorem bytesL_u8s (l : List S28) : u8s (bytesL l) := by
  intro v hv
  obtain ⟨x, -, h⟩ := List.mem_flatMap.mp hv
  exact pieceL_u8s _ (bytesOf_u8s _) _ v h
theorem bytesL_snoc (l : List S28) (i : Nat) (h : i < l.length) : bytesL (l.take (i + 1)) = bytesL (l.take i) ++ pieceOf l[i] := by
  rw [List.take_succ_eq_append_getElem h, bytesL_append, bytesL_one]
theorem bytes_loop (l : List S28) (hl : l.length ≤ 1000000) (ho : ∀ x ∈ l, 0 ≤ x.f1 ∧ x.f1 < 65536 ∧ x.f0.size ≤ 24) (d : Nat) : ∀ (k i : Nat), l.length - i = d → i ≤ l.length → d < k →
    entries_bytes.l0 k (bytesL (l.take i)) l (l.length : Int) i = some (bytesL l) := by
  induction d with
  | zero =>
    intro k i hd hi hk
    obtain ⟨k, rfl⟩ : ∃ m, k = m + 1 := ⟨k - 1, by omega⟩
    simp only [entries_bytes.l0]
    rw [if_neg (by omega), List.take_of_length_le (by omega)]
  | succ d ih =>
    intro k i hd hi hk
    obtain ⟨k, rfl⟩ : ∃ m, k = m + 1 := ⟨k - 1, by omega⟩
    have hil : i < l.length := by omega
    have hx := ho l[i] (List.getElem_mem hil)
    simp only [entries_bytes.l0]
    rw [if_pos (by omega), if_pos (by omega), if_pos (by omega), rd28 l i hil, epiece_eq _ _ hx.1 hx.2.1 (by omega), Option.bind_some, if_pos (by rw [bytesL_length, List.length_take, pieceL_len]; omega), wrap64_id (by omega) (by omega)]
    have := ih k (i + 1) (by omega) (by omega) (by omega)
    rw [bytesL_snoc l i hil] at this
    exact this
theorem bytes_eq (k : Nat) (l : List S28) (hl : l.length ≤ 1000000) (hk : l.length < k) (ho : ∀ x ∈ l, 0 ≤ x.f1 ∧ x.f1 < 65536 ∧ x.f0.size ≤ 24) : entries_bytes.f k l = some (bytesL l) := by
  unfold entries_bytes.f
  exact bytes_loop l hl ho l.length k 0 (by omega) (by omega) hk
end Go.Proofs.Ytkkflgdobgbmmaa.Pure
end
section
namespace Go.Proofs.Ytkkflgdobgbmmaa.Q
open Go.RowKit Go.Proofs.YtkkflgdobgbmmaaW.PrintWords Go.Proofs.YtkkflgdobgbmmaaW.PrintLast Go.Proofs.YtkkflgdobgbmmaaW.PrintMore
attribute [local go_sem] max2_int min2_int max_two min_two max_three min_three max_four min_four   -- for this text's walks alone
set_option linter.unusedVariables false
set_option linter.unusedSimpArgs false

end Go.Proofs.Ytkkflgdobgbmmaa.Q
end
section
namespace Go.Proofs.Ytkkflgdobgbmmaa.Q
open Go.RowKit Go.Proofs.YtkkflgdobgbmmaaW.PrintWords Go.Proofs.YtkkflgdobgbmmaaW.PrintLast Go.Proofs.YtkkflgdobgbmmaaW.PrintMore
attribute [local go_sem] max2_int min2_int max_two min_two max_three min_three max_four min_four   -- for this text's walks alone
set_option linter.unusedVariables false
set_option linter.unusedSimpArgs false

end Go.Proofs.Ytkkflgdobgbmmaa.Q
end
section
namespace Go.Proofs.Ytkkflgdobgbmmaa.Q
open Go.RowKit Go.Proofs.YtkkflgdobgbmmaaW.PrintWords Go.Proofs.YtkkflgdobgbmmaaW.PrintLast Go.Proofs.YtkkflgdobgbmmaaW.PrintMore
attribute [local go_sem] max2_int min2_int max_two min_two max_three min_three max_four min_four   -- for this text's walks alone
set_option linter.unusedVariables false
set_option linter.unusedSimpArgs false

end Go.Proofs.Ytkkflgdobgbmmaa.Q
end
section
namespace Go.Proofs.Ytkkflgdobgbmmaa.Q
open Go.RowKit Go.Proofs.YtkkflgdobgbmmaaW.PrintWords Go.Proofs.YtkkflgdobgbmmaaW.PrintLast Go.Proofs.YtkkflgdobgbmmaaW.PrintMore
attribute [local go_sem] max2_int min2_int max_two min_two max_three min_three max_four min_four   -- for this text's walks alone
set_option linter.unusedVariables false
set_option linter.unusedSimpArgs false

end Go.Proofs.Ytkkflgdobgbmmaa.Q
end
section
namespace Go.Proofs.Ytkkflgdobgbmmaa.Q
open Go.RowKit Go.Proofs.YtkkflgdobgbmmaaW.PrintWords Go.Proofs.YtkkflgdobgbmmaaW.PrintLast Go.Proofs.YtkkflgdobgbmmaaW.PrintMore
attribute [local go_sem] max2_int min2_int max_two min_two max_three min_three max_four min_four   -- for this text's walks alone
set_option linter.unusedVariables false
set_option linter.unusedSimpArgs false

end Go.Proofs.Ytkkflgdobgbmmaa.Q
end
section
/- Directories' bytes: what is read, and what is done, by the program and by the reference. -/
namespace Go.Proofs.Ytkkflgdobgbmmaa.Pure
open Go.RowKit Go.Proofs.Ytkkflgdobgbmmaa.Q Go.Proofs.YtkkflgdobgbmmaaW.PrintWords Go.Proofs.YtkkflgdobgbmmaaW.PrintLast Go.Proofs.YtkkflgdobgbmmaaW.PrintMore
set_option linter.unusedVariables false
set_option linter.unusedSimpArgs false

/-! one piece -/
theorem pcOf_length (l : List Int) (i : Nat) (h : 32 * i + 32 ≤ l.length) : (pcOf l i).length = 32 := by unfold pcOf; rw [List.length_take, List.length_drop]; omega
theorem pc_u8s {l : List Int} (hu : u8s l) (i : Nat) : u8s (pcOf l i) := u8s_take (u8s_drop hu _) _
theorem pc_parts (p : List Int) (hp : p.length = 32) (hu : u8s p) : pcN p = rd p ((0 : Nat) : Int) + 256 * rd p ((1 : Nat) : Int) ∧ pcL p = rd p ((2 : Nat) : Int) ∧ (0 ≤ rd p ((0 : Nat) : Int) ∧ rd p ((0 : Nat) : Int) < 256) ∧ (0 ≤ rd p ((1 : Nat) : Int) ∧ rd p ((1 : Nat) : Int) < 256) ∧ 0 ≤ rd p ((2 : Nat) : Int) ∧ rd p ((2 : Nat) : Int) < 256 := by
  match p, hp, hu with
  | a :: b :: c :: r, _, hu =>
    have ha := hu a (by simp)
    have hb := hu b (by simp)
    have hc := hu c (by simp)
    have e0 : rd (a :: b :: c :: r) ((0 : Nat) : Int) = a := rfl
    have e1 : rd (a :: b :: c :: r) ((1 : Nat) : Int) = b := rfl
    have e2 : rd (a :: b :: c :: r) ((2 : Nat) : Int) = c := rfl
    rw [e0, e1, e2]
    refine ⟨?_, rfl, ha, hb, hc.1, hc.2⟩
    unfold pcN
    show leval [a, b] = _
    simp only [leval]
    omega
theorem pcE_ok (p : List Int) (hp : p.length = 32) (hu : u8s p) (h : pcOk p = true) : EntOk (pcE p) := by
  obtain ⟨e1, e2, h1, h2, h3, h4⟩ := pc_parts p hp hu
  unfold pcOk at h
  rw [Bool.and_eq_true, Bool.and_eq_true, decide_eq_true_eq] at h
  have hk := h.1.1
  have hz : (pcN p = 0) ↔ (pcL p = 0) := by
    have := beq_iff_eq.mp h.1.2
    constructor
    · intro e; rw [decide_eq_true e] at this; exact of_decide_eq_true this.symm
    · intro e; rw [decide_eq_true e] at this; exact of_decide_eq_true this
  have hs : (pcE p).f0.size = (pcL p).toNat := by
    unfold pcE
    rw [str_size, List.length_take, List.length_drop, hp]
    omega
  refine ⟨?_, ?_, ?_, ?_⟩
  · show 0 ≤ pcN p; omega
  · show pcN p < 65536; omega
  · rw [hs]; omega
  · rw [hs]
    show pcN p = 0 ↔ _
    omega
theorem stepE_ok {acc acc' : List S28} {p : List Int} (hp : p.length = 32) (hu : u8s p) (ha : ∀ x ∈ acc, EntOk x) (h : stepE acc p = some acc') : (∀ x ∈ acc', EntOk x) ∧ acc'.length = acc.length + 1 := by
  unfold stepE at h
  split at h
  · rename_i c
    injection h with h
    subst h
    refine ⟨fun x hx => ?_, by rw [List.length_append]; rfl⟩
    rcases List.mem_append.mp hx with hx | hx
    · exact ha x hx
    · rw [List.mem_singleton.mp hx]
      exact pcE_ok p hp hu c.1
  · cases h
theorem fold_ok (l : List Int) (hu : u8s l) : ∀ (ps : List (List Int)) (acc out : List S28), (∀ p ∈ ps, p.length = 32 ∧ u8s p) → (∀ x ∈ acc, EntOk x) → ps.foldlM stepE acc = some out → ∀ x ∈ out, EntOk x
  | [], acc, out, _, ha, h => by injection h with h; subst h; exact ha
  | p :: ps, acc, out, hps, ha, h => by
    rw [List.foldlM_cons] at h
    obtain ⟨c, h1, h2⟩ := Option.bind_eq_some_iff.mp h
    have hp := hps p (List.mem_cons_self ..)
    exact fold_ok l hu ps c out (fun q hq => hps q (List.mem_cons_of_mem _ hq)) (stepE_ok hp.1 hp.2 ha h1).1 h2
theorem chunks_mem (l : List Int) (hu : u8s l) : ∀ p ∈ chunksOf l, p.length = 32 ∧ u8s p := by
  intro p hp
  unfold chunksOf at hp
  obtain ⟨i, hi, rfl⟩ := List.mem_map.mp hp
  have := List.mem_range.mp hi
  exact ⟨pcOf_length l i (by omega), pc_u8s hu i⟩
theorem readV_ok (l : List Int) (hu : u8s l) : (∀ x ∈ (readV l).1, EntOk x) ∧ 32 * (readV l).1.length ≤ l.length := by
  unfold readV
  split
  · unfold readM
    split
    · rename_i out h
      refine ⟨fold_ok l hu _ [] out (chunks_mem l hu) (fun x hx => by cases hx) h, ?_⟩
      have := readGo_length _ _ h
      have hcl : (chunksOf l).length = l.length / 32 := by unfold chunksOf; rw [List.length_map, List.length_range]
      show 32 * out.length ≤ _
      omega
    · exact ⟨fun x hx => (by cases hx), Nat.zero_le _⟩
  · exact ⟨fun x hx => (by cases hx), Nat.zero_le _⟩
theorem eread_eq (l : List Int) (hu : u8s l) (hl : l.length ≤ 1000000) : entries_read.f l = some (readV l) := by unfold entries_read.f; rw [if_pos ⟨by omega, hu⟩]
theorem eat_eq (l : List S28) (nm : ByteArray) : entries_at.f l nm = some (findAt (hitE nm) 0 l) := rfl

/-! what was written is read -/
structure DirOk (l : List S28) : Prop where
  ok : ∀ x ∈ l, EntOk x
  ap : l.Pairwise fun x y => y.f1 ≠ 0 → x.f0 ≠ y.f0
theorem pcOf_bytes (l : List S28) (i : Nat) (h : i < l.length) : pcOf (bytesL l) i = pieceOf l[i] := by
  have h1 : bytesL l = bytesL (l.take i) ++ (pieceOf l[i] ++ bytesL (l.drop (i + 1))) := by
    rw [← bytesL_one, ← bytesL_append, ← bytesL_append, List.singleton_append, ← List.drop_eq_getElem_cons h, List.take_append_drop]
  have h2 : (bytesL (l.take i)).length = 32 * i := by rw [bytesL_length, List.length_take]; omega
  unfold pcOf
  rw [h1, List.drop_append_of_le_length (by omega), List.drop_eq_nil_of_le (by omega), List.nil_append, List.take_append_of_le_length (by rw [pieceOf, pieceL_len]; exact Nat.le_refl _), List.take_of_length_le (by rw [pieceOf, pieceL_len]; exact Nat.le_refl _)]
theorem chunks_bytes (l : List S28) : chunksOf (bytesL l) = l.map pieceOf := by
  unfold chunksOf
  rw [bytesL_length, Nat.mul_div_cancel_left _ (by decide)]
  apply List.ext_getElem
  · simp
  · intro i h1 h2
    rw [List.length_map] at h2
    rw [List.getElem_map, List.getElem_map, List.getElem_range, pcOf_bytes l i h2]
theorem pcOk_piece (x : S28) (h : EntOk x) : pcOk (pieceOf x) = true := by
  have hb := bytesOf_length x.f0
  have hn := h.nm
  unfold pcOk pieceOf
  rw [pcE_piece _ _ h.nm h.lo h.hi, pcL_piece _ _ (by omega), pcN_piece _ _ (by omega) h.lo h.hi, hb, decide_eq_true (by omega : ((x.f0.size : Nat) : Int) ≤ 24), beq_self_eq_true, Bool.true_and, Bool.and_true, beq_iff_eq]
  apply decide_eq_decide.mpr
  have := h.fr
  omega
theorem fold_bytes : ∀ (l acc : List S28), (∀ x ∈ l, EntOk x) → (acc ++ l).Pairwise (fun x y => y.f1 ≠ 0 → x.f0 ≠ y.f0) → (l.map pieceOf).foldlM stepE acc = some (acc ++ l)
  | [], acc, _, _ => by rw [List.append_nil]; rfl
  | x :: l, acc, ho, hp => by
    have hx := ho x (List.mem_cons_self ..)
    rw [List.map_cons, List.foldlM_cons]
    have hE : pcE (pieceOf x) = x := by unfold pieceOf; rw [pcE_piece _ _ hx.nm hx.lo hx.hi]
    have hN : pcN (pieceOf x) = x.f1 := by unfold pieceOf; rw [pcN_piece _ _ (by rw [bytesOf_length]; exact hx.nm) hx.lo hx.hi]
    have hst : stepE acc (pieceOf x) = some (acc ++ [x]) := by
      unfold stepE
      rw [hE, hN, if_pos]
      refine ⟨pcOk_piece x hx, fun hne => ?_⟩
      apply Bool.eq_false_iff.mpr
      intro e
      obtain ⟨z, hz, he⟩ := List.any_eq_true.mp e
      obtain ⟨y, hy, rfl⟩ := List.mem_map.mp hz
      have := (List.pairwise_append.mp hp).2.2 y hy x (List.mem_cons_self ..) hne
      exact this (str_ext (beq_iff_eq.mp he))
    rw [hst]
    have := fold_bytes l (acc ++ [x]) (fun y hy => ho y (List.mem_cons_of_mem _ hy)) (by rw [List.append_assoc]; exact hp)
    rw [List.append_assoc] at this
    exact this
theorem read_bytes (l : List S28) (h : DirOk l) : readV (bytesL l) = (l, 0) := by
  unfold readV readM readGo
  rw [bytesL_length, if_pos (by omega), chunks_bytes, fold_bytes l [] h.ok (by rw [List.nil_append]; exact h.ap), List.nil_append]
end Go.Proofs.Ytkkflgdobgbmmaa.Pure
end
section
/- What is done with directories' bytes: by the program and by the reference, in one form. -/
namespace Go.Proofs.Ytkkflgdobgbmmaa.Pure
open Go.RowKit Go.Proofs.Ytkkflgdobgbmmaa.Q Go.Proofs.YtkkflgdobgbmmaaW.PrintWords Go.Proofs.YtkkflgdobgbmmaaW.PrintLast Go.Proofs.YtkkflgdobgbmmaaW.PrintMore
set_option linter.unusedVariables false
set_option linter.unusedSimpArgs false

theorem findAt_bd (p : S28 → Bool) : ∀ (l : List S28) (i : Nat), findAt p i l = -1 ∨ ((i : Int) ≤ findAt p i l ∧ findAt p i l < (i : Int) + l.length)
  | [], i => Or.inl rfl
  | x :: l, i => by
    rw [findAt, List.length_cons]
    by_cases h : p x = true
    · rw [if_pos h]; right; omega
    · rw [if_neg h]
      rcases findAt_bd p l (i + 1) with h | h
      · exact Or.inl h
      · right; omega
/-! Find -/
def findV (l : List Int) (nm : ByteArray) : Int × Int :=
  if (readV l).2 ≠ 0 then (0, (readV l).2) else if findAt (hitE nm) 0 (readV l).1 < 0 then (0, 21) else ((rd_T28 (readV l).1 (findAt (hitE nm) 0 (readV l).1)).f1, 0)
theorem found_eq (l : List Int) (nm : ByteArray) (hu : u8s l) (hl : l.length ≤ 1000000) : entries_found.f l nm = some (if (readV l).2 ≠ 0 then ([], 0, (readV l).2) else if findAt (hitE nm) 0 (readV l).1 < 0 then ([], 0, 21) else ((readV l).1, findAt (hitE nm) 0 (readV l).1, 0)) := by
  unfold entries_found.f
  rw [eread_eq l hu hl, Option.bind_some]
  by_cases h : (readV l).2 = 0
  · rw [if_pos h, eat_eq, Option.bind_some, if_neg (fun e : (readV l).2 ≠ 0 => e h)]
    by_cases h2 : findAt (hitE nm) 0 (readV l).1 < 0
    · rw [if_pos h2, if_pos h2]
    · rw [if_neg h2, if_neg h2]
  · rw [if_neg h, if_pos h]
theorem find_eq (l : List Int) (nm : ByteArray) (hu : u8s l) (hl : l.length ≤ 1000000) : entries_Find.f l nm = some (findV l nm) := by
  unfold entries_Find.f findV
  rw [found_eq l nm hu hl, Option.bind_some]
  by_cases h : (readV l).2 = 0
  · rw [if_neg (fun e : (readV l).2 ≠ 0 => e h), if_neg (fun e : (readV l).2 ≠ 0 => e h)]
    have hb := findAt_bd (hitE nm) (readV l).1 0
    by_cases h2 : findAt (hitE nm) 0 (readV l).1 < 0
    · rw [if_pos h2, if_pos h2, if_neg (by decide)]
    · rw [if_neg h2, if_neg h2]
      show (if (0 : Int) = 0 then (if 0 ≤ findAt (hitE nm) 0 (readV l).1 then (if findAt (hitE nm) 0 (readV l).1 < ((readV l).1.length : Int) then _ else none) else none) else _) = _
      rw [if_pos rfl, if_pos (by omega), if_pos (by omega)]
  · rw [if_pos h, if_pos h]
    show (if (readV l).2 = 0 then _ else _) = _
    rw [if_neg h]
/-! Insert -/
def freeAt (l : List S28) : Int := findAt (fun x => x.f1 == 0) 0 l
def putFree (l : List S28) (x : S28) : List S28 := if freeAt l < 0 then l ++ [x] else l.set (freeAt l).toNat x
def insV (l : List Int) (nm : ByteArray) (n : Int) : List Int × Int :=
  if ckV nm ≠ 0 then ([], ckV nm) else if ¬ (1 ≤ n ∧ n < 65536) then ([], 1) else if (readV l).2 ≠ 0 then ([], (readV l).2) else
    if 0 ≤ findAt (hitE nm) 0 (readV l).1 then ([], 22) else (bytesL (putFree (readV l).1 ⟨nm, n⟩), 0)
theorem number_eq (n : Int) : entries_number.f n = some (decide (1 ≤ n ∧ n < 65536)) := by
  unfold entries_number.f
  by_cases h : n ≥ 1
  · rw [if_pos h]; congr 1; simp; omega
  · rw [if_neg h]; congr 1; symm; simp; omega
theorem free_loop (l : List S28) (hl : l.length ≤ 1000000) (d : Nat) : ∀ (k i : Nat), l.length - i = d → i ≤ l.length → d < k →
    entries_Entry_31_at_entries_Insert_lit1.l0 k l (l.length : Int) i = some (findAt (fun x => x.f1 == 0) i (l.drop i)) := by
  induction d with
  | zero =>
    intro k i hd hi hk
    obtain ⟨k, rfl⟩ : ∃ m, k = m + 1 := ⟨k - 1, by omega⟩
    simp only [entries_Entry_31_at_entries_Insert_lit1.l0]
    rw [if_neg (by omega), List.drop_eq_nil_of_le (by omega), findAt]
  | succ d ih =>
    intro k i hd hi hk
    obtain ⟨k, rfl⟩ : ∃ m, k = m + 1 := ⟨k - 1, by omega⟩
    have hil : i < l.length := by omega
    simp only [entries_Entry_31_at_entries_Insert_lit1.l0]
    rw [if_pos (by omega), if_pos (by omega), if_pos (by omega), rd28 l i hil, wrap64_id (by omega) (by omega), List.drop_eq_getElem_cons hil, findAt]
    show (if (l[i].f1 == 0) = true then _ else _) = _
    by_cases c : (l[i].f1 == 0) = true
    · rw [if_pos c, if_pos c]
    · rw [if_neg c, if_neg c]
      exact ih k (i + 1) (by omega) (by omega) (by omega)
theorem free_eq (k : Nat) (l : List S28) (hl : l.length ≤ 1000000) (hk : l.length < k) : entries_Entry_31_at_entries_Insert_lit1.f k l = some (freeAt l) := by
  unfold entries_Entry_31_at_entries_Insert_lit1.f
  exact free_loop l hl l.length k 0 (by omega) (by omega) hk
def Small (l : List S28) : Prop := ∀ x ∈ l, 0 ≤ x.f1 ∧ x.f1 < 65536 ∧ x.f0.size ≤ 24
theorem small_of {l : List S28} (h : ∀ x ∈ l, EntOk x) : Small l := fun x hx => ⟨(h x hx).lo, (h x hx).hi, (h x hx).nm⟩
theorem small_set {l : List S28} (h : Small l) (i : Nat) {x : S28} (hx : 0 ≤ x.f1 ∧ x.f1 < 65536 ∧ x.f0.size ≤ 24) : Small (l.set i x) := fun y hy => by
  rcases List.mem_or_eq_of_mem_set hy with hy | rfl
  · exact h y hy
  · exact hx
theorem small_append {l : List S28} (h : Small l) {x : S28} (hx : 0 ≤ x.f1 ∧ x.f1 < 65536 ∧ x.f0.size ≤ 24) : Small (l ++ [x]) := fun y hy => by
  rcases List.mem_append.mp hy with hy | hy
  · exact h y hy
  · rw [List.mem_singleton.mp hy]; exact hx
theorem insert_eq (k : Nat) (l : List Int) (nm : ByteArray) (n : Int) (hu : u8s l) (hl : l.length ≤ 1000000) (hk : l.length + 200 ≤ k) : entries_Insert.f k l nm n = some (insV l nm n) := by
  unfold entries_Insert.f insV
  rw [check_eq, Option.bind_some]
  by_cases h1 : ckV nm = 0
  · have hnm := ckV_zero h1
    rw [if_pos h1, if_neg (fun e : ckV nm ≠ 0 => e h1), number_eq, Option.bind_some]
    by_cases h2 : 1 ≤ n ∧ n < 65536
    · rw [if_pos (decide_eq_true h2), if_neg (fun e : ¬ (1 ≤ n ∧ n < 65536) => e h2), eread_eq l hu hl, Option.bind_some]
      by_cases h3 : (readV l).2 = 0
      · have hok := readV_ok l hu
        have hsm := small_of hok.1
        rw [if_pos h3, if_neg (fun e : (readV l).2 ≠ 0 => e h3), eat_eq, Option.bind_some]
        by_cases h4 : 0 ≤ findAt (hitE nm) 0 (readV l).1
        · rw [if_pos h4, if_pos h4]
        · rw [if_neg h4, if_neg h4, free_eq k _ (by omega) (by omega), Option.bind_some]
          have hb := findAt_bd (fun x => x.f1 == 0) (readV l).1 0
          unfold putFree
          by_cases h5 : freeAt (readV l).1 < 0
          · rw [if_pos h5, if_pos h5, if_pos (by omega), bytes_eq k _ (by rw [List.length_append]; show _ + 1 ≤ _; omega) (by rw [List.length_append]; show _ + 1 < _; omega) (small_append hsm ⟨by show 0 ≤ n; omega, by show n < _; omega, hnm.2.1⟩), Option.bind_some]
          · rw [if_neg h5, if_neg h5, if_pos (by omega), if_pos (by unfold freeAt at h5 ⊢; omega), bytes_eq k _ (by rw [List.length_set]; omega) (by rw [List.length_set]; omega) (small_set hsm _ ⟨by show 0 ≤ n; omega, by show n < _; omega, hnm.2.1⟩), Option.bind_some]
      · rw [if_neg h3, if_pos h3]
    · rw [if_neg (by rw [decide_eq_false h2]; decide), if_pos h2]
  · rw [if_neg h1, if_pos h1]
/-! Remove -/
/-- The last free ones are cut off. -/
def trim (l : List S28) : List S28 := (l.reverse.dropWhile fun x => x.f1 == 0).reverse
theorem trim_snoc (l : List S28) (x : S28) : trim (l ++ [x]) = if x.f1 = 0 then trim l else l ++ [x] := by
  unfold trim
  rw [List.reverse_append, List.reverse_singleton, List.singleton_append, List.dropWhile_cons]
  by_cases h : x.f1 = 0
  · rw [if_pos (beq_iff_eq.mpr h), if_pos h]
  · rw [if_neg (fun e => h (beq_iff_eq.mp e)), if_neg h, List.reverse_cons, List.reverse_reverse]
theorem trim_take (l : List S28) (i : Nat) (h : i < l.length) : trim (l.take (i + 1)) = if l[i].f1 = 0 then trim (l.take i) else l.take (i + 1) := by
  rw [List.take_succ_eq_append_getElem h, trim_snoc]
def remV (l : List Int) (nm : ByteArray) : List Int × Int :=
  if ckV nm ≠ 0 then ([], ckV nm) else if (readV l).2 ≠ 0 then ([], (readV l).2) else
    if findAt (hitE nm) 0 (readV l).1 < 0 then ([], 21) else (bytesL (trim ((readV l).1.set (findAt (hitE nm) 0 (readV l).1).toNat ⟨⟨#[]⟩, 0⟩)), 0)
theorem rem_loop (l : List S28) (hl : l.length ≤ 100000) (hs : Small l) : ∀ (n k : Nat), n ≤ l.length → n + l.length + 100 < k → entries_Remove.l0 k (l.take n) = some (bytesL (trim (l.take n)), 0) := by
  intro n
  induction n with
  | zero =>
    intro k hn hk
    obtain ⟨k, rfl⟩ : ∃ m, k = m + 1 := ⟨k - 1, by omega⟩
    simp only [entries_Remove.l0]
    rw [List.take_zero, if_neg (by simp), bytes_eq k [] (by simp) (by simp; omega) (fun x hx => by cases hx), Option.bind_some]
    rfl
  | succ n ih =>
    intro k hn hk
    obtain ⟨k, rfl⟩ : ∃ m, k = m + 1 := ⟨k - 1, by omega⟩
    have hlen : (l.take (n + 1)).length = n + 1 := by rw [List.length_take]; omega
    simp only [entries_Remove.l0]
    rw [hlen, if_pos (by omega), wrap64_id (by omega) (by omega), if_pos (by omega), if_pos (by omega), show ((n + 1 : Nat) : Int) - 1 = (n : Int) by omega, rd28 _ n (by omega), List.getElem_take, Int.toNat_natCast, List.take_take, Nat.min_eq_left (by omega), trim_take l n (by omega)]
    by_cases c : (l[n]'(by omega)).f1 = 0
    · rw [if_pos c, if_pos c, if_pos (by omega)]
      exact ih k (by omega) (by omega)
    · rw [if_neg c, if_neg c, bytes_eq k _ (by omega) (by omega) (fun x hx => hs x (List.mem_of_mem_take hx)), Option.bind_some]
theorem remove_eq (k : Nat) (l : List Int) (nm : ByteArray) (hu : u8s l) (hl : l.length ≤ 100000) (hk : 2 * l.length + 200 ≤ k) : entries_Remove.f k l nm = some (remV l nm) := by
  unfold entries_Remove.f remV
  rw [check_eq, Option.bind_some]
  by_cases h1 : ckV nm = 0
  · rw [if_pos h1, if_neg (fun e : ckV nm ≠ 0 => e h1), found_eq l nm hu (by omega), Option.bind_some]
    by_cases h3 : (readV l).2 = 0
    · have hok := readV_ok l hu
      have hsm := small_of hok.1
      have hb := findAt_bd (hitE nm) (readV l).1 0
      rw [if_neg (fun e : (readV l).2 ≠ 0 => e h3), if_neg (fun e : (readV l).2 ≠ 0 => e h3)]
      by_cases h4 : findAt (hitE nm) 0 (readV l).1 < 0
      · rw [if_pos h4, if_pos h4]
        rfl
      · rw [if_neg h4, if_neg h4]
        show (if (0 : Int) = 0 then (if 0 ≤ findAt (hitE nm) 0 (readV l).1 then (if findAt (hitE nm) 0 (readV l).1 < ((readV l).1.length : Int) then entries_Remove.l0 k ((readV l).1.set (findAt (hitE nm) 0 (readV l).1).toNat ⟨⟨#[]⟩, 0⟩) else none) else none) else _) = _
        rw [if_pos rfl, if_pos (by omega), if_pos (by omega)]
        have hx : Small ((readV l).1.set (findAt (hitE nm) 0 (readV l).1).toNat ⟨⟨#[]⟩, 0⟩) := small_set hsm _ ⟨Int.le_refl _, by decide, Nat.zero_le _⟩
        have hlen : ((readV l).1.set (findAt (hitE nm) 0 (readV l).1).toNat ⟨⟨#[]⟩, 0⟩).length = (readV l).1.length := List.length_set
        have := rem_loop _ (by rw [hlen]; omega) hx _ k (Nat.le_refl _) (by rw [hlen]; omega)
        rw [List.take_length] at this
        exact this
    · rw [if_pos h3, if_pos h3]
      show (if (readV l).2 = 0 then _ else _) = _
      rw [if_neg h3]
  · rw [if_neg h1, if_pos h1]
/-! Replace -/
def repV (l : List Int) (nm : ByteArray) (n : Int) : List Int × Int :=
  if ckV nm ≠ 0 ∧ nm.toList ≠ [46, 46] then ([], ckV nm) else if ¬ (1 ≤ n ∧ n < 65536) then ([], 1) else if (readV l).2 ≠ 0 then ([], (readV l).2) else
    if findAt (hitE nm) 0 (readV l).1 < 0 then ([], 21) else (bytesL ((readV l).1.set (findAt (hitE nm) 0 (readV l).1).toNat ⟨(rd_T28 (readV l).1 (findAt (hitE nm) 0 (readV l).1)).f0, n⟩), 0)
theorem rd28_small {l : List S28} (hs : Small l) (i : Int) (h0 : 0 ≤ i) (h1 : i < l.length) : (rd_T28 l i).f0.size ≤ 24 := by
  obtain ⟨n, rfl⟩ := Int.eq_ofNat_of_zero_le h0
  rw [rd28 l n (by omega)]
  exact (hs _ (List.getElem_mem _)).2.2
theorem rep_j0 (k : Nat) (l : List Int) (nm : ByteArray) (n : Int) (hu : u8s l) (hl : l.length ≤ 100000) (hk : 2 * l.length + 400 ≤ k) (c : Bool) (hc : c = true ↔ (ckV nm ≠ 0 ∧ nm.toList ≠ [46, 46])) : entries_Replace.j0 (k + 1) l (ckV nm) c nm n = some (repV l nm n) := by
  simp only [entries_Replace.j0]
  unfold repV
  by_cases h0 : ckV nm ≠ 0 ∧ nm.toList ≠ [46, 46]
  · rw [if_pos (hc.mpr h0), if_pos h0]
  · rw [if_neg (fun e => h0 (hc.mp e)), if_neg h0, number_eq, Option.bind_some]
    by_cases h2 : 1 ≤ n ∧ n < 65536
    · rw [if_pos (decide_eq_true h2), if_neg (fun e : ¬ (1 ≤ n ∧ n < 65536) => e h2), found_eq l nm hu (by omega), Option.bind_some]
      by_cases h3 : (readV l).2 = 0
      · have hok := readV_ok l hu
        have hsm := small_of hok.1
        have hb := findAt_bd (hitE nm) (readV l).1 0
        rw [if_neg (fun e : (readV l).2 ≠ 0 => e h3), if_neg (fun e : (readV l).2 ≠ 0 => e h3)]
        by_cases h4 : findAt (hitE nm) 0 (readV l).1 < 0
        · rw [if_pos h4, if_pos h4]
          rfl
        · rw [if_neg h4, if_neg h4]
          show (if (0 : Int) = 0 then (if 0 ≤ findAt (hitE nm) 0 (readV l).1 then (if findAt (hitE nm) 0 (readV l).1 < ((readV l).1.length : Int) then (entries_bytes.f k ((readV l).1.set (findAt (hitE nm) 0 (readV l).1).toNat ⟨(rd_T28 (readV l).1 (findAt (hitE nm) 0 (readV l).1)).f0, n⟩)).bind _ else none) else none) else _) = _
          rw [if_pos rfl, if_pos (by omega), if_pos (by omega), bytes_eq k _ (by rw [List.length_set]; omega) (by rw [List.length_set]; omega) (small_set (x := ⟨(rd_T28 (readV l).1 (findAt (hitE nm) 0 (readV l).1)).f0, n⟩) hsm _ ⟨by show 0 ≤ n; omega, by show n < _; omega, rd28_small hsm _ (by omega) (by omega)⟩), Option.bind_some]
      · rw [if_pos h3, if_pos h3]
        show (if (readV l).2 = 0 then _ else _) = _
        rw [if_neg h3]
    · rw [if_neg (by rw [decide_eq_false h2]; decide), if_pos h2]
theorem replace_eq (k : Nat) (l : List Int) (nm : ByteArray) (n : Int) (hu : u8s l) (hl : l.length ≤ 100000) (hk : 2 * l.length + 401 ≤ k) : entries_Replace.f k l nm n = some (repV l nm n) := by
  obtain ⟨k, rfl⟩ : ∃ m, k = m + 1 := ⟨k - 1, by omega⟩
  unfold entries_Replace.f
  rw [check_eq, Option.bind_some]
  by_cases h1 : ckV nm = 0
  · rw [if_pos h1]
    exact rep_j0 k l nm n hu hl (by omega) false (by simp [h1])
  · rw [if_neg h1]
    exact rep_j0 k l nm n hu hl (by omega) _ (by rw [bne_iff_ne]; exact ⟨fun h => ⟨h1, h⟩, fun h => h.2⟩)
/-! List -/
theorem elist_eq (l : List Int) (hu : u8s l) (hl : l.length ≤ 1000000) : entries_List.f l = some (listV l) := by unfold entries_List.f; rw [if_pos ⟨by omega, hu⟩]
theorem new_eq (n : Int) (h0 : 0 ≤ n) (h1 : n < 65536) : entries_New.f n = some (pieceOf ⟨⟨#[46, 46]⟩, n⟩) := by
  unfold entries_New.f
  rw [epiece_eq _ n h0 h1 (by decide), Option.bind_some]
  rfl
/-! the example -/
theorem awake22_ok (k : Nat) (hk : 1000 ≤ k) : reliquarylaw22_awake.f k = some true := by
  unfold reliquarylaw22_awake.f
  have hu0 : u8s [] := fun x hx => by cases hx
  have e1 : (insV [] ⟨#[97]⟩ 5) = (bytesL [⟨⟨#[97]⟩, 5⟩], 0) := by decide +kernel
  have hu1 := bytesL_u8s [⟨⟨#[97]⟩, 5⟩]
  have hl1 := bytesL_length [⟨⟨#[97]⟩, 5⟩]
  have e2 : findV (bytesL [⟨⟨#[97]⟩, 5⟩]) ⟨#[97]⟩ = (5, 0) := by decide +kernel
  have e3 : remV (bytesL [⟨⟨#[97]⟩, 5⟩]) ⟨#[97]⟩ = ([], 0) := by decide +kernel
  have e4 : findV (bytesL [⟨⟨#[46, 46]⟩, 7⟩]) ⟨#[46, 46]⟩ = (7, 0) := by decide +kernel
  have e5 : ckV ⟨#[46, 46]⟩ = 26 := by decide +kernel
  have hl2 := bytesL_length [⟨⟨#[46, 46]⟩, 7⟩]
  rw [insert_eq k [] _ _ hu0 (by simp) (by simp; omega), Option.bind_some, e1]
  show ((entries_Find.f (bytesL [⟨⟨#[97]⟩, 5⟩]) (⟨#[97]⟩ : ByteArray)).bind _) = _
  rw [find_eq _ _ hu1 (by rw [hl1]; decide), Option.bind_some, e2]
  show ((entries_Remove.f k (bytesL [⟨⟨#[97]⟩, 5⟩]) (⟨#[97]⟩ : ByteArray)).bind _) = _
  rw [remove_eq k _ _ hu1 (by rw [hl1]; decide) (by rw [hl1]; show 2 * (32 * 1) + 200 ≤ k; omega), Option.bind_some, e3, new_eq 7 (by decide) (by decide), Option.bind_some, ← bytesL_one, find_eq _ _ (bytesL_u8s _) (by rw [hl2]; decide), Option.bind_some, e4, check_eq, e5, Option.bind_some]
  have r0 : rd (bytesL [⟨⟨#[97]⟩, 5⟩]) 0 = 5 := by decide +kernel
  have r2 : rd (bytesL [⟨⟨#[97]⟩, 5⟩]) 2 = 1 := by decide +kernel
  have r3 : rd (bytesL [⟨⟨#[97]⟩, 5⟩]) 3 = 97 := by decide +kernel
  simp only [hl1, r0, r2, r3]
  rfl
end Go.Proofs.Ytkkflgdobgbmmaa.Pure
end
section
/- What is done with directories that were written. -/
namespace Go.Proofs.Ytkkflgdobgbmmaa.Pure
open Go.RowKit Go.Proofs.Ytkkflgdobgbmmaa.Q Go.Proofs.YtkkflgdobgbmmaaW.PrintWords Go.Proofs.YtkkflgdobgbmmaaW.PrintLast Go.Proofs.YtkkflgdobgbmmaaW.PrintMore
set_option linter.unusedVariables false
set_option linter.unusedSimpArgs false
theorem findV_bytes (l : List S28) (h : DirOk l) (nm : ByteArray) : findV (bytesL l) nm = if findAt (hitE nm) 0 l < 0 then (0, 21) else ((rd_T28 l (findAt (hitE nm) 0 l)).f1, 0) := by
  unfold findV
  rw [read_bytes l h, if_neg (fun e => e rfl)]
theorem insV_bytes (l : List S28) (h : DirOk l) (nm : ByteArray) (n : Int) (h0 : 1 ≤ n) (h1 : n < 65536) (hc : ckV nm = 0) : insV (bytesL l) nm n = if 0 ≤ findAt (hitE nm) 0 l then ([], 22) else (bytesL (putFree l ⟨nm, n⟩), 0) := by
  unfold insV
  rw [read_bytes l h, if_neg (fun e => e hc), if_neg (fun e : ¬ (1 ≤ n ∧ n < 65536) => e ⟨h0, h1⟩), if_neg (fun e => e rfl)]
theorem insV_no (l : List Int) (nm : ByteArray) (n : Int) (hc : ckV nm ≠ 0) : insV l nm n = ([], 26) := by
  unfold insV
  rw [if_pos hc]
  rcases ckV_cases nm with h | h
  · rw [h]
  · exact absurd h hc
theorem remV_no (l : List Int) (nm : ByteArray) (hc : ckV nm ≠ 0) : remV l nm = ([], 26) := by
  unfold remV
  rw [if_pos hc]
  rcases ckV_cases nm with h | h
  · rw [h]
  · exact absurd h hc
theorem listV_bytes (l : List S28) (h : DirOk l) : listV (bytesL l) = (l.filter keepE, 0) := by
  unfold listV
  rw [read_bytes l h, if_pos rfl]
theorem dots_not : ckV ⟨#[46, 46]⟩ ≠ 0 := by decide +kernel
theorem dots_up (n : Int) (hn : n ≠ 0) : hitE ⟨#[46, 46]⟩ ⟨⟨#[46, 46]⟩, n⟩ = true := by
  unfold hitE
  rw [if_neg (show ¬ n = 0 from hn)]
  exact beq_self_eq_true _
theorem ent_ok {nm : ByteArray} {n : Int} (h0 : 1 ≤ n) (h1 : n < 65536) (h2 : 1 ≤ nm.size) (h3 : nm.size ≤ 24) : EntOk ⟨nm, n⟩ := ⟨by show 0 ≤ n; omega, h1, h3, by show n = 0 ↔ nm.size = 0; omega⟩
theorem ent_up {n : Int} (h0 : 1 ≤ n) (h1 : n < 65536) : EntOk ⟨⟨#[46, 46]⟩, n⟩ := ent_ok h0 h1 (by decide) (by decide)
theorem dir_up {n : Int} (h0 : 1 ≤ n) (h1 : n < 65536) : DirOk [⟨⟨#[46, 46]⟩, n⟩] := ⟨fun x hx => by rw [List.mem_singleton.mp hx]; exact ent_up h0 h1, List.pairwise_singleton _ _⟩
theorem find_up (l : List S28) (n : Int) (hn : n ≠ 0) : findAt (hitE ⟨#[46, 46]⟩) 0 (⟨⟨#[46, 46]⟩, n⟩ :: l) = 0 := by rw [findAt, if_pos (dots_up n hn)]; rfl
theorem find_up_nm (nm : ByteArray) (n : Int) (hn : nm.toList ≠ [46, 46]) (l : List S28) (i : Nat) : findAt (hitE nm) i (⟨⟨#[46, 46]⟩, n⟩ :: l) = findAt (hitE nm) (i + 1) l := by
  rw [findAt, if_neg]
  unfold hitE
  by_cases h : n = 0
  · rw [if_pos (show (⟨⟨#[46, 46]⟩, n⟩ : S28).f1 = 0 from h)]; decide
  · rw [if_neg (show ¬ (⟨⟨#[46, 46]⟩, n⟩ : S28).f1 = 0 from h)]
    intro e
    have e' : (⟨#[46, 46]⟩ : ByteArray).toList = nm.toList := beq_iff_eq.mp e
    exact hn (by rw [← e']; decide +kernel)
end Go.Proofs.Ytkkflgdobgbmmaa.Pure
end
section
/- EntriesUps: the law, over what the walk computes. -/
namespace Go.Proofs.Ytkkflgdobgbmmaa.Pure
open Go.RowKit Go.Proofs.Ytkkflgdobgbmmaa.Q Go.Proofs.YtkkflgdobgbmmaaW.PrintWords Go.Proofs.YtkkflgdobgbmmaaW.PrintLast Go.Proofs.YtkkflgdobgbmmaaW.PrintMore
set_option linter.unusedVariables false
set_option linter.unusedSimpArgs false
theorem ups_body (u t : Int) (nm : ByteArray) (h0 : 1 ≤ u) (h1 : u < 65536) (h2 : 1 ≤ t) (h3 : t < 65536) : reliquarylaw22_EntriesUps.j0 2001 u t nm false = some true := by
  have hU := dir_up h0 h1
  have hT := dir_up h2 h3
  have huU := bytesL_u8s [⟨⟨#[46, 46]⟩, u⟩]
  have huT := bytesL_u8s [⟨⟨#[46, 46]⟩, t⟩]
  have hlU := bytesL_length [⟨⟨#[46, 46]⟩, u⟩]
  have hlT := bytesL_length [⟨⟨#[46, 46]⟩, t⟩]
  have l1 : ([⟨⟨#[46, 46]⟩, u⟩] : List S28).length = 1 := rfl
  have l2 : ([⟨⟨#[46, 46]⟩, t⟩] : List S28).length = 1 := rfl
  have fU : findV (bytesL [⟨⟨#[46, 46]⟩, u⟩]) ⟨#[46, 46]⟩ = (u, 0) := by rw [findV_bytes _ hU, find_up _ u (by omega), if_neg (by decide)]; rfl
  have fT : findV (bytesL [⟨⟨#[46, 46]⟩, t⟩]) ⟨#[46, 46]⟩ = (t, 0) := by rw [findV_bytes _ hT, find_up _ t (by omega), if_neg (by decide)]; rfl
  have rU : repV (bytesL [⟨⟨#[46, 46]⟩, u⟩]) ⟨#[46, 46]⟩ t = (bytesL [⟨⟨#[46, 46]⟩, t⟩], 0) := by
    unfold repV
    rw [if_neg (fun e => e.2 (by decide +kernel)), if_neg (fun e : ¬ (1 ≤ t ∧ t < 65536) => e ⟨h2, h3⟩), read_bytes _ hU, if_neg (fun e => e rfl)]
    show (if findAt (hitE ⟨#[46, 46]⟩) 0 [⟨⟨#[46, 46]⟩, u⟩] < 0 then _ else (bytesL (([⟨⟨#[46, 46]⟩, u⟩] : List S28).set (findAt (hitE ⟨#[46, 46]⟩) 0 [⟨⟨#[46, 46]⟩, u⟩]).toNat ⟨(rd_T28 [⟨⟨#[46, 46]⟩, u⟩] (findAt (hitE ⟨#[46, 46]⟩) 0 [⟨⟨#[46, 46]⟩, u⟩])).f0, t⟩), (0 : Int))) = _
    rw [find_up _ u (by omega), if_neg (by decide)]
    rfl
  have kT : listV (bytesL [⟨⟨#[46, 46]⟩, t⟩]) = ([], 0) := by
    rw [listV_bytes _ hT]
    have : keepE ⟨⟨#[46, 46]⟩, t⟩ = false := by
      unfold keepE goneE
      rw [if_neg (show ¬ t = 0 by omega)]
      show (!((⟨#[46, 46]⟩ : ByteArray).toList == [46, 46])) = false
      decide +kernel
    rw [List.filter_cons_of_neg (by rw [this]; decide)]
    rfl
  rw [show (2001 : Nat) = 2000 + 1 from rfl, reliquarylaw22_EntriesUps.j0, if_neg (by decide), wrap64_id (by omega) (by omega), wrap64_id (by omega) (by omega), new_eq u (by omega) h1, Option.bind_some, ← bytesL_one, find_eq _ _ huU (by omega), Option.bind_some, fU,
    insert_eq 2000 _ _ 5 huU (by omega) (by omega), Option.bind_some, insV_no _ _ _ dots_not, remove_eq 2000 _ _ huU (by omega) (by omega), Option.bind_some, remV_no _ _ dots_not, replace_eq 2000 _ _ t huU (by omega) (by omega), Option.bind_some, rU]
  show ((entries_Find.f (bytesL [⟨⟨#[46, 46]⟩, t⟩]) ⟨#[46, 46]⟩).bind _) = _
  rw [find_eq _ _ huT (by omega), Option.bind_some, fT]
  show ((entries_List.f (bytesL [⟨⟨#[46, 46]⟩, t⟩])).bind _) = _
  rw [elist_eq _ huT (by omega), Option.bind_some, kT]
  show ((entries_Insert.f 2000 (bytesL [⟨⟨#[46, 46]⟩, t⟩]) nm 5).bind _) = _
  rw [insert_eq 2000 _ _ 5 huT (by omega) (by omega), Option.bind_some, check_eq, Option.bind_some]
  by_cases hc : ckV nm = 0
  · have hz := ckV_zero hc
    have hI : insV (bytesL [⟨⟨#[46, 46]⟩, t⟩]) nm 5 = (bytesL [⟨⟨#[46, 46]⟩, t⟩, ⟨nm, 5⟩], 0) := by
      rw [insV_bytes _ hT nm 5 (by decide) (by decide) hc, find_up_nm nm t hz.2.2 [] 0, findAt, if_neg (by decide)]
      unfold putFree freeAt
      have : findAt (fun x => x.f1 == 0) 0 [⟨⟨#[46, 46]⟩, t⟩] = -1 := by
        rw [findAt, if_neg (by rw [beq_iff_eq]; show ¬ t = 0; omega), findAt]
      rw [this, if_pos (by decide)]
      rfl
    have hD : DirOk [⟨⟨#[46, 46]⟩, t⟩, ⟨nm, 5⟩] := by
      refine ⟨fun x hx => ?_, ?_⟩
      · rcases List.mem_cons.mp hx with rfl | hx
        · exact ent_up h2 h3
        · rw [List.mem_singleton.mp hx]; exact ent_ok (by decide) (by decide) hz.1 hz.2.1
      · refine List.pairwise_cons.mpr ⟨fun y hy => ?_, List.pairwise_singleton _ _⟩
        rw [List.mem_singleton.mp hy]
        intro _ e
        have e' : (⟨#[46, 46]⟩ : ByteArray) = nm := e
        exact hz.2.2 (by rw [← e']; decide +kernel)
    have fD : findV (bytesL [⟨⟨#[46, 46]⟩, t⟩, ⟨nm, 5⟩]) ⟨#[46, 46]⟩ = (t, 0) := by rw [findV_bytes _ hD, find_up _ t (by omega), if_neg (by decide)]; rfl
    have hlD := bytesL_length [⟨⟨#[46, 46]⟩, t⟩, ⟨nm, 5⟩]
    have l3 : ([⟨⟨#[46, 46]⟩, t⟩, ⟨nm, 5⟩] : List S28).length = 2 := rfl
    rw [hI]
    show ((entries_Find.f (bytesL [⟨⟨#[46, 46]⟩, t⟩, ⟨nm, 5⟩]) ⟨#[46, 46]⟩).bind _) = _
    rw [find_eq _ _ (bytesL_u8s _) (by omega), Option.bind_some, fD, hc]
    simp
  · rw [insV_no _ _ _ hc]
    show ((entries_Find.f [] ⟨#[46, 46]⟩).bind _) = _
    rw [find_eq [] _ (fun x hx => by cases hx) (by simp), Option.bind_some]
    have hc26 : ckV nm = 26 := (ckV_cases nm).resolve_right hc
    rw [hc26]
    simp
theorem EntriesUps : reliquarylaw22_EntriesUps.Pure := by
  intro u t nm h1 h2 h3
  have hu := wf_u16 h1
  have ht := wf_u16 h2
  refine ⟨2001, ?_⟩
  unfold reliquarylaw22_EntriesUps.f
  rw [awake22_ok 2001 (by decide), Option.bind_some, if_pos rfl]
  have hno : reliquarylaw22_EntriesUps.j0 2001 u t nm true = some true := by
    rw [show (2001 : Nat) = 2000 + 1 from rfl, reliquarylaw22_EntriesUps.j0, if_pos rfl]
  by_cases c1 : u = 0
  · rw [if_pos c1]; exact hno
  · rw [if_neg c1]
    by_cases c2 : t = 0
    · rw [if_pos c2]; exact hno
    · rw [if_neg c2]
      by_cases c3 : (nm.size : Int) > 100
      · rw [decide_eq_true c3]; exact hno
      · rw [decide_eq_false c3]
        exact ups_body u t nm (by omega) hu.2 (by omega) ht.2
end Go.Proofs.Ytkkflgdobgbmmaa.Pure
end
section
namespace Go.Proofs.Ytkkflgdobgbmmaa.entriesUps
open Go.ChangeShapes Go.WideShapes Go.ChangeAt Go.RowKit
open Go.ChangeMaps (open_string shut_string)
set_option linter.unusedVariables false
theorem own : ownKnob Try.prog.godebug = none := by kernel_rfl
set_option maxRecDepth 100000 in
theorem lifted (os : Os) (started : os.Started) (H : Type) (enc : TypeId × Value → H) :
    ReturnsInHanded {} Try.checked os 8 .any (Rows.entriesUpsSpec.pre6 enc Try.prog Try.f8 Rows.entriesUpsRow.domain false) (Rows.entriesUpsSpec.post enc Try.prog Try.f8 false true false false) := by
  refine returnsInHanded_of_change_sized (C := Try.checked) own started (by kernel_rfl) Try.func8
    (ChangeSpec.witness6 (enc := enc) (C := Try.checked) false ⟨#[], #[.int .u16 0, .int .u16 0, .string ByteArray.empty], []⟩ 8 (by kernel_rfl) (by kernel_rfl) (by kernel_rfl) (by kernel_rfl)) ?_
  intro W base args ds gs before hval0 hW hcnd hsz0 _
  have hsz : (DataW.weightsEach Try.prog (Try.f8.params.toList ++ Rows.entriesUpsSpec.plain.varTypes Try.prog) (ds ++ gs)).all (· ≤ reachBytes) = true := hsz0
  have hval : ∀ (j : Nat) t v, Try.f8.params[j]? = some t → args[j]? = some v → Value.okWide Try.prog W .any base t v := hval0
  have hW' := hW
  obtain ⟨p, q, hA0, hV, rfl, hfz, hnd⟩ := hW
  have hA : DataW.TrodAll enc Try.prog W 0 (fun _ => true) true Try.f8.params.toList args.toList ds p := hA0
  rw [Try.params8] at hA hval hsz
  obtain ⟨v0, vs0, d0, ds0, p0, q0, hargs, rfl, rfl, h0, r0⟩ := trodAll_cons hA
  obtain ⟨v1, vs1, d1, ds1, p1, q1, rfl, rfl, rfl, h1, r1⟩ := trodAll_cons r0
  obtain ⟨v2, vs2, d2, ds2, p2, q2, rfl, rfl, rfl, h2, r2⟩ := trodAll_cons r1
  obtain ⟨rfl, rfl, rfl⟩ := trodAll_nil r2
  obtain rfl : args = #[v0, v1, v2] := by cases args; simp_all
  obtain ⟨rfl, rfl⟩ := trodVars_none hV
  obtain ⟨a0, rfl, rfl, rfl, w0⟩ := open_int Try.underlying41 (hval 0 41 v0 rfl rfl) h0
  obtain ⟨a1, rfl, rfl, rfl, w1⟩ := open_int Try.underlying41 (hval 1 41 v1 rfl rfl) h1
  obtain ⟨a2, rfl, rfl, rfl, y2⟩ := open_string Try.underlying9 (hval 2 9 v2 rfl rfl) h2
  have w2 : a2.size ≤ 140737488351232 := by
    have z := sized_string hsz (j := 2) (t := 9) rfl rfl
    rw [Array.length_toList] at z
    exact z
  clear hA0 hval0 hsz0 hsz
  refine (Q.reliquarylaw22_EntriesUps.walk Pure.EntriesUps a0 a1 a2 W w0 w1 w2).mono fun e W' ⟨he, bel⟩ => ?_
  subst he
  exact ⟨_, rfl, _, _, _, [], _, [], hW', trodAll_mk1 (shut_bool Try.underlying4 _), (trodAll_cons_mk (shut_int Try.underlying41 w0) (trodAll_cons_mk (shut_int Try.underlying41 w1) (trodAll_cons_mk (shut_string Try.underlying9 y2) trodAll_mk0))), rfl, bel.frame _, fun h => by cases h⟩
theorem over : Rows.entriesUpsRow.holds Try.pinned (OpenSpec.ofChange Rows.entriesUpsSpec) :=
  OpenClaim.holds_of_wide 8 Try.f8 rfl rfl rfl rfl rfl rfl rfl ⟨rfl, rfl, rfl, rfl, rfl⟩ rfl rfl rfl rfl rfl (by kernel_rfl) Try.func8 (by kernel_rfl)
    (of_decide_eq_true (by kernel_rfl)) (by unfold Func.isWrapper; first | (rw [if_pos (by decide +kernel)]; kernel_rfl) | (rw [if_neg (by decide +kernel)]; exact ⟨rfl, rfl⟩))
    (fun os started H enc _ => lifted os started H enc)
theorem proved : Rows.EntriesUpsSaid := over
#print axioms proved
end Go.Proofs.Ytkkflgdobgbmmaa.entriesUps
namespace Go.Proofs.Ytkkflgdobgbmmaa
/-- The row, under a short name, for the claim. -/
theorem entriesUps_holds : Rows.EntriesUpsSaid := entriesUps.proved
end Go.Proofs.Ytkkflgdobgbmmaa
end
