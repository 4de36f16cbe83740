/- EntriesOps: for every input the statement's function returns true; there is no further condition. Text 9 of 9: this session's texts, and of the words that print.sh has printed those that are needed, laid together by its own program (merge.py). Not trusted: Lean checks them. -/
import Derived.Test.YtkkflgdobgbmmaaMEntriesOps2
import Derived.Test.YtkkflgdobgbmmaaMEntriesOps3
import Derived.Test.YtkkflgdobgbmmaaMEntriesOps4
import Derived.Test.YtkkflgdobgbmmaaMEntriesOps5
import Derived.Test.YtkkflgdobgbmmaaMEntriesOps6
import Derived.Test.YtkkflgdobgbmmaaMEntriesOps7
import Derived.Test.YtkkflgdobgbmmaaRows
import Derived.WalkKit
import Derived.ProofKit
import Derived.OpenShut
import Derived.ShutString
import Derived.ChangeOld
import Derived.Below
import Derived.SizedLaws
import Derived.Test.YtkkflgdobgbmmaaMEntriesOps1
section
/- Directories' bytes, read and written, and what is done with them: the program's, and the reference's. -/
namespace Go.Proofs.Ytkkflgdobgbmmaa.Pure
open Go.RowKit Go.Proofs.Ytkkflgdobgbmmaa.Q Go.Proofs.YtkkflgdobgbmmaaW.PrintWords Go.Proofs.YtkkflgdobgbmmaaW.PrintLast Go.Proofs.YtkkflgdobgbmmaaW.PrintMore
set_option linter.unusedVariables false
set_option linter.unusedSimpArgs false

/-! names that may be -/
def ckV (s : ByteArray) : Int := if s.size < 1 ∨ s.size > 24 ∨ s.data.toList.any badB = true ∨ s.toList = [46] ∨ s.toList = [46, 46] then 26 else 0
theorem check_eq (s : ByteArray) : entries_Check.f s = some (ckV s) := by
  unfold entries_Check.f ckV
  by_cases h1 : (s.size : Int) < 1
  · rw [if_pos h1, if_pos (Or.inl (by omega))]
  · rw [if_neg h1]
    by_cases h2 : (s.size : Int) > 24
    · rw [if_pos h2, if_pos (Or.inr (Or.inl (by omega)))]
    · have hc : strings_ContainsAny.f s (⟨#[47, 0]⟩ : ByteArray) = some (s.data.toList.any badB) := by unfold strings_ContainsAny.f; rw [if_pos ⟨by omega, rfl⟩]
      rw [if_neg h2, hc, Option.bind_some]
      have h3 : ¬ s.size < 1 := by omega
      have h4 : ¬ s.size > 24 := by omega
      by_cases h5 : s.data.toList.any badB = true
      · rw [if_pos h5, if_pos (Or.inr (Or.inr (Or.inl h5)))]
      · rw [if_neg h5]
        by_cases h6 : s.toList = [46]
        · rw [if_pos h6, if_pos (Or.inr (Or.inr (Or.inr (Or.inl h6))))]
        · rw [if_neg h6]
          by_cases h7 : s.toList = [46, 46]
          · rw [if_pos h7, if_pos (Or.inr (Or.inr (Or.inr (Or.inr h7))))]
          · rw [if_neg h7, if_neg (by rintro (h | h | h | h | h) <;> contradiction)]
theorem data_len (s : ByteArray) : s.data.toList.length = s.size := by rw [Array.length_toList]; rfl
theorem bt_nat (s : ByteArray) (i : Nat) (h : i < s.data.toList.length) : bt s (i : Int) = ((s.data.toList[i]'h).toNat : Int) := by
  rw [← rd_bytesOf, rd_nat (bytesOf s) i (by unfold bytesOf; rw [List.length_map]; exact h)]
  simp [bytesOf]
theorem u8_of_nat (b : UInt8) (n : Nat) (hn : n < 256) (h : (b.toNat : Int) = n) : b = UInt8.ofNat n := by
  apply UInt8.toNat_inj.mp
  rw [UInt8.toNat_ofNat']
  omega
theorem badB_iff (b : UInt8) : badB b = true ↔ ((b.toNat : Int) = 47 ∨ (b.toNat : Int) = 0) := by
  unfold badB
  rw [Bool.or_eq_true, beq_iff_eq, beq_iff_eq]
  constructor
  · rintro (h | h) <;> subst h <;> simp
  · rintro (h | h)
    · exact Or.inl (u8_of_nat b 47 (by decide) h)
    · exact Or.inr (u8_of_nat b 0 (by decide) h)
theorem refcheck_loop (s : ByteArray) (hs : s.size ≤ 100) (d : Nat) : ∀ (k i : Nat), s.size - i = d → i ≤ s.size → d < k →
    reliquaryref22_Check.l0 k s i = some (if (s.data.toList.drop i).any badB = true then 26 else 0) := by
  induction d with
  | zero =>
    intro k i hd hi hk
    obtain ⟨k, rfl⟩ : ∃ m, k = m + 1 := ⟨k - 1, by omega⟩
    have := data_len s
    simp only [reliquaryref22_Check.l0]
    rw [if_neg (by omega), List.drop_eq_nil_of_le (by omega), if_neg (by simp)]
  | succ d ih =>
    intro k i hd hi hk
    obtain ⟨k, rfl⟩ : ∃ m, k = m + 1 := ⟨k - 1, by omega⟩
    have hl := data_len s
    have hil : i < s.data.toList.length := by omega
    simp only [reliquaryref22_Check.l0]
    rw [if_pos (by omega), if_pos (by omega), bt_nat s i hil, List.drop_eq_getElem_cons hil, List.any_cons]
    by_cases h : badB s.data.toList[i] = true
    · have h' := (badB_iff _).mp h
      rw [h, Bool.true_or]
      rcases h' with h' | h'
      · rw [if_pos h', if_pos rfl]
      · rw [if_neg (by omega), if_pos h', if_pos rfl]
    · have h' : ¬ (((s.data.toList[i].toNat : Int)) = 47 ∨ ((s.data.toList[i].toNat : Int)) = 0) := fun e => h ((badB_iff _).mpr e)
      rw [if_neg (fun e => h' (Or.inl e)), if_neg (fun e => h' (Or.inr e)), wrap64_id (by omega) (by omega), Bool.eq_false_iff.mpr h, Bool.false_or]
      exact ih k (i + 1) (by omega) (by omega) (by omega)
theorem refcheck_eq (k : Nat) (hk : 40 ≤ k) (s : ByteArray) : reliquaryref22_Check.f k s = some (ckV s) := by
  obtain ⟨k, rfl⟩ : ∃ m, k = m + 1 := ⟨k - 1, by omega⟩
  have hl := data_len s
  have ht : s.toList = s.data.toList := Go.ByteArray.toList_eq s
  unfold reliquaryref22_Check.f ckV
  simp only [reliquaryref22_Check.j0]
  by_cases h1 : s.toList = []
  · rw [if_pos h1, if_pos trivial, if_pos (Or.inl (by rw [ht] at h1; rw [h1] at hl; simp at hl; omega))]
  · have h1' : ¬ s.size < 1 := fun e => h1 (by rw [ht]; exact List.length_eq_zero_iff.mp (by omega))
    rw [if_neg h1]
    by_cases h6 : s.toList = [46]
    · rw [if_pos h6, if_pos trivial, if_pos (Or.inr (Or.inr (Or.inr (Or.inl h6))))]
    · rw [if_neg h6]
      by_cases h7 : s.toList = [46, 46]
      · rw [if_pos h7, if_pos trivial, if_pos (Or.inr (Or.inr (Or.inr (Or.inr h7))))]
      · rw [if_neg h7]
        by_cases h2 : s.size > 24
        · rw [if_pos (decide_eq_true (by omega)), if_pos (Or.inr (Or.inl h2))]
        · have := refcheck_loop s (by omega) s.size k 0 (by omega) (by omega) (by omega)
          rw [if_neg (by rw [decide_eq_false (by omega)]; decide)]
          rw [show ((0 : Nat) : Int) = 0 from rfl, List.drop_zero] at this
          rw [this]
          congr 1
          by_cases h5 : s.data.toList.any badB = true
          · rw [if_pos h5, if_pos (Or.inr (Or.inr (Or.inl h5)))]
          · rw [if_neg h5, if_neg (by rintro (h | h | h | h | h) <;> contradiction)]
theorem ckV_zero {s : ByteArray} (h : ckV s = 0) : 1 ≤ s.size ∧ s.size ≤ 24 ∧ s.toList ≠ [46, 46] := by
  unfold ckV at h
  split at h
  · cases h
  · rename_i c
    refine ⟨?_, ?_, ?_⟩
    · exact Nat.le_of_not_lt fun e => c (Or.inl e)
    · exact Nat.le_of_not_lt fun e => c (Or.inr (Or.inl e))
    · exact fun e => c (Or.inr (Or.inr (Or.inr (Or.inr e))))

/-! strings of bytes -/
theorem str_ext {a b : ByteArray} (h : a.data.toList = b.data.toList) : a = b := by
  cases a; cases b; congr 1; exact Array.toList_inj.mp h
theorem str_append (x y : List Int) : strOfNums (x ++ y) = strOfNums x ++ strOfNums y := by
  apply str_ext
  rw [ByteArray.data_append, Array.toList_append, strOfNums_data, strOfNums_data, strOfNums_data, List.map_append]
theorem str_nil : strOfNums [] = ⟨#[]⟩ := by apply str_ext; rw [strOfNums_data]; rfl
theorem str_size (x : List Int) : (strOfNums x).size = x.length := by rw [← data_len, strOfNums_data, List.length_map]
theorem str_extract (x : List Int) (a b : Nat) : (strOfNums x).extract a b = strOfNums ((x.take b).drop a) := by
  apply str_ext
  rw [ByteArray.data_extract, Array.toList_extract, List.extract_eq_take_drop, strOfNums_data, strOfNums_data, List.map_drop, List.map_take, List.drop_take]
theorem bytesOf_u8s (s : ByteArray) : u8s (bytesOf s) := by
  intro v hv
  unfold bytesOf at hv
  obtain ⟨b, -, rfl⟩ := List.mem_map.mp hv
  have := b.toNat_lt
  omega
theorem u8s_append {x y : List Int} (hx : u8s x) (hy : u8s y) : u8s (x ++ y) := fun v hv => (List.mem_append.mp hv).elim (hx v) (hy v)
theorem u8s_drop {l : List Int} (h : u8s l) (n : Nat) : u8s (l.drop n) := fun x hx => h x (List.mem_of_mem_drop hx)

/-! pieces -/
theorem pieceL_len (nm : List Int) (n : Int) : (pieceL nm n).length = 32 := by unfold pieceL; rw [padV_length]; rfl
theorem leb2 (n : Int) : lebytes 2 n = [n % 256, n / 256 % 256] := rfl
theorem padV_u8s {l : List Int} (h : u8s l) (n : Int) : u8s (padV l n) := by
  unfold padV
  exact u8s_append (u8s_take h _) (fun v hv => by rw [List.eq_of_mem_replicate hv]; omega)
theorem pieceL_u8s (nm : List Int) (h : u8s nm) (n : Int) : u8s (pieceL nm n) := by
  unfold pieceL
  refine padV_u8s (u8s_append (u8s_append (lebytes_u8s _ _) ?_) h) _
  intro v hv
  rw [List.mem_singleton.mp hv]
  omega
theorem refpiece_loop (d : Nat) : ∀ (k : Nat) (x : List Int), 32 - x.length = d → x.length ≤ 32 → d < k → reliquaryref22_Piece.l0 k x = some (strOfNums (padV x 32)) := by
  induction d with
  | zero =>
    intro k x hd hx hk
    obtain ⟨k, rfl⟩ : ∃ m, k = m + 1 := ⟨k - 1, by omega⟩
    simp only [reliquaryref22_Piece.l0]
    rw [if_neg (by omega)]
    unfold padV
    rw [show (32 : Int).toNat = 32 from rfl, hd, List.replicate_zero, List.append_nil, List.take_of_length_le hx]
  | succ d ih =>
    intro k x hd hx hk
    obtain ⟨k, rfl⟩ : ∃ m, k = m + 1 := ⟨k - 1, by omega⟩
    simp only [reliquaryref22_Piece.l0]
    have hlen : (x ++ [(0 : Int)]).length = x.length + 1 := List.length_append
    rw [if_pos (by omega), if_pos (by omega), ih k (x ++ [0]) (by omega) (by omega) (by omega)]
    congr 2
    unfold padV
    rw [show (32 : Int).toNat = 32 from rfl, List.take_of_length_le (by omega), List.take_of_length_le (by omega), hlen, List.append_assoc, show 32 - x.length = (32 - (x.length + 1)) + 1 by omega, List.replicate_succ]
    rfl
theorem refpiece_eq (k : Nat) (hk : 40 ≤ k) (nm : ByteArray) (n : Int) (h0 : 0 ≤ n) (h1 : n < 65536) (hs : nm.size ≤ 29) : reliquaryref22_Piece.f k nm n = some (strOfNums (pieceL (bytesOf nm) n)) := by
  unfold reliquaryref22_Piece.f
  have hb := bytesOf_length nm
  rw [Option.bind_some, if_pos (by show 3 + nm.size < _; omega), refpiece_loop _ k _ rfl (by rw [List.length_append, hb]; show 3 + nm.size ≤ 32; omega) (by rw [List.length_append, hb]; omega)]
  unfold pieceL
  rw [leb2, hb, Int.tmod_eq_emod_of_nonneg h0, Int.tdiv_eq_ediv_of_nonneg h0, wrap64_id (by omega) (by omega), Int.tmod_eq_emod_of_nonneg (by omega), Int.emod_emod_of_dvd _ (by decide : (256 : Int) ∣ 256), Int.emod_emod_of_dvd _ (by decide : (256 : Int) ∣ 256)]
  rfl
theorem epiece_eq (nm : ByteArray) (n : Int) (h0 : 0 ≤ n) (h1 : n < 65536) (hs : nm.size ≤ 29) : entries_piece.f nm n = some (pieceL (bytesOf nm) n) := by
  unfold entries_piece.f
  rw [if_pos (by omega)]

/-! entries -/
/-- What an entry that was read is. -/
structure EntOk (x : S28) : Prop where
  lo : 0 ≤ x.f1
  hi : x.f1 < 65536
  nm : x.f0.size ≤ 24
  fr : x.f1 = 0 ↔ x.f0.size = 0
def m30 (x : S28) : S30 := ⟨x.f0, x.f1⟩
theorem rd28 (l : List S28) (i : Nat) (h : i < l.length) : rd_T28 l (i : Int) = l[i] := by simp [rd_T28, List.getD_eq_getElem?_getD, List.getElem?_eq_getElem h]
theorem rd30 (l : List S30) (i : Nat) (h : i < l.length) : rd_T30 l (i : Int) = l[i] := by simp [rd_T30, List.getD_eq_getElem?_getD, List.getElem?_eq_getElem h]
theorem reffind_loop (l : List S28) (nm : ByteArray) (hl : l.length ≤ 1000000) (h0 : ∀ x ∈ l, 0 ≤ x.f1) (d : Nat) : ∀ (k i : Nat), l.length - i = d → i ≤ l.length → d < k →
    reliquaryref22_Find.l0 k (l.map m30) nm i = some (findAt (hitE nm) i (l.drop i)) := by
  induction d with
  | zero =>
    intro k i hd hi hk
    obtain ⟨k, rfl⟩ : ∃ m, k = m + 1 := ⟨k - 1, by omega⟩
    simp only [reliquaryref22_Find.l0]
    rw [List.length_map, if_neg (by omega), List.drop_eq_nil_of_le (by omega), findAt]
  | succ d ih =>
    intro k i hd hi hk
    obtain ⟨k, rfl⟩ : ∃ m, k = m + 1 := ⟨k - 1, by omega⟩
    have hil : i < l.length := by omega
    have hx := h0 l[i] (List.getElem_mem hil)
    simp only [reliquaryref22_Find.l0]
    rw [List.length_map, if_pos (by omega), if_pos (by omega), rd30 _ i (by rw [List.length_map]; exact hil), List.getElem_map, wrap64_id (by omega) (by omega), List.drop_eq_getElem_cons hil, findAt]
    have hn := ih k (i + 1) (by omega) (by omega) (by omega)
    show (if l[i].f1 > 0 then (if l[i].f0.toList = nm.toList then some (i : Int) else reliquaryref22_Find.l0 k (l.map m30) nm ((i : Int) + 1)) else reliquaryref22_Find.l0 k (l.map m30) nm ((i : Int) + 1)) = _
    rw [show (i : Int) + 1 = ((i + 1 : Nat) : Int) by omega, hn]
    unfold hitE
    by_cases c1 : l[i].f1 = 0
    · rw [if_neg (by omega), if_pos c1, if_neg (by decide)]
    · rw [if_pos (by omega), if_neg c1]
      by_cases c2 : l[i].f0.toList = nm.toList
      · rw [if_pos c2, if_pos (beq_iff_eq.mpr c2)]
      · rw [if_neg c2, if_neg (fun e => c2 (beq_iff_eq.mp e))]
theorem reffind_eq (k : Nat) (l : List S28) (nm : ByteArray) (hl : l.length ≤ 1000000) (hk : l.length < k) (h0 : ∀ x ∈ l, 0 ≤ x.f1) : reliquaryref22_Find.f k (l.map m30) nm = some (findAt (hitE nm) 0 l) := by
  unfold reliquaryref22_Find.f
  exact reffind_loop l nm hl h0 l.length k 0 (by omega) (by omega) hk
def pieceOf (x : S28) : List Int := pieceL (bytesOf x.f0) x.f1
def bytesL (l : List S28) : List Int := l.flatMap pieceOf
theorem bytesL_length (l : List S28) : (bytesL l).length = 32 * l.length := by
  unfold bytesL
  induction l with
  | nil => rfl
  | cons x l ih => rw [List.flatMap_cons, List.length_append, ih, List.length_cons, pieceOf, pieceL_len]; omega
theorem bytesL_append (l m : List S28) : bytesL (l ++ m) = bytesL l ++ bytesL m := List.flatMap_append
theorem bytesL_one (x : S28) : bytesL [x] = pieceOf x := by simp [bytesL]
theorem bytesL_u8s (l : List S28) : u8s (bytesL l) := by
  intro v hv
  obtain ⟨x, -, h⟩ := List.mem_flatMap.mp hv
  exact pieceL_u8s _ (bytesOf_u8s _) _ v h
theorem bytesL_snoc (l : List S28) (i : Nat) (h : i < l.length) : bytesL (l.take (i + 1)) = bytesL (l.take i) ++ pieceOf l[i] := by
  rw [List.take_succ_eq_append_getElem h, bytesL_append, bytesL_one]
theorem bytes_loop (l : List S28) (hl : l.length ≤ 1000000) (ho : ∀ x ∈ l, 0 ≤ x.f1 ∧ x.f1 < 65536 ∧ x.f0.size ≤ 24) (d : Nat) : ∀ (k i : Nat), l.length - i = d → i ≤ l.length → d < k →
    entries_bytes.l0 k (bytesL (l.take i)) l (l.length : Int) i = some (bytesL l) := by
  induction d with
  | zero =>
    intro k i hd hi hk
    obtain ⟨k, rfl⟩ : ∃ m, k = m + 1 := ⟨k - 1, by omega⟩
    simp only [entries_bytes.l0]
    rw [if_neg (by omega), List.take_of_length_le (by omega)]
  | succ d ih =>
    intro k i hd hi hk
    obtain ⟨k, rfl⟩ : ∃ m, k = m + 1 := ⟨k - 1, by omega⟩
    have hil : i < l.length := by omega
    have hx := ho l[i] (List.getElem_mem hil)
    simp only [entries_bytes.l0]
    rw [if_pos (by omega), if_pos (by omega), if_pos (by omega), rd28 l i hil, epiece_eq _ _ hx.1 hx.2.1 (by omega), Option.bind_some, if_pos (by rw [bytesL_length, List.length_take, pieceL_len]; omega), wrap64_id (by omega) (by omega)]
    have := ih k (i + 1) (by omega) (by omega) (by omega)
    rw [bytesL_snoc l i hil] at this
    exact this
theorem bytes_eq (k : Nat) (l : List S28) (hl : l.length ≤ 1000000) (hk : l.length < k) (ho : ∀ x ∈ l, 0 ≤ x.f1 ∧ x.f1 < 65536 ∧ x.f0.size ≤ 24) : entries_bytes.f k l = some (bytesL l) := by
  unfold entries_bytes.f
  exact bytes_loop l hl ho l.length k 0 (by omega) (by omega) hk
theorem refbytes_loop (l : List S28) (hl : l.length ≤ 1000000) (ho : ∀ x ∈ l, 0 ≤ x.f1 ∧ x.f1 < 65536 ∧ x.f0.size ≤ 24) (d : Nat) : ∀ (k i : Nat), l.length - i = d → i ≤ l.length → d + 50 < k →
    reliquaryref22_Bytes.l0 k (l.map m30) (strOfNums (bytesL (l.take i))) i = some (strOfNums (bytesL l)) := by
  induction d with
  | zero =>
    intro k i hd hi hk
    obtain ⟨k, rfl⟩ : ∃ m, k = m + 1 := ⟨k - 1, by omega⟩
    simp only [reliquaryref22_Bytes.l0]
    rw [List.length_map, if_neg (by omega), List.take_of_length_le (by omega)]
  | succ d ih =>
    intro k i hd hi hk
    obtain ⟨k, rfl⟩ : ∃ m, k = m + 1 := ⟨k - 1, by omega⟩
    have hil : i < l.length := by omega
    have hx := ho l[i] (List.getElem_mem hil)
    simp only [reliquaryref22_Bytes.l0]
    rw [List.length_map, if_pos (by omega), if_pos (by omega), rd30 _ i (by rw [List.length_map]; exact hil), List.getElem_map, show (m30 l[i]).f0 = l[i].f0 from rfl, show (m30 l[i]).f1 = l[i].f1 from rfl, refpiece_eq k (by omega) _ _ hx.1 hx.2.1 (by omega), Option.bind_some,
      if_pos (by rw [str_size, str_size, bytesL_length, List.length_take, pieceL_len]; omega), wrap64_id (by omega) (by omega), ← str_append]
    have := ih k (i + 1) (by omega) (by omega) (by omega)
    rw [bytesL_snoc l i hil] at this
    exact this
theorem refbytes_eq (k : Nat) (l : List S28) (hl : l.length ≤ 1000000) (hk : l.length + 50 < k) (ho : ∀ x ∈ l, 0 ≤ x.f1 ∧ x.f1 < 65536 ∧ x.f0.size ≤ 24) : reliquaryref22_Bytes.f k (l.map m30) = some (strOfNums (bytesL l)) := by
  unfold reliquaryref22_Bytes.f
  have := refbytes_loop l hl ho l.length k 0 (by omega) (by omega) hk
  rw [show bytesL (l.take 0) = [] from rfl, str_nil] at this
  exact this
end Go.Proofs.Ytkkflgdobgbmmaa.Pure
end
section
/- slices.DeleteFunc of entries: its walk. -/
namespace Go.Proofs.Ytkkflgdobgbmmaa.Q
open Go.RowKit Go.Proofs.YtkkflgdobgbmmaaW.PrintWords Go.Proofs.YtkkflgdobgbmmaaW.PrintLast Go.Proofs.YtkkflgdobgbmmaaW.PrintMore
attribute [local go_sem] max2_int min2_int max_two min_two max_three min_three max_four min_four
set_option linter.unusedVariables false
set_option linter.unusedSimpArgs false
def keepE (x : S28) : Bool := !goneE x
theorem zero28 : (Try.prog.info? 28).map (·.zero) = some (some (.agg #[.string ⟨#[]⟩, .int .i64 0])) := by kernel_rfl
theorem infosz28 : (Try.prog.info? 28).map (·.size) = some 2 := by kernel_rfl
theorem st28_one {s : ByteArray} {z : Int} : ∀ u ∈ (#[Value.string s, .int .i64 z] : Array Value).toList, u.oneCell' = true := by
  intro u hu
  simp only [List.mem_cons, List.not_mem_nil, or_false] at hu
  rcases hu with rfl | rfl <;> rfl
/-- The state of the loop: kept so far, and what is to come. -/
structure DI (w w' : World) (base g n cap : Nat) (l0 xs : List S28) (i j : Nat) : Prop where
  lt : i < j
  le : j ≤ n
  len : xs.length = n
  got : xs.take i = (l0.take j).filter keepE
  rest : xs.drop j = l0.drop j
  row : Kd.R k28 28 w' base (fun _ => True) (.slice (some ⟨g, 0, none⟩) n cap) xs
  below : Below base w w'
theorem DI.go {w w1 w2 : World} {base g n cap : Nat} {l0 xs : List S28} {i j : Nat} (h : DI w w1 base g n cap l0 xs i j) (hb : Below w1.heap.size w1 w2) (hbase : base ≤ w1.heap.size) : DI w w2 base g n cap l0 xs i j :=
  ⟨h.lt, h.le, h.len, h.got, h.rest, Kd.R_below h.row hb, h.below.trans (hb.mono hbase)⟩
theorem DI.skip {w w' : World} {base g n cap : Nat} {l0 xs : List S28} {i j : Nat} (h : DI w w' base g n cap l0 xs i j) {x : S28} (hx : l0[j]? = some x) (hn : j < n) (hg : goneE x = true) : DI w w' base g n cap l0 xs i (j + 1) := by
  obtain ⟨hj, hx⟩ := List.getElem?_eq_some_iff.1 hx
  rw [← hx] at hg
  exact ⟨by have := h.lt; omega, by omega, h.len, by rw [h.got, List.take_succ_eq_append_getElem hj, List.filter_append]; simp [keepE, hg], by
    have := congrArg (List.drop 1) h.rest
    rw [List.drop_drop, List.drop_drop] at this
    exact this, h.row, h.below⟩
theorem DI.keep {w w1 w2 : World} {base g n cap : Nat} {l0 xs : List S28} {i j : Nat} {cur : Array Value} (h : DI w w1 base g n cap l0 xs i j) {x : S28} (hx : l0[j]? = some x) (hn : j < n) (hg : goneE x = false) (hblk : w1.heap[g]? = some (.cells cur 28 (0, 0))) (hb1 : base ≤ w1.heap.size)
    (hk : w2.heap[g]? = some (.cells (cur.toList.take (i * 2) ++ (Value.agg #[.string x.f0, .int .i64 x.f1]).cells.toList ++ cur.toList.drop (i * 2 + (Value.agg #[.string x.f0, .int .i64 x.f1]).cells.size)).toArray 28 (0, 0))) (hgr : w1.grownBy w2 (some g)) : DI w w2 base g n cap l0 (xs.set i x) (i + 1) (j + 1) := by
  obtain ⟨hj, rfl⟩ := List.getElem?_eq_some_iff.1 hx
  obtain ⟨_, hbg, hnc, hcm, cur', hb', hs', ht'⟩ := blk28 h.row
  rw [hblk] at hb'
  injection hb' with hb'
  injection hb' with hb'
  subst hb'
  have hlen := h.len
  have hlt := h.lt
  have hi : i < xs.length := by omega
  have hsz : n * 2 ≤ cur.size := by rw [hs']; exact Nat.mul_le_mul_right _ hnc
  refine ⟨by omega, by omega, by rw [List.length_set]; exact hlen, ?_, ?_, ?_, grown_below h.below hgr hb1 hbg⟩
  · rw [List.take_succ_eq_append_getElem (by rw [List.length_set]; omega), List.take_set_of_le (by omega), h.got, List.getElem_set_self, List.take_succ_eq_append_getElem hj, List.filter_append]
    simp [keepE, hg]
  · rw [List.drop_set_of_lt (by omega)]
    have := congrArg (List.drop 1) h.rest
    rw [List.drop_drop, List.drop_drop] at this
    exact this
  · have := own_of_blk (xs := xs.set i l0[j]) hbg (by rw [List.length_set]; omega) hcm hk (by
      simp only [List.size_toArray, List.length_append, List.length_take, List.length_drop, Array.length_toList]
      show min (i * 2) cur.size + 2 + (cur.size - (i * 2 + 2)) = cap * 2
      omega) (by
      rw [List.length_set]
      exact set28 cur.toList xs i hi l0[j] ht')
    rw [List.length_set, hlen] at this
    exact this
set_option maxHeartbeats 4000000 in
set_option maxRecDepth 100000 in
theorem del.calls (v : Value) (l0 : List S28) (base : Nat) (w : World) (hR : Kd.R k28 28 w base (fun _ => True) v l0) (hbase : base ≤ w.heap.size) :
    Calls Try.prog 35 #[v, .func (.func 36) #[] #[]] w fun e w' => ∃ v', e = .returned v' ∧ Kd.R k28 28 w' base (fun _ => True) v' (l0.filter keepE) ∧ Below base w w' := by
  obtain ⟨A0, c0, rfl⟩ := Kd.R_slice hR
  obtain ⟨_, hc0, hC0⟩ := Kd.R_reads' hR
  have HM := Aside0.mk (show l0.length ≤ 9223372036854775807 from hC0.2.1)
  have HF := Aside0.mk (idxList_eq l0 hC0.2.1)
  have HIX := Aside0.mk (fun (r : Int) (hr : findAt goneE 0 l0 = r) => entries_Entry_31_at_entries_List_lit1.calls (l0.length + 1) A0 c0 l0 r w hC0 hc0 (by rw [HF.out, hr]))
  have HR := Aside0.mk hR
  have HBA := Aside0.mk hbase
  clear hC0 hc0 HF hbase
  rcases findAt_spec goneE l0 0 with ⟨h1, h2⟩ | ⟨pre, x, post, h1, h2, h3, h4⟩
  · have hfl : l0.filter keepE = l0 := by
      rw [List.filter_eq_self]
      intro y hy
      simp [keepE, h2 y hy]
    rw [hfl]
    have H1 := Aside0.mk (HIX.out (-1) h1)
    clear HIX h1 h2 hfl hR
    go_enter Try.func35, Try.ntmps35
    go_wp2_with (go_at_call 31; refine H1.out.mono ?_; rintro e w1 ⟨rfl, hb⟩; have HB := Aside0.mk hb; clear hb)
    go_ret
    exact ⟨_, rfl, Kd.R_below HR.out HB.out, HB.out.mono HBA.out⟩
  · rw [Nat.zero_add] at h2
    have H1 := Aside0.mk (HIX.out _ h2)
    obtain ⟨n, hn⟩ : ∃ n, l0.length = n := ⟨_, rfl⟩
    obtain ⟨i0, hi0⟩ : ∃ i0, pre.length = i0 := ⟨_, rfl⟩
    have hlen : n = i0 + 1 + post.length := by rw [← hn, h1, ← hi0, List.length_append, List.length_cons]; omega
    obtain ⟨g, cap, e1, _, _, _⟩ := Kd.R_form hR (by omega)
    injection e1 with e1 _ e3
    subst e1
    subst e3
    have HDI := Aside0.mk (show DI w w base g n c0 l0 l0 i0 (i0 + 1) from ⟨by omega, by omega, hn, by
      have t1 : l0.take i0 = pre := by rw [h1, ← hi0, List.take_left]
      have t2 : l0.take (i0 + 1) = pre ++ [x] := by rw [h1, show i0 + 1 = (pre ++ [x]).length by simp [hi0], show pre ++ x :: post = (pre ++ [x]) ++ post by simp, List.take_left]
      rw [t1, t2, List.filter_append]
      rw [List.filter_eq_self.2 (fun y hy => by simp [keepE, h4 y hy])]
      simp [keepE, h3], rfl, by rw [← hn]; exact HR.out, Below.refl _ _⟩)
    have H2 := Aside0.mk (by have := H1.out; rw [hn, hi0] at this; exact this)
    have HN := Aside0.mk hn
    have HM2 := Aside0.mk (show n ≤ 9223372036854775807 by rw [← hn]; exact HM.out)
    have HPL := Aside0.mk (show i0 < n by omega)
    have HLEN := Aside0.mk hlen
    have e0 : ((i0 : Int) == -1) = false := beq_eq_false_iff_ne.mpr (by omega)
    rw [hn]
    clear HIX H1 HR hR h1 h2 h3 h4 hi0 hlen hn HM
    have hm2 := HM2.out
    have hpl := HPL.out
    go_enter Try.func35, Try.ntmps35
    go_wp2_with (go_at_call 31; refine H2.out.mono ?_; rintro e w1 ⟨rfl, hb⟩; have n0_ := Aside0.mk (HDI.out.go hb HBA.out); have n1_ := Aside0.mk (Nat.le_trans HBA.out hb.size); clear hb HDI HBA; have HDI := n0_; have HBA := n1_; clear n0_ n1_)
    clear H2 e0
    go_loopg [5, 6] post.length (fun gk v5 v6 w' => ∃ (i j : Nat) (xs : List S28), v5 = .int .i64 i ∧ v6 = .int .i64 j ∧ Aside0 (gk + j = n) ∧ Aside0 (base ≤ w'.heap.size) ∧ Aside0 (DI w w' base g n c0 l0 xs i j))
    case atStart => exact ⟨i0, i0 + 1, l0, rfl, by go_num, ⟨by have := HLEN.out; omega⟩, HBA, HDI⟩
    case round =>
      clear HDI HBA
      obtain ⟨i, j, xs, rfl, rfl, HI, HBA, HDI⟩ := hrel
      have hij := HDI.out.lt
      by_cases hj : j < n
      · have hjl : (j : Int) < (n : Int) := by omega
        have hil : (i : Int) < (n : Int) := by omega
        have hj0 : j < l0.length := by rw [HN.out]; exact hj
        obtain ⟨ad, e0, hx0, hx1⟩ := at_T28 (Kd.R_reads' HDI.out.row).2.2 (j : Int) (by omega) (by rw [HDI.out.len]; omega)
        injection e0 with e0
        subst e0
        have hxj : rd_T28 xs (j : Int) = l0[j] := by
          rw [rd28_nat xs j (by rw [HDI.out.len]; exact hj)]
          have h1 := List.drop_eq_getElem_cons (show j < xs.length by rw [HDI.out.len]; exact hj)
          rw [HDI.out.rest, List.drop_eq_getElem_cons hj0] at h1
          injection h1 with h1 _
          exact h1.symm
        have HJ := Aside0.mk hj
        have HJ0 := Aside0.mk hj0
        obtain ⟨x, hx⟩ : ∃ x, l0[j] = x := ⟨_, rfl⟩
        rw [hxj, hx, Int.toNat_natCast, add_at, Nat.zero_add] at hx0 hx1
        obtain ⟨hxn, hbg, hnc, hcm, cur, hblk, hsz, htk⟩ := blk28 HDI.out.row
        have HBK := Aside0.mk hblk
        have HSZ := Aside0.mk (show i * 2 + 2 ≤ cur.size by rw [hsz]; omega)
        obtain ⟨b, hb⟩ : ∃ b, goneE x = b := ⟨_, rfl⟩
        have HB := Aside0.mk hb
        have HC := Aside0.mk (fun (W : World) => show Calls Try.prog 36 #[.agg #[.string x.f0, .int .i64 x.f1]] W fun e w' => e = .returned (.bool b) ∧ Below W.heap.size W w' from entries_List_lit1.calls x.f0 x.f1 b W (by rw [gone_lit, hb]))
        have HX := Aside0.mk (show l0[j]? = some x by rw [List.getElem?_eq_getElem HJ0.out, hx])
        clear HJ0
        have HBW := Aside0.mk (Below.refl wr.heap.size wr)
        clear hxj hblk hsz hnc hb hx hj hj0 hxn hbg hcm htk
        have hj2 := HJ.out
        cases b with
        | true =>
          go_wp2_with (first | ((with_reducible refine gate_dst (N := 7) rfl ?_); refine wl_alloc rfl 28 rfl _ zero28 ?_; intro g7 hg w2 hblk hb hsz; have HG7 := Aside0.mk (show wr.heap.size ≤ g7 by rw [hg]; exact Nat.le_refl _); have HK7 := Aside0.mk (show w2.heap[g7]? = some (.cells #[.string ⟨#[]⟩, .int .i64 0] 28 (0, 0)) from hblk); have n0_ := Aside0.mk hb; clear hg hblk hb hsz HBW; have HBW := n0_; clear n0_) | ((with_reducible refine gate_store (t := 28) (p := 7) rfl ?_); refine wl_store_all rfl rfl 28 _ _ rfl g7 rfl _ _ HK7.out (.agg #[.string x.f0, .int .i64 x.f1]) rfl rfl st28_one infosz28 ?_; intro w3 hk7 hg7 hs7; have n0_ := Aside0.mk (show w3.heap[g7]? = some (.cells #[.string x.f0, .int .i64 x.f1] 28 (0, 0)) from hk7); have n1_ := Aside0.mk (grown_below HBW.out hg7 HBW.out.size HG7.out); clear hk7 hg7 hs7 HK7 HBW; have HK7 := n0_; have HBW := n1_; clear n0_ n1_; have h70 : w3.cell? ⟨g7, 0, none⟩ = some (.string x.f0) := (blk_cell HK7.out 0).trans rfl; have h71 : w3.cell? ⟨g7, 1, none⟩ = some (.int .i64 x.f1) := (blk_cell HK7.out 1).trans rfl) | (go_at_call 36; refine (HC.out _).mono ?_; rintro e w4 ⟨rfl, hb⟩; have n0_ := Aside0.mk (blk_below HK7.out hb); have n1_ := Aside0.mk (HBW.out.trans (hb.mono HBW.out.size)); clear hb HK7 HBW h70 h71; have HK7 := n0_; have HBW := n1_; clear n0_ n1_; have h70 : w4.cell? ⟨g7, 0, none⟩ = some (.string x.f0) := (blk_cell HK7.out 0).trans rfl; have h71 : w4.cell? ⟨g7, 1, none⟩ = some (.int .i64 x.f1) := (blk_cell HK7.out 1).trans rfl))
          go_roundg (gk - 1)
          case measure => have := HI.out; have := HJ.out; omega
          case rel => exact ⟨i, j + 1, xs, rfl, by go_num, ⟨by have := HI.out; have := HJ.out; omega⟩, ⟨Nat.le_trans HBA.out HBW.out.size⟩, ⟨(HDI.out.go HBW.out HBA.out).skip HX.out HJ.out HB.out⟩⟩
        | false =>
          go_wp2_with (first | ((with_reducible refine gate_dst (N := 7) rfl ?_); refine wl_alloc rfl 28 rfl _ zero28 ?_; intro g7 hg w2 hblk hb hsz; have HG7 := Aside0.mk (show wr.heap.size ≤ g7 by rw [hg]; exact Nat.le_refl _); have HK7 := Aside0.mk (show w2.heap[g7]? = some (.cells #[.string ⟨#[]⟩, .int .i64 0] 28 (0, 0)) from hblk); have n0_ := Aside0.mk hb; clear hg hblk hb hsz HBW; have HBW := n0_; clear n0_) | ((with_reducible refine gate_store (t := 28) (p := 7) rfl ?_); refine wl_store_all rfl rfl 28 _ _ rfl g7 rfl _ _ HK7.out (.agg #[.string x.f0, .int .i64 x.f1]) rfl rfl st28_one infosz28 ?_; intro w3 hk7 hg7 hs7; have n0_ := Aside0.mk (show w3.heap[g7]? = some (.cells #[.string x.f0, .int .i64 x.f1] 28 (0, 0)) from hk7); have n1_ := Aside0.mk (grown_below HBW.out hg7 HBW.out.size HG7.out); clear hk7 hg7 hs7 HK7 HBW; have HK7 := n0_; have HBW := n1_; clear n0_ n1_; have h70 : w3.cell? ⟨g7, 0, none⟩ = some (.string x.f0) := (blk_cell HK7.out 0).trans rfl; have h71 : w3.cell? ⟨g7, 1, none⟩ = some (.int .i64 x.f1) := (blk_cell HK7.out 1).trans rfl) | (go_at_call 36; refine (HC.out _).mono ?_; rintro e w4 ⟨rfl, hb⟩; have n0_ := Aside0.mk (blk_below HK7.out hb); have n1_ := Aside0.mk (HBW.out.trans (hb.mono HBW.out.size)); clear hb HK7 HBW h70 h71; have HK7 := n0_; have HBW := n1_; clear n0_ n1_; have h70 : w4.cell? ⟨g7, 0, none⟩ = some (.string x.f0) := (blk_cell HK7.out 0).trans rfl; have h71 : w4.cell? ⟨g7, 1, none⟩ = some (.int .i64 x.f1) := (blk_cell HK7.out 1).trans rfl) | ((with_reducible refine gate_store (t := 28) (p := 33) rfl ?_); refine wl_store_agg rfl rfl 28 _ _ rfl g (i * 2) rfl cur 28 (blk_below HBK.out HBW.out) (.agg #[.string x.f0, .int .i64 x.f1]) rfl HSZ.out st28_one infosz28 ?_; intro w5 hk5 hg5 hs5; have n0_ := Aside0.mk ((HDI.out.go HBW.out HBA.out).keep HX.out HJ.out HB.out (blk_below HBK.out HBW.out) (Nat.le_trans HBA.out HBW.out.size) hk5 hg5); have n1_ := Aside0.mk (Nat.le_trans HBA.out (Nat.le_trans HBW.out.size (Nat.le_of_eq hs5.symm))); clear hk5 hg5 hs5 HDI HBA; have HDI := n0_; have HBA := n1_; clear n0_ n1_))
          go_roundg (gk - 1)
          case measure => have := HI.out; have := HJ.out; omega
          case rel => exact ⟨i + 1, j + 1, xs.set i x, by go_num, by go_num, ⟨by have := HI.out; have := HJ.out; omega⟩, HBA, HDI⟩
      · have hjn : j = n := by have := HDI.out.le; omega
        clear hj
        have hD := HDI.out
        subst hjn
        obtain ⟨hxn, hbg, hnc, hcm, cur, hblk, hsz, htk⟩ := blk28 hD.row
        have hfil : xs.take i = l0.filter keepE := by rw [hD.got, List.take_of_length_le (by rw [HN.out]; exact Nat.le_refl _)]
        have hcut : cur.toList.take (i * 2) = flat28 (xs.take i) := by
          rw [← flat28_take xs i (by omega), ← htk, List.take_take]
          congr 1
          omega
        have HE := Aside0.mk (show ∀ (w2 : World) (cur1 : Array Value), w2.heap[g]? = some (.cells cur1 28 (0, 0)) → cur1.size = cur.size → cur1.toList.take (i * 2) = cur.toList.take (i * 2) → Kd.R k28 28 w2 base (fun _ => True) (.slice (some ⟨g, 0, none⟩) i c0) (l0.filter keepE) from by
          intro w2 cur1 q1 q2 q3
          have hl : (xs.take i).length = i := by rw [List.length_take]; omega
          have := own_of_blk (xs := xs.take i) hbg (by rw [hl]; omega) hcm q1 (by rw [q2, hsz]) (by rw [hl, q3, hcut])
          rw [hl, hfil] at this
          exact this)
        have HBK := Aside0.mk hblk
        have HBL := Aside0.mk hD.below
        have HBG := Aside0.mk hbg
        have HLE := Aside0.mk (show i * 2 + (j - i) * (Value.agg #[.string ⟨#[]⟩, .int .i64 0]).cells.size ≤ cur.size by rw [hsz]; show i * 2 + (j - i) * 2 ≤ c0 * 2; omega)
        have hic : ¬ (c0 = i) := by omega
        clear hD hxn hbg hcm hblk hsz htk hfil hcut HDI
        go_wp2_with (first | ((with_reducible refine gate_builtin (b := .clear) (xs := #[.tmp 38]) rfl ?_); refine wl_clear rfl rfl 42 28 (.tmp 38) rfl Try.underlying42 (.agg #[.string ⟨#[]⟩, .int .i64 0]) zero28 st28_one g (i * 2) (j - i) (c0 - i) rfl cur 28 HBK.out HLE.out ?_; intro w2 cur1 q1 q2 q3 q4; have HR2 := Aside0.mk (HE.out w2 cur1 q1 q2 q3); have n0_ := Aside0.mk (grown_below HBL.out q4 HBA.out HBG.out); clear q1 q2 q3 q4 HBL; have HBL := n0_; clear n0_))
        go_ret
        exact ⟨_, rfl, HR2.out, HBL.out⟩
end Go.Proofs.Ytkkflgdobgbmmaa.Q
end
section
/- entries.List: entries.read, then slices.DeleteFunc. -/
namespace Go.Proofs.Ytkkflgdobgbmmaa.Q
open Go.RowKit Go.Proofs.YtkkflgdobgbmmaaW.PrintWords Go.Proofs.YtkkflgdobgbmmaaW.PrintLast Go.Proofs.YtkkflgdobgbmmaaW.PrintMore Go.Proofs.Ytkkflgdobgbmmaa.Pure
attribute [local go_sem] max2_int min2_int max_two min_two max_three min_three max_four min_four
set_option linter.unusedVariables false
set_option linter.unusedSimpArgs false
/-- What entries.List hands back. -/
def listV (l : List Int) : List S28 × Int := if (readV l).2 = 0 then ((readV l).1.filter keepE, 0) else ([], (readV l).2)
set_option maxRecDepth 100000 in
set_option maxHeartbeats 4000000 in
theorem list.calls (A0 : Option Addr) (c0 : Nat) (l0 : List Int) (w : World) (hr0 : Kd.C (Kd.int .u8) w A0 l0.length l0) (hc0 : l0.length ≤ c0) (hL : l0.length ≤ 140737488351232) (hu : u8s l0) :
    Calls Try.prog 20 #[.slice A0 l0.length c0] w fun e w' => ∃ v0_ : Value, e = .returned (.tuple #[v0_, .int .i64 (listV l0).2]) ∧ Kd.R k28 28 w' w.heap.size (fun _ => True) v0_ (listV l0).1 ∧ Below w.heap.size w w' := by
  have HRD := Aside0.mk (read.calls A0 c0 l0 w hr0 hc0 hL hu)
  unfold listV
  obtain ⟨r, hr⟩ : ∃ r, readV l0 = r := ⟨_, rfl⟩
  rw [hr] at HRD ⊢
  obtain ⟨r1, r2⟩ := r
  obtain ⟨L, hLn⟩ : ∃ L, l0.length = L := ⟨_, rfl⟩
  rw [hLn] at HRD ⊢
  clear hr hr0 hc0 hL hu hLn
  by_cases h : r2 = 0
  · subst h
    rw [if_pos rfl]
    go_enter Try.func20, Try.ntmps20
    go_wp2_with (first | (go_at_call 29; refine HRD.out.mono ?_; rintro e w2 ⟨v, rfl, hv, hb⟩; have HV := Aside0.mk (And.intro hv hb); clear hv hb) | (go_at_call 35; refine (del.calls _ r1 w.heap.size _ HV.out.1 HV.out.2.size).mono ?_; rintro e w3 ⟨v3, rfl, hv3, hb3⟩; have HV3 := Aside0.mk (And.intro hv3 hb3); clear hv3 hb3))
    refine bodyPost_ret (v := .tuple #[v3, .int .i64 0]) (by simp [results, Try.f20, go_sem]) rfl ?_
    exact ⟨_, rfl, HV3.out.1, HV.out.2.trans HV3.out.2⟩
  · rw [if_neg h]
    have hd : (r2 != 0) = true := by simp [h]
    go_enter Try.func20, Try.ntmps20
    go_wp2_with (go_at_call 29; refine HRD.out.mono ?_; rintro e w2 ⟨v, rfl, hv, hb⟩; have HV := Aside0.mk (And.intro hv hb); clear hv hb)
    refine bodyPost_ret (v := .tuple #[.slice none 0 0, .int .i64 r2]) (by simp [results, Try.f20, go_sem]) rfl ?_
    exact ⟨_, rfl, R28_of (World.ownsRow_nil _ _ _ _), HV.out.2⟩
end Go.Proofs.Ytkkflgdobgbmmaa.Q
end
section
namespace Go.Proofs.Ytkkflgdobgbmmaa.Q
open Go.RowKit Go.Proofs.YtkkflgdobgbmmaaW.PrintWords Go.Proofs.YtkkflgdobgbmmaaW.PrintLast Go.Proofs.YtkkflgdobgbmmaaW.PrintMore
attribute [local go_sem] max2_int min2_int max_two min_two max_three min_three max_four min_four   -- for this text's walks alone
set_option linter.unusedVariables false
set_option linter.unusedSimpArgs false

end Go.Proofs.Ytkkflgdobgbmmaa.Q
end
section
namespace Go.Proofs.Ytkkflgdobgbmmaa.Q
open Go.RowKit Go.Proofs.YtkkflgdobgbmmaaW.PrintWords Go.Proofs.YtkkflgdobgbmmaaW.PrintLast Go.Proofs.YtkkflgdobgbmmaaW.PrintMore
attribute [local go_sem] max2_int min2_int max_two min_two max_three min_three max_four min_four   -- for this text's walks alone
set_option linter.unusedVariables false
set_option linter.unusedSimpArgs false

end Go.Proofs.Ytkkflgdobgbmmaa.Q
end
section
/- Directories' bytes: what is read, and what is done, by the program and by the reference. -/
namespace Go.Proofs.Ytkkflgdobgbmmaa.Pure
open Go.RowKit Go.Proofs.Ytkkflgdobgbmmaa.Q Go.Proofs.YtkkflgdobgbmmaaW.PrintWords Go.Proofs.YtkkflgdobgbmmaaW.PrintLast Go.Proofs.YtkkflgdobgbmmaaW.PrintMore
set_option linter.unusedVariables false
set_option linter.unusedSimpArgs false

/-! one piece -/
theorem pcOf_length (l : List Int) (i : Nat) (h : 32 * i + 32 ≤ l.length) : (pcOf l i).length = 32 := by unfold pcOf; rw [List.length_take, List.length_drop]; omega
theorem pcOf_rd (l : List Int) (i j : Nat) (h : 32 * i + 32 ≤ l.length) (hj : j < 32) : rd l ((32 * i : Nat) + (j : Int)) = rd (pcOf l i) (j : Int) := by
  rw [show ((32 * i : Nat) : Int) + (j : Int) = ((32 * i + j : Nat) : Int) by omega, rd_nat l _ (by omega), rd_nat _ j (by rw [pcOf_length l i h]; exact hj)]
  unfold pcOf
  rw [List.getElem_take, List.getElem_drop]
theorem pcOf_name (l : List Int) (i q : Nat) (hq : q ≤ 29) : (l.take (32 * i + 3 + q)).drop (32 * i + 3) = ((pcOf l i).drop 3).take q := by
  unfold pcOf
  rw [List.drop_take, List.drop_take, List.drop_drop, List.take_take, show 32 * i + 3 + q - (32 * i + 3) = q by omega, show min q (32 - 3) = q by omega]
theorem pcOf_whole (l : List Int) (i : Nat) : (l.take (32 * i + 32)).drop (32 * i) = pcOf l i := by
  unfold pcOf
  rw [List.drop_take, show 32 * i + 32 - 32 * i = 32 by omega]
theorem pc_u8s {l : List Int} (hu : u8s l) (i : Nat) : u8s (pcOf l i) := u8s_take (u8s_drop hu _) _
theorem pc_parts (p : List Int) (hp : p.length = 32) (hu : u8s p) : pcN p = rd p ((0 : Nat) : Int) + 256 * rd p ((1 : Nat) : Int) ∧ pcL p = rd p ((2 : Nat) : Int) ∧ (0 ≤ rd p ((0 : Nat) : Int) ∧ rd p ((0 : Nat) : Int) < 256) ∧ (0 ≤ rd p ((1 : Nat) : Int) ∧ rd p ((1 : Nat) : Int) < 256) ∧ 0 ≤ rd p ((2 : Nat) : Int) ∧ rd p ((2 : Nat) : Int) < 256 := by
  match p, hp, hu with
  | a :: b :: c :: r, _, hu =>
    have ha := hu a (by simp)
    have hb := hu b (by simp)
    have hc := hu c (by simp)
    have e0 : rd (a :: b :: c :: r) ((0 : Nat) : Int) = a := rfl
    have e1 : rd (a :: b :: c :: r) ((1 : Nat) : Int) = b := rfl
    have e2 : rd (a :: b :: c :: r) ((2 : Nat) : Int) = c := rfl
    rw [e0, e1, e2]
    refine ⟨?_, rfl, ha, hb, hc.1, hc.2⟩
    unfold pcN
    show leval [a, b] = _
    simp only [leval]
    omega
theorem pcE_ok (p : List Int) (hp : p.length = 32) (hu : u8s p) (h : pcOk p = true) : EntOk (pcE p) := by
  obtain ⟨e1, e2, h1, h2, h3, h4⟩ := pc_parts p hp hu
  unfold pcOk at h
  rw [Bool.and_eq_true, Bool.and_eq_true, decide_eq_true_eq] at h
  have hk := h.1.1
  have hz : (pcN p = 0) ↔ (pcL p = 0) := by
    have := beq_iff_eq.mp h.1.2
    constructor
    · intro e; rw [decide_eq_true e] at this; exact of_decide_eq_true this.symm
    · intro e; rw [decide_eq_true e] at this; exact of_decide_eq_true this
  have hs : (pcE p).f0.size = (pcL p).toNat := by
    unfold pcE
    rw [str_size, List.length_take, List.length_drop, hp]
    omega
  refine ⟨?_, ?_, ?_, ?_⟩
  · show 0 ≤ pcN p; omega
  · show pcN p < 65536; omega
  · rw [hs]; omega
  · rw [hs]
    show pcN p = 0 ↔ _
    omega
theorem findAt_pos (p : S28 → Bool) : ∀ (l : List S28) (i : Nat), (0 ≤ findAt p i l) ↔ l.any p = true
  | [], i => by simp [findAt]
  | x :: l, i => by
    rw [findAt, List.any_cons]
    by_cases h : p x = true
    · rw [if_pos h, h]; simp
    · rw [if_neg h, Bool.eq_false_iff.mpr h, Bool.false_or]; exact findAt_pos p l (i + 1)
theorem any_hit (l : List S28) (nm : ByteArray) (ho : ∀ x ∈ l, EntOk x) (hn : nm.size ≠ 0) : l.any (hitE nm) = (l.map fun e => e.f0.data.toList).any (· == nm.data.toList) := by
  induction l with
  | nil => rfl
  | cons x l ih =>
    rw [List.any_cons, List.map_cons, List.any_cons, ih fun y hy => ho y (List.mem_cons_of_mem _ hy)]
    congr 1
    unfold hitE
    have hx := ho x (List.mem_cons_self ..)
    by_cases c : x.f1 = 0
    · rw [if_pos c]
      have h0 := hx.fr.mp c
      symm
      apply beq_eq_false_iff_ne.mpr
      intro e
      have := congrArg List.length e
      rw [data_len, data_len] at this
      omega
    · rw [if_neg c, Go.ByteArray.toList_eq, Go.ByteArray.toList_eq]
theorem str_ne {x y : List Int} (hx : u8s x) (hy : u8s y) : ((strOfNums x).toList = (strOfNums y).toList) ↔ x = y := by
  rw [strOfNums_toList, strOfNums_toList]
  exact ⟨map_u8_inj hx hy, fun e => by rw [e]⟩
set_option maxHeartbeats 2000000 in
theorem refread_j1 (k : Nat) (l : List Int) (hu : u8s l) (i : Nat) (hi : 32 * i + 32 ≤ l.length) (hl : l.length ≤ 1000000) (acc : List S28) (ha : ∀ x ∈ acc, EntOk x) (hal : acc.length ≤ 1000000) (hk : acc.length + 100 ≤ k) (c : Bool)
    (hc : c = true ↔ ¬ (pcL (pcOf l i) ≤ 24 ∧ (pcN (pcOf l i) = 0 ↔ pcL (pcOf l i) = 0))) :
    reliquaryref22_Read.j1 (k + 1) (strOfNums l) (acc.map m30) ((32 * i : Nat) : Int) (pcN (pcOf l i)) (pcL (pcOf l i)) c =
      match stepE acc (pcOf l i) with
      | some acc' => reliquaryref22_Read.l0 k (strOfNums l) (acc'.map m30) ((32 * (i + 1) : Nat) : Int)
      | none => some ([], 11) := by
  obtain ⟨p, hp⟩ : ∃ p, p = pcOf l i := ⟨_, rfl⟩
  have hpl : p.length = 32 := by rw [hp]; exact pcOf_length l i hi
  have hpu : u8s p := by rw [hp]; exact pc_u8s hu i
  have hname := pcOf_name l i
  have hwhole := pcOf_whole l i
  rw [← hp] at hc hname hwhole ⊢
  obtain ⟨e1, e2, h1, h2, h3, h4⟩ := pc_parts p hpl hpu
  simp only [reliquaryref22_Read.j1]
  by_cases hcc : c = true
  · rw [if_pos hcc]
    have hno := hc.mp hcc
    have : stepE acc p = none := by
      unfold stepE
      rw [if_neg]
      rintro ⟨hok, -⟩
      apply hno
      unfold pcOk at hok
      rw [Bool.and_eq_true, Bool.and_eq_true, decide_eq_true_eq] at hok
      refine ⟨hok.1.1, ?_⟩
      have := beq_iff_eq.mp hok.1.2
      constructor
      · intro e; rw [decide_eq_true e] at this; exact of_decide_eq_true this.symm
      · intro e; rw [decide_eq_true e] at this; exact of_decide_eq_true this
    rw [this]
  · rw [if_neg hcc]
    have hyes : pcL p ≤ 24 ∧ (pcN p = 0 ↔ pcL p = 0) := Classical.not_not.mp fun e => hcc (hc.mpr e)
    clear hc hcc
    have hd1 : decide (pcL p ≤ 24) = true := decide_eq_true hyes.1
    have hd2 : (decide (pcN p = 0) == decide (pcL p = 0)) = true := by
      rw [beq_iff_eq]
      exact decide_eq_decide.mpr hyes.2
    have hzz : pcN p = 0 → pcL p = 0 := hyes.2.mp
    have hz2 : pcL p = 0 → pcN p = 0 := hyes.2.mpr
    have hN0 : 0 ≤ pcN p := by omega
    have hN1 : pcN p < 65536 := by omega
    have hL24 := hyes.1
    have hL0 : 0 ≤ pcL p := by omega
    clear hyes e1 e2 h1 h2 h3 h4
    obtain ⟨q, hq⟩ := Int.eq_ofNat_of_zero_le hL0
    have hq24 : q ≤ 24 := by omega
    have w3 : wrap64 (((32 * i : Nat) : Int) + 3) = ((32 * i + 3 : Nat) : Int) := by rw [wrap64_id (by omega) (by omega)]; omega
    have w4 : wrap64 (((32 * i + 3 : Nat) : Int) + (q : Int)) = ((32 * i + 3 + q : Nat) : Int) := by rw [wrap64_id (by omega) (by omega)]; omega
    have w5 : wrap64 (((32 * i : Nat) : Int) + 32) = ((32 * i + 32 : Nat) : Int) := by rw [wrap64_id (by omega) (by omega)]; omega
    have hnm : strOfNums ((l.take (32 * i + 3 + q)).drop (32 * i + 3)) = (pcE p).f0 := by
      rw [hname q (by omega)]
      unfold pcE
      rw [hq, Int.toNat_natCast]
    have hs : (pcE p).f0.size = q := by
      unfold pcE
      rw [str_size, List.length_take, List.length_drop, hpl, hq]
      omega
    have hz := str_size l
    rw [hq, w3, w4, w5, if_pos (by omega), if_pos (by omega), if_pos (by omega), Int.toNat_natCast, Int.toNat_natCast, Int.toNat_natCast, Int.toNat_natCast, str_extract, str_extract, hnm, hwhole, refpiece_eq k (by omega) _ _ (by omega) (by omega) (by omega), Option.bind_some, if_pos (by omega), if_pos (by omega), if_pos (by omega)]
    by_cases hpc : pieceL (bytesOf (pcE p).f0) (pcN p) = p
    · have hok : pcOk p = true := by
        unfold pcOk
        rw [hd1, hd2, Bool.true_and, Bool.true_and]
        exact beq_iff_eq.mpr hpc.symm
      rw [if_pos (by rw [hpc])]
      have hgo : (if (acc.map m30).length < 5864062014805 then reliquaryref22_Read.l0 k (strOfNums l) (acc.map m30 ++ [(⟨(pcE p).f0, pcN p⟩ : S30)]) ((32 * i + 32 : Nat) : Int) else none) = reliquaryref22_Read.l0 k (strOfNums l) ((acc ++ [pcE p]).map m30) ((32 * (i + 1) : Nat) : Int) := by
        rw [if_pos (by rw [List.length_map]; omega), List.map_append]
        rfl
      by_cases hN : pcN p > 0
      · rw [if_pos hN, reffind_eq k acc _ hal (by omega) (fun x hx => (ha x hx).lo), Option.bind_some]
        by_cases hf : 0 ≤ findAt (hitE (pcE p).f0) 0 acc
        · rw [if_pos hf]
          have hany := (findAt_pos _ _ _).mp hf
          rw [any_hit acc _ ha (by omega)] at hany
          have : stepE acc p = none := by
            unfold stepE
            rw [if_neg]
            rintro ⟨-, hh⟩
            rw [hh (by omega)] at hany
            cases hany
          rw [this]
        · rw [if_neg hf, hgo]
          have hany : acc.any (hitE (pcE p).f0) = false := Bool.eq_false_iff.mpr fun e => hf ((findAt_pos _ _ _).mpr e)
          rw [any_hit acc _ ha (by omega)] at hany
          have : stepE acc p = some (acc ++ [pcE p]) := by
            unfold stepE
            rw [if_pos ⟨hok, fun _ => hany⟩]
          rw [this]
      · rw [if_neg hN, hgo]
        have : stepE acc p = some (acc ++ [pcE p]) := by
          unfold stepE
          rw [if_pos ⟨hok, fun e => absurd e (by omega)⟩]
        rw [this]
    · rw [if_neg (fun e => hpc ((str_ne (pieceL_u8s _ (bytesOf_u8s _) _) hpu).mp e))]
      have : stepE acc p = none := by
        unfold stepE
        rw [if_neg]
        rintro ⟨hok, -⟩
        unfold pcOk at hok
        rw [Bool.and_eq_true] at hok
        exact hpc (beq_iff_eq.mp hok.2).symm
      rw [this]
theorem refread_l0 (k : Nat) (l : List Int) (hu : u8s l) (i : Nat) (hi : 32 * i + 32 ≤ l.length) (hl : l.length ≤ 1000000) (acc : List S28) (ha : ∀ x ∈ acc, EntOk x) (hal : acc.length ≤ 1000000) (hk : acc.length + 100 ≤ k) :
    reliquaryref22_Read.l0 (k + 2) (strOfNums l) (acc.map m30) ((32 * i : Nat) : Int) =
      match stepE acc (pcOf l i) with
      | some acc' => reliquaryref22_Read.l0 k (strOfNums l) (acc'.map m30) ((32 * (i + 1) : Nat) : Int)
      | none => some ([], 11) := by
  have key := refread_j1 k l hu i hi hl acc ha hal hk
  have hpl := pcOf_length l i hi
  have hpu := pc_u8s hu i
  obtain ⟨e1, e2, h1, h2, h3, h4⟩ := pc_parts (pcOf l i) hpl hpu
  have hz := str_size l
  have b0 : bt (strOfNums l) ((32 * i : Nat) : Int) = rd (pcOf l i) ((0 : Nat) : Int) := by
    rw [bt_str hu, ← pcOf_rd l i 0 hi (by decide)]
    congr 1
  have b1 : bt (strOfNums l) (((32 * i : Nat) : Int) + 1) = rd (pcOf l i) ((1 : Nat) : Int) := by rw [bt_str hu, ← pcOf_rd l i 1 hi (by decide)]; rfl
  have b2 : bt (strOfNums l) (((32 * i : Nat) : Int) + 2) = rd (pcOf l i) ((2 : Nat) : Int) := by rw [bt_str hu, ← pcOf_rd l i 2 hi (by decide)]; rfl
  have w1 : wrap64 (((32 * i : Nat) : Int) + 1) = ((32 * i : Nat) : Int) + 1 := wrap64_id (by omega) (by omega)
  have w2 : wrap64 (((32 * i : Nat) : Int) + 2) = ((32 * i : Nat) : Int) + 2 := wrap64_id (by omega) (by omega)
  have v0 : wrap64 (rd (pcOf l i) ((0 : Nat) : Int)) = rd (pcOf l i) ((0 : Nat) : Int) := wrap64_id (by omega) (by omega)
  have v1 : wrap64 (rd (pcOf l i) ((1 : Nat) : Int)) = rd (pcOf l i) ((1 : Nat) : Int) := wrap64_id (by omega) (by omega)
  have v2 : wrap64 (rd (pcOf l i) ((2 : Nat) : Int)) = pcL (pcOf l i) := by rw [e2]; exact wrap64_id (by omega) (by omega)
  have v3 : wrap64 (256 * rd (pcOf l i) ((1 : Nat) : Int)) = 256 * rd (pcOf l i) ((1 : Nat) : Int) := wrap64_id (by omega) (by omega)
  have v4 : wrap64 (rd (pcOf l i) ((0 : Nat) : Int) + 256 * rd (pcOf l i) ((1 : Nat) : Int)) = pcN (pcOf l i) := by rw [e1]; exact wrap64_id (by omega) (by omega)
  rw [reliquaryref22_Read.l0]
  simp only [w1, w2, b0, b1, b2, v0, v1, v2, v3, v4]
  rw [if_pos (by omega), if_pos (by omega), if_pos (by omega), if_pos (by omega), if_pos (by omega), if_pos (by omega)]
  by_cases c1 : pcL (pcOf l i) > 24
  · rw [if_pos c1]
    exact key true (by simp; omega)
  · rw [if_neg c1]
    by_cases c2 : pcN (pcOf l i) = 0
    · rw [if_pos c2]
      by_cases c3 : pcL (pcOf l i) > 0
      · rw [if_pos c3]
        exact key true (by simp; omega)
      · rw [if_neg c3, if_neg (by omega)]
        exact key false (by simp; omega)
    · rw [if_neg c2, if_pos (by omega)]
      exact key _ (by rw [beq_iff_eq]; omega)
theorem stepE_ok {acc acc' : List S28} {p : List Int} (hp : p.length = 32) (hu : u8s p) (ha : ∀ x ∈ acc, EntOk x) (h : stepE acc p = some acc') : (∀ x ∈ acc', EntOk x) ∧ acc'.length = acc.length + 1 := by
  unfold stepE at h
  split at h
  · rename_i c
    injection h with h
    subst h
    refine ⟨fun x hx => ?_, by rw [List.length_append]; rfl⟩
    rcases List.mem_append.mp hx with hx | hx
    · exact ha x hx
    · rw [List.mem_singleton.mp hx]
      exact pcE_ok p hp hu c.1
  · cases h
theorem chunks_drop (l : List Int) (i : Nat) (h : i < l.length / 32) : (chunksOf l).drop i = pcOf l i :: (chunksOf l).drop (i + 1) := by
  have hl : (chunksOf l).length = l.length / 32 := by unfold chunksOf; rw [List.length_map, List.length_range]
  rw [List.drop_eq_getElem_cons (by omega)]
  congr 1
  unfold chunksOf
  rw [List.getElem_map, List.getElem_range]
theorem refread_loop (l : List Int) (hu : u8s l) (h32 : l.length % 32 = 0) (hl : l.length ≤ 1000000) (d : Nat) : ∀ (k i : Nat) (acc : List S28), l.length / 32 - i = d → i ≤ l.length / 32 → acc.length = i → (∀ x ∈ acc, EntOk x) → 2 * d + l.length + 200 ≤ k →
    reliquaryref22_Read.l0 k (strOfNums l) (acc.map m30) ((32 * i : Nat) : Int) =
      (match ((chunksOf l).drop i).foldlM stepE acc with | some out => some (out.map m30, 0) | none => some ([], 11)) := by
  induction d with
  | zero =>
    intro k i acc hd hi hai ha hk
    obtain ⟨k, rfl⟩ : ∃ m, k = m + 1 := ⟨k - 1, by omega⟩
    have hcl : (chunksOf l).length = l.length / 32 := by unfold chunksOf; rw [List.length_map, List.length_range]
    have hz := str_size l
    rw [reliquaryref22_Read.l0, if_neg (by omega), List.drop_eq_nil_of_le (by omega)]
    rfl
  | succ d ih =>
    intro k i acc hd hi hai ha hk
    obtain ⟨k, rfl⟩ : ∃ m, k = m + 2 := ⟨k - 2, by omega⟩
    have hi32 : 32 * i + 32 ≤ l.length := by omega
    rw [refread_l0 k l hu i hi32 hl acc ha (by omega) (by omega), chunks_drop l i (by omega), List.foldlM_cons]
    cases hst : stepE acc (pcOf l i) with
    | none => rfl
    | some acc' =>
      have hok := stepE_ok (pcOf_length l i hi32) (pc_u8s hu i) ha hst
      exact ih k (i + 1) acc' (by omega) (by omega) (by omega) hok.1 (by omega)
theorem refread_eq (k : Nat) (l : List Int) (hu : u8s l) (hl : l.length ≤ 1000000) (hk : 2 * l.length + 200 ≤ k) : reliquaryref22_Read.f k (strOfNums l) = some ((readV l).1.map m30, (readV l).2) := by
  unfold reliquaryref22_Read.f readV
  rw [str_size]
  by_cases h : l.length % 32 = 0
  · rw [if_neg (by omega), if_pos h]
    have := refread_loop l hu h hl (l.length / 32) k 0 [] (by omega) (by omega) rfl (fun x hx => by cases hx) (by omega)
    rw [List.drop_zero] at this
    unfold readM readGo
    rw [show (([] : List S28).map m30) = [] from rfl, show ((32 * 0 : Nat) : Int) = 0 from rfl] at this
    rw [this]
    cases (chunksOf l).foldlM stepE [] <;> rfl
  · rw [if_pos (by omega), if_neg h]
    rfl
theorem fold_ok (l : List Int) (hu : u8s l) : ∀ (ps : List (List Int)) (acc out : List S28), (∀ p ∈ ps, p.length = 32 ∧ u8s p) → (∀ x ∈ acc, EntOk x) → ps.foldlM stepE acc = some out → ∀ x ∈ out, EntOk x
  | [], acc, out, _, ha, h => by injection h with h; subst h; exact ha
  | p :: ps, acc, out, hps, ha, h => by
    rw [List.foldlM_cons] at h
    obtain ⟨c, h1, h2⟩ := Option.bind_eq_some_iff.mp h
    have hp := hps p (List.mem_cons_self ..)
    exact fold_ok l hu ps c out (fun q hq => hps q (List.mem_cons_of_mem _ hq)) (stepE_ok hp.1 hp.2 ha h1).1 h2
theorem chunks_mem (l : List Int) (hu : u8s l) : ∀ p ∈ chunksOf l, p.length = 32 ∧ u8s p := by
  intro p hp
  unfold chunksOf at hp
  obtain ⟨i, hi, rfl⟩ := List.mem_map.mp hp
  have := List.mem_range.mp hi
  exact ⟨pcOf_length l i (by omega), pc_u8s hu i⟩
theorem readV_ok (l : List Int) (hu : u8s l) : (∀ x ∈ (readV l).1, EntOk x) ∧ 32 * (readV l).1.length ≤ l.length := by
  unfold readV
  split
  · unfold readM
    split
    · rename_i out h
      refine ⟨fold_ok l hu _ [] out (chunks_mem l hu) (fun x hx => by cases hx) h, ?_⟩
      have := readGo_length _ _ h
      have hcl : (chunksOf l).length = l.length / 32 := by unfold chunksOf; rw [List.length_map, List.length_range]
      show 32 * out.length ≤ _
      omega
    · exact ⟨fun x hx => (by cases hx), Nat.zero_le _⟩
  · exact ⟨fun x hx => (by cases hx), Nat.zero_le _⟩
theorem eread_eq (l : List Int) (hu : u8s l) (hl : l.length ≤ 1000000) : entries_read.f l = some (readV l) := by unfold entries_read.f; rw [if_pos ⟨by omega, hu⟩]
theorem eat_eq (l : List S28) (nm : ByteArray) : entries_at.f l nm = some (findAt (hitE nm) 0 l) := rfl

end Go.Proofs.Ytkkflgdobgbmmaa.Pure
end
section
/- What is done with directories' bytes: by the program and by the reference, in one form. -/
namespace Go.Proofs.Ytkkflgdobgbmmaa.Pure
open Go.RowKit Go.Proofs.Ytkkflgdobgbmmaa.Q Go.Proofs.YtkkflgdobgbmmaaW.PrintWords Go.Proofs.YtkkflgdobgbmmaaW.PrintLast Go.Proofs.YtkkflgdobgbmmaaW.PrintMore
set_option linter.unusedVariables false
set_option linter.unusedSimpArgs false

theorem findAt_bd (p : S28 → Bool) : ∀ (l : List S28) (i : Nat), findAt p i l = -1 ∨ ((i : Int) ≤ findAt p i l ∧ findAt p i l < (i : Int) + l.length)
  | [], i => Or.inl rfl
  | x :: l, i => by
    rw [findAt, List.length_cons]
    by_cases h : p x = true
    · rw [if_pos h]; right; omega
    · rw [if_neg h]
      rcases findAt_bd p l (i + 1) with h | h
      · exact Or.inl h
      · right; omega
/-! Find -/
def findV (l : List Int) (nm : ByteArray) : Int × Int :=
  if (readV l).2 ≠ 0 then (0, (readV l).2) else if findAt (hitE nm) 0 (readV l).1 < 0 then (0, 21) else ((rd_T28 (readV l).1 (findAt (hitE nm) 0 (readV l).1)).f1, 0)
theorem found_eq (l : List Int) (nm : ByteArray) (hu : u8s l) (hl : l.length ≤ 1000000) : entries_found.f l nm = some (if (readV l).2 ≠ 0 then ([], 0, (readV l).2) else if findAt (hitE nm) 0 (readV l).1 < 0 then ([], 0, 21) else ((readV l).1, findAt (hitE nm) 0 (readV l).1, 0)) := by
  unfold entries_found.f
  rw [eread_eq l hu hl, Option.bind_some]
  by_cases h : (readV l).2 = 0
  · rw [if_pos h, eat_eq, Option.bind_some, if_neg (fun e : (readV l).2 ≠ 0 => e h)]
    by_cases h2 : findAt (hitE nm) 0 (readV l).1 < 0
    · rw [if_pos h2, if_pos h2]
    · rw [if_neg h2, if_neg h2]
  · rw [if_neg h, if_pos h]
theorem find_eq (l : List Int) (nm : ByteArray) (hu : u8s l) (hl : l.length ≤ 1000000) : entries_Find.f l nm = some (findV l nm) := by
  unfold entries_Find.f findV
  rw [found_eq l nm hu hl, Option.bind_some]
  by_cases h : (readV l).2 = 0
  · rw [if_neg (fun e : (readV l).2 ≠ 0 => e h), if_neg (fun e : (readV l).2 ≠ 0 => e h)]
    have hb := findAt_bd (hitE nm) (readV l).1 0
    by_cases h2 : findAt (hitE nm) 0 (readV l).1 < 0
    · rw [if_pos h2, if_pos h2, if_neg (by decide)]
    · rw [if_neg h2, if_neg h2]
      show (if (0 : Int) = 0 then (if 0 ≤ findAt (hitE nm) 0 (readV l).1 then (if findAt (hitE nm) 0 (readV l).1 < ((readV l).1.length : Int) then _ else none) else none) else _) = _
      rw [if_pos rfl, if_pos (by omega), if_pos (by omega)]
  · rw [if_pos h, if_pos h]
    show (if (readV l).2 = 0 then _ else _) = _
    rw [if_neg h]
theorem rdm (l : List S28) (i : Int) (h0 : 0 ≤ i) (h1 : i < l.length) : rd_T30 (l.map m30) i = m30 (rd_T28 l i) := by
  obtain ⟨n, rfl⟩ := Int.eq_ofNat_of_zero_le h0
  rw [rd30 _ n (by rw [List.length_map]; omega), List.getElem_map, rd28 l n (by omega)]
theorem whose_eq (k : Nat) (l : List Int) (nm : ByteArray) (hu : u8s l) (hl : l.length ≤ 1000000) (hk : 2 * l.length + 200 ≤ k) : reliquaryref22_Whose.f k (strOfNums l) nm = some (findV l nm) := by
  unfold reliquaryref22_Whose.f findV
  have hok := readV_ok l hu
  rw [refread_eq k l hu hl hk, Option.bind_some]
  by_cases h : (readV l).2 = 0
  · show (if (readV l).2 = 0 then (reliquaryref22_Find.f k ((readV l).1.map m30) nm).bind _ else _) = _
    have hb := findAt_bd (hitE nm) (readV l).1 0
    rw [if_pos h, if_neg (fun e : (readV l).2 ≠ 0 => e h), reffind_eq k _ nm (by omega) (by omega) (fun x hx => (hok.1 x hx).lo), Option.bind_some]
    by_cases h2 : findAt (hitE nm) 0 (readV l).1 < 0
    · rw [if_pos h2, if_pos h2]
    · rw [if_neg h2, if_neg h2, if_pos (by omega), if_pos (by rw [List.length_map]; omega), rdm _ _ (by omega) (by omega)]
      rfl
  · show (if (readV l).2 = 0 then (reliquaryref22_Find.f k ((readV l).1.map m30) nm).bind _ else _) = _
    rw [if_neg h, if_pos h]

/-! Insert -/
def freeAt (l : List S28) : Int := findAt (fun x => x.f1 == 0) 0 l
def putFree (l : List S28) (x : S28) : List S28 := if freeAt l < 0 then l ++ [x] else l.set (freeAt l).toNat x
def insV (l : List Int) (nm : ByteArray) (n : Int) : List Int × Int :=
  if ckV nm ≠ 0 then ([], ckV nm) else if ¬ (1 ≤ n ∧ n < 65536) then ([], 1) else if (readV l).2 ≠ 0 then ([], (readV l).2) else
    if 0 ≤ findAt (hitE nm) 0 (readV l).1 then ([], 22) else (bytesL (putFree (readV l).1 ⟨nm, n⟩), 0)
theorem number_eq (n : Int) : entries_number.f n = some (decide (1 ≤ n ∧ n < 65536)) := by
  unfold entries_number.f
  by_cases h : n ≥ 1
  · rw [if_pos h]; congr 1; simp; omega
  · rw [if_neg h]; congr 1; symm; simp; omega
theorem free_loop (l : List S28) (hl : l.length ≤ 1000000) (d : Nat) : ∀ (k i : Nat), l.length - i = d → i ≤ l.length → d < k →
    entries_Entry_31_at_entries_Insert_lit1.l0 k l (l.length : Int) i = some (findAt (fun x => x.f1 == 0) i (l.drop i)) := by
  induction d with
  | zero =>
    intro k i hd hi hk
    obtain ⟨k, rfl⟩ : ∃ m, k = m + 1 := ⟨k - 1, by omega⟩
    simp only [entries_Entry_31_at_entries_Insert_lit1.l0]
    rw [if_neg (by omega), List.drop_eq_nil_of_le (by omega), findAt]
  | succ d ih =>
    intro k i hd hi hk
    obtain ⟨k, rfl⟩ : ∃ m, k = m + 1 := ⟨k - 1, by omega⟩
    have hil : i < l.length := by omega
    simp only [entries_Entry_31_at_entries_Insert_lit1.l0]
    rw [if_pos (by omega), if_pos (by omega), if_pos (by omega), rd28 l i hil, wrap64_id (by omega) (by omega), List.drop_eq_getElem_cons hil, findAt]
    show (if (l[i].f1 == 0) = true then _ else _) = _
    by_cases c : (l[i].f1 == 0) = true
    · rw [if_pos c, if_pos c]
    · rw [if_neg c, if_neg c]
      exact ih k (i + 1) (by omega) (by omega) (by omega)
theorem free_eq (k : Nat) (l : List S28) (hl : l.length ≤ 1000000) (hk : l.length < k) : entries_Entry_31_at_entries_Insert_lit1.f k l = some (freeAt l) := by
  unfold entries_Entry_31_at_entries_Insert_lit1.f
  exact free_loop l hl l.length k 0 (by omega) (by omega) hk
def Small (l : List S28) : Prop := ∀ x ∈ l, 0 ≤ x.f1 ∧ x.f1 < 65536 ∧ x.f0.size ≤ 24
theorem small_of {l : List S28} (h : ∀ x ∈ l, EntOk x) : Small l := fun x hx => ⟨(h x hx).lo, (h x hx).hi, (h x hx).nm⟩
theorem small_set {l : List S28} (h : Small l) (i : Nat) {x : S28} (hx : 0 ≤ x.f1 ∧ x.f1 < 65536 ∧ x.f0.size ≤ 24) : Small (l.set i x) := fun y hy => by
  rcases List.mem_or_eq_of_mem_set hy with hy | rfl
  · exact h y hy
  · exact hx
theorem small_append {l : List S28} (h : Small l) {x : S28} (hx : 0 ≤ x.f1 ∧ x.f1 < 65536 ∧ x.f0.size ≤ 24) : Small (l ++ [x]) := fun y hy => by
  rcases List.mem_append.mp hy with hy | hy
  · exact h y hy
  · rw [List.mem_singleton.mp hy]; exact hx
theorem insert_eq (k : Nat) (l : List Int) (nm : ByteArray) (n : Int) (hu : u8s l) (hl : l.length ≤ 1000000) (hk : l.length + 200 ≤ k) : entries_Insert.f k l nm n = some (insV l nm n) := by
  unfold entries_Insert.f insV
  rw [check_eq, Option.bind_some]
  by_cases h1 : ckV nm = 0
  · have hnm := ckV_zero h1
    rw [if_pos h1, if_neg (fun e : ckV nm ≠ 0 => e h1), number_eq, Option.bind_some]
    by_cases h2 : 1 ≤ n ∧ n < 65536
    · rw [if_pos (decide_eq_true h2), if_neg (fun e : ¬ (1 ≤ n ∧ n < 65536) => e h2), eread_eq l hu hl, Option.bind_some]
      by_cases h3 : (readV l).2 = 0
      · have hok := readV_ok l hu
        have hsm := small_of hok.1
        rw [if_pos h3, if_neg (fun e : (readV l).2 ≠ 0 => e h3), eat_eq, Option.bind_some]
        by_cases h4 : 0 ≤ findAt (hitE nm) 0 (readV l).1
        · rw [if_pos h4, if_pos h4]
        · rw [if_neg h4, if_neg h4, free_eq k _ (by omega) (by omega), Option.bind_some]
          have hb := findAt_bd (fun x => x.f1 == 0) (readV l).1 0
          unfold putFree
          by_cases h5 : freeAt (readV l).1 < 0
          · rw [if_pos h5, if_pos h5, if_pos (by omega), bytes_eq k _ (by rw [List.length_append]; show _ + 1 ≤ _; omega) (by rw [List.length_append]; show _ + 1 < _; omega) (small_append hsm ⟨by show 0 ≤ n; omega, by show n < _; omega, hnm.2.1⟩), Option.bind_some]
          · rw [if_neg h5, if_neg h5, if_pos (by omega), if_pos (by unfold freeAt at h5 ⊢; omega), bytes_eq k _ (by rw [List.length_set]; omega) (by rw [List.length_set]; omega) (small_set hsm _ ⟨by show 0 ≤ n; omega, by show n < _; omega, hnm.2.1⟩), Option.bind_some]
      · rw [if_neg h3, if_pos h3]
    · rw [if_neg (by rw [decide_eq_false h2]; decide), if_pos h2]
  · rw [if_neg h1, if_pos h1]
theorem refins_loop (l : List S28) (nm : ByteArray) (n : Int) (hl : l.length ≤ 100000) (hs : Small l) (hx : 0 ≤ n ∧ n < 65536 ∧ nm.size ≤ 24) (d : Nat) : ∀ (k i : Nat), l.length - i = d → i ≤ l.length → d + l.length + 100 < k →
    reliquaryref22_Insert.l0 k (l.map m30) i nm n = some (strOfNums (bytesL (if findAt (fun x => x.f1 == 0) i (l.drop i) < 0 then l ++ [⟨nm, n⟩] else l.set (findAt (fun x => x.f1 == 0) i (l.drop i)).toNat ⟨nm, n⟩)), 0) := by
  induction d with
  | zero =>
    intro k i hd hi hk
    obtain ⟨k, rfl⟩ : ∃ m, k = m + 1 := ⟨k - 1, by omega⟩
    simp only [reliquaryref22_Insert.l0]
    rw [List.length_map, if_neg (by omega), List.drop_eq_nil_of_le (by omega), findAt, if_pos (by decide), refbytes_eq k l (by omega) (by omega) hs, Option.bind_some, refpiece_eq k (by omega) nm n hx.1 hx.2.1 (by omega), Option.bind_some,
      if_pos (by rw [str_size, str_size, bytesL_length, pieceL_len]; omega), bytesL_append, bytesL_one, str_append]
    rfl
  | succ d ih =>
    intro k i hd hi hk
    obtain ⟨k, rfl⟩ : ∃ m, k = m + 1 := ⟨k - 1, by omega⟩
    have hil : i < l.length := by omega
    simp only [reliquaryref22_Insert.l0]
    rw [List.length_map, if_pos (by omega), if_pos (by omega), rdm l i (by omega) (by omega), rd28 l i hil, wrap64_id (by omega) (by omega), List.drop_eq_getElem_cons hil, findAt]
    by_cases c : l[i].f1 = 0
    · rw [if_pos (show (m30 l[i]).f1 = 0 from c), if_pos (show (l[i].f1 == 0) = true from beq_iff_eq.mpr c), if_neg (by omega), Int.toNat_natCast]
      have he : (l.map m30).set i (⟨nm, n⟩ : S30) = (l.set i ⟨nm, n⟩).map m30 := by rw [List.map_set]; rfl
      rw [he, refbytes_eq k _ (by rw [List.length_set]; omega) (by rw [List.length_set]; omega) (small_set hs _ hx), Option.bind_some]
    · rw [if_neg (show ¬ (m30 l[i]).f1 = 0 from c), if_neg (show ¬ (l[i].f1 == 0) = true from fun e => c (beq_iff_eq.mp e))]
      exact ih k (i + 1) (by omega) (by omega) (by omega)
theorem refinsert_eq (k : Nat) (l : List Int) (nm : ByteArray) (n : Int) (hu : u8s l) (hl : l.length ≤ 100000) (hk : 3 * l.length + 400 ≤ k) : reliquaryref22_Insert.f k (strOfNums l) nm n = some (strOfNums (insV l nm n).1, (insV l nm n).2) := by
  unfold reliquaryref22_Insert.f insV
  obtain ⟨k, rfl⟩ : ∃ m, k = m + 1 := ⟨k - 1, by omega⟩
  rw [refcheck_eq (k + 1) (by omega), Option.bind_some]
  by_cases h1 : ckV nm = 0
  · have hnm := ckV_zero h1
    rw [if_pos h1, if_neg (fun e : ckV nm ≠ 0 => e h1)]
    have key : ∀ c, (c = true ↔ ¬ (1 ≤ n ∧ n < 65536)) → reliquaryref22_Insert.j0 (k + 1) (strOfNums l) c nm n = some (strOfNums (if ¬ (1 ≤ n ∧ n < 65536) then (([], 1) : List Int × Int) else if (readV l).2 ≠ 0 then ([], (readV l).2) else
        if 0 ≤ findAt (hitE nm) 0 (readV l).1 then ([], 22) else (bytesL (putFree (readV l).1 ⟨nm, n⟩), 0)).1, (if ¬ (1 ≤ n ∧ n < 65536) then (([], 1) : List Int × Int) else if (readV l).2 ≠ 0 then ([], (readV l).2) else
        if 0 ≤ findAt (hitE nm) 0 (readV l).1 then ([], 22) else (bytesL (putFree (readV l).1 ⟨nm, n⟩), 0)).2) := by
      intro c hc
      simp only [reliquaryref22_Insert.j0]
      by_cases h2 : 1 ≤ n ∧ n < 65536
      · rw [if_neg (fun e => (hc.mp e) h2), if_neg (fun e : ¬ (1 ≤ n ∧ n < 65536) => e h2), refread_eq k l hu (by omega) (by omega), Option.bind_some]
        by_cases h3 : (readV l).2 = 0
        · have hok := readV_ok l hu
          have hsm := small_of hok.1
          rw [if_neg (fun e : (readV l).2 ≠ 0 => e h3)]
          show (if (readV l).2 = 0 then (reliquaryref22_Find.f k ((readV l).1.map m30) nm).bind _ else _) = _
          rw [if_pos h3, reffind_eq k _ nm (by omega) (by omega) (fun x hx => (hok.1 x hx).lo), Option.bind_some]
          by_cases h4 : 0 ≤ findAt (hitE nm) 0 (readV l).1
          · rw [if_pos h4, if_pos h4, str_nil]
          · rw [if_neg h4, if_neg h4]
            have := refins_loop (readV l).1 nm n (by omega) hsm ⟨by omega, by omega, hnm.2.1⟩ (readV l).1.length k 0 (by omega) (by omega) (by omega)
            rw [List.drop_zero] at this
            exact this
        · rw [if_pos h3]
          show (if (readV l).2 = 0 then (reliquaryref22_Find.f k ((readV l).1.map m30) nm).bind _ else _) = _
          rw [if_neg h3, str_nil]
      · rw [if_pos (hc.mpr h2), if_pos h2, str_nil]
    by_cases h5 : n < 1
    · rw [if_pos h5]
      exact key true (by simp; omega)
    · rw [if_neg h5]
      exact key _ (by simp; omega)
  · rw [if_neg h1, if_pos h1, str_nil]

/-! Remove -/
/-- The last free ones are cut off. -/
def trim (l : List S28) : List S28 := (l.reverse.dropWhile fun x => x.f1 == 0).reverse
theorem trim_snoc (l : List S28) (x : S28) : trim (l ++ [x]) = if x.f1 = 0 then trim l else l ++ [x] := by
  unfold trim
  rw [List.reverse_append, List.reverse_singleton, List.singleton_append, List.dropWhile_cons]
  by_cases h : x.f1 = 0
  · rw [if_pos (beq_iff_eq.mpr h), if_pos h]
  · rw [if_neg (fun e => h (beq_iff_eq.mp e)), if_neg h, List.reverse_cons, List.reverse_reverse]
theorem trim_take (l : List S28) (i : Nat) (h : i < l.length) : trim (l.take (i + 1)) = if l[i].f1 = 0 then trim (l.take i) else l.take (i + 1) := by
  rw [List.take_succ_eq_append_getElem h, trim_snoc]
def remV (l : List Int) (nm : ByteArray) : List Int × Int :=
  if ckV nm ≠ 0 then ([], ckV nm) else if (readV l).2 ≠ 0 then ([], (readV l).2) else
    if findAt (hitE nm) 0 (readV l).1 < 0 then ([], 21) else (bytesL (trim ((readV l).1.set (findAt (hitE nm) 0 (readV l).1).toNat ⟨⟨#[]⟩, 0⟩)), 0)
theorem rem_loop (l : List S28) (hl : l.length ≤ 100000) (hs : Small l) : ∀ (n k : Nat), n ≤ l.length → n + l.length + 100 < k → entries_Remove.l0 k (l.take n) = some (bytesL (trim (l.take n)), 0) := by
  intro n
  induction n with
  | zero =>
    intro k hn hk
    obtain ⟨k, rfl⟩ : ∃ m, k = m + 1 := ⟨k - 1, by omega⟩
    simp only [entries_Remove.l0]
    rw [List.take_zero, if_neg (by simp), bytes_eq k [] (by simp) (by simp; omega) (fun x hx => by cases hx), Option.bind_some]
    rfl
  | succ n ih =>
    intro k hn hk
    obtain ⟨k, rfl⟩ : ∃ m, k = m + 1 := ⟨k - 1, by omega⟩
    have hlen : (l.take (n + 1)).length = n + 1 := by rw [List.length_take]; omega
    simp only [entries_Remove.l0]
    rw [hlen, if_pos (by omega), wrap64_id (by omega) (by omega), if_pos (by omega), if_pos (by omega), show ((n + 1 : Nat) : Int) - 1 = (n : Int) by omega, rd28 _ n (by omega), List.getElem_take, Int.toNat_natCast, List.take_take, Nat.min_eq_left (by omega), trim_take l n (by omega)]
    by_cases c : (l[n]'(by omega)).f1 = 0
    · rw [if_pos c, if_pos c, if_pos (by omega)]
      exact ih k (by omega) (by omega)
    · rw [if_neg c, if_neg c, bytes_eq k _ (by omega) (by omega) (fun x hx => hs x (List.mem_of_mem_take hx)), Option.bind_some]
theorem remove_eq (k : Nat) (l : List Int) (nm : ByteArray) (hu : u8s l) (hl : l.length ≤ 100000) (hk : 2 * l.length + 200 ≤ k) : entries_Remove.f k l nm = some (remV l nm) := by
  unfold entries_Remove.f remV
  rw [check_eq, Option.bind_some]
  by_cases h1 : ckV nm = 0
  · rw [if_pos h1, if_neg (fun e : ckV nm ≠ 0 => e h1), found_eq l nm hu (by omega), Option.bind_some]
    by_cases h3 : (readV l).2 = 0
    · have hok := readV_ok l hu
      have hsm := small_of hok.1
      have hb := findAt_bd (hitE nm) (readV l).1 0
      rw [if_neg (fun e : (readV l).2 ≠ 0 => e h3), if_neg (fun e : (readV l).2 ≠ 0 => e h3)]
      by_cases h4 : findAt (hitE nm) 0 (readV l).1 < 0
      · rw [if_pos h4, if_pos h4]
        rfl
      · rw [if_neg h4, if_neg h4]
        show (if (0 : Int) = 0 then (if 0 ≤ findAt (hitE nm) 0 (readV l).1 then (if findAt (hitE nm) 0 (readV l).1 < ((readV l).1.length : Int) then entries_Remove.l0 k ((readV l).1.set (findAt (hitE nm) 0 (readV l).1).toNat ⟨⟨#[]⟩, 0⟩) else none) else none) else _) = _
        rw [if_pos rfl, if_pos (by omega), if_pos (by omega)]
        have hx : Small ((readV l).1.set (findAt (hitE nm) 0 (readV l).1).toNat ⟨⟨#[]⟩, 0⟩) := small_set hsm _ ⟨Int.le_refl _, by decide, Nat.zero_le _⟩
        have hlen : ((readV l).1.set (findAt (hitE nm) 0 (readV l).1).toNat ⟨⟨#[]⟩, 0⟩).length = (readV l).1.length := List.length_set
        have := rem_loop _ (by rw [hlen]; omega) hx _ k (Nat.le_refl _) (by rw [hlen]; omega)
        rw [List.take_length] at this
        exact this
    · rw [if_pos h3, if_pos h3]
      show (if (readV l).2 = 0 then _ else _) = _
      rw [if_neg h3]
  · rw [if_neg h1, if_pos h1]
theorem refrem_loop (l : List S28) (hl : l.length ≤ 100000) (hs : Small l) : ∀ (n k : Nat), n ≤ l.length → n + l.length + 100 < k → reliquaryref22_Remove.l0 k (l.map m30) (n : Int) = some (strOfNums (bytesL (trim (l.take n))), 0) := by
  intro n
  induction n with
  | zero =>
    intro k hn hk
    obtain ⟨k, rfl⟩ : ∃ m, k = m + 1 := ⟨k - 1, by omega⟩
    simp only [reliquaryref22_Remove.l0]
    rw [if_neg (by omega), if_pos (by omega), if_pos (by rw [List.length_map]; omega), Int.toNat_natCast, ← List.map_take, refbytes_eq k _ (by rw [List.length_take]; omega) (by rw [List.length_take]; omega) (fun x hx => hs x (List.mem_of_mem_take hx)), Option.bind_some]
    rfl
  | succ n ih =>
    intro k hn hk
    obtain ⟨k, rfl⟩ : ∃ m, k = m + 1 := ⟨k - 1, by omega⟩
    simp only [reliquaryref22_Remove.l0]
    rw [if_pos (by omega), wrap64_id (by omega) (by omega), if_pos (by omega), if_pos (by rw [List.length_map]; omega), show ((n + 1 : Nat) : Int) - 1 = (n : Int) by omega, rdm l n (by omega) (by omega), rd28 l n (by omega), trim_take l n (by omega)]
    by_cases c : (l[n]'(by omega)).f1 = 0
    · rw [if_pos (show (m30 (l[n]'(by omega))).f1 = 0 from c), if_pos c]
      exact ih k (by omega) (by omega)
    · rw [if_neg (show ¬ (m30 (l[n]'(by omega))).f1 = 0 from c), if_neg c, if_pos (by omega), if_pos (by rw [List.length_map]; omega), Int.toNat_natCast, ← List.map_take, refbytes_eq k _ (by rw [List.length_take]; omega) (by rw [List.length_take]; omega) (fun x hx => hs x (List.mem_of_mem_take hx)), Option.bind_some]
theorem refremove_eq (k : Nat) (l : List Int) (nm : ByteArray) (hu : u8s l) (hl : l.length ≤ 100000) (hk : 2 * l.length + 400 ≤ k) : reliquaryref22_Remove.f k (strOfNums l) nm = some (strOfNums (remV l nm).1, (remV l nm).2) := by
  unfold reliquaryref22_Remove.f remV
  rw [refcheck_eq k (by omega), Option.bind_some]
  by_cases h1 : ckV nm = 0
  · rw [if_pos h1, if_neg (fun e : ckV nm ≠ 0 => e h1), refread_eq k l hu (by omega) (by omega), Option.bind_some]
    by_cases h3 : (readV l).2 = 0
    · have hok := readV_ok l hu
      have hsm := small_of hok.1
      have hb := findAt_bd (hitE nm) (readV l).1 0
      rw [if_neg (fun e : (readV l).2 ≠ 0 => e h3)]
      show (if (readV l).2 = 0 then (reliquaryref22_Find.f k ((readV l).1.map m30) nm).bind _ else _) = _
      rw [if_pos h3, reffind_eq k _ nm (by omega) (by omega) (fun x hx => (hok.1 x hx).lo), Option.bind_some]
      by_cases h4 : findAt (hitE nm) 0 (readV l).1 < 0
      · rw [if_pos h4, if_pos h4, str_nil]
      · have hlm : ((readV l).1.map m30).length = (readV l).1.length := List.length_map _
        rw [if_neg h4, if_neg h4, if_pos (by omega)]
        show (if findAt (hitE nm) 0 (readV l).1 < ((((readV l).1.map m30).length : Nat) : Int) then reliquaryref22_Remove.l0 k (((readV l).1.map m30).set (findAt (hitE nm) 0 (readV l).1).toNat ⟨⟨#[]⟩, 0⟩) ((((readV l).1.map m30).length : Nat) : Int) else none) = _
        have hx : Small ((readV l).1.set (findAt (hitE nm) 0 (readV l).1).toNat ⟨⟨#[]⟩, 0⟩) := small_set hsm _ ⟨Int.le_refl _, by decide, Nat.zero_le _⟩
        have hlen : ((readV l).1.set (findAt (hitE nm) 0 (readV l).1).toNat ⟨⟨#[]⟩, 0⟩).length = (readV l).1.length := List.length_set
        have he : ((readV l).1.map m30).set (findAt (hitE nm) 0 (readV l).1).toNat (⟨⟨#[]⟩, 0⟩ : S30) = ((readV l).1.set (findAt (hitE nm) 0 (readV l).1).toNat ⟨⟨#[]⟩, 0⟩).map m30 := by rw [List.map_set]; rfl
        rw [hlm, if_pos (by omega), he]
        have := refrem_loop _ (by rw [hlen]; omega) hx _ k (Nat.le_refl _) (by rw [hlen]; omega)
        rw [List.take_length, hlen] at this
        exact this
    · rw [if_pos h3]
      show (if (readV l).2 = 0 then (reliquaryref22_Find.f k ((readV l).1.map m30) nm).bind _ else _) = _
      rw [if_neg h3, str_nil]
  · rw [if_neg h1, if_pos h1, str_nil]

/-! Replace -/
def repV (l : List Int) (nm : ByteArray) (n : Int) : List Int × Int :=
  if ckV nm ≠ 0 ∧ nm.toList ≠ [46, 46] then ([], ckV nm) else if ¬ (1 ≤ n ∧ n < 65536) then ([], 1) else if (readV l).2 ≠ 0 then ([], (readV l).2) else
    if findAt (hitE nm) 0 (readV l).1 < 0 then ([], 21) else (bytesL ((readV l).1.set (findAt (hitE nm) 0 (readV l).1).toNat ⟨(rd_T28 (readV l).1 (findAt (hitE nm) 0 (readV l).1)).f0, n⟩), 0)
theorem rd28_small {l : List S28} (hs : Small l) (i : Int) (h0 : 0 ≤ i) (h1 : i < l.length) : (rd_T28 l i).f0.size ≤ 24 := by
  obtain ⟨n, rfl⟩ := Int.eq_ofNat_of_zero_le h0
  rw [rd28 l n (by omega)]
  exact (hs _ (List.getElem_mem _)).2.2
theorem rep_j0 (k : Nat) (l : List Int) (nm : ByteArray) (n : Int) (hu : u8s l) (hl : l.length ≤ 100000) (hk : 2 * l.length + 400 ≤ k) (c : Bool) (hc : c = true ↔ (ckV nm ≠ 0 ∧ nm.toList ≠ [46, 46])) : entries_Replace.j0 (k + 1) l (ckV nm) c nm n = some (repV l nm n) := by
  simp only [entries_Replace.j0]
  unfold repV
  by_cases h0 : ckV nm ≠ 0 ∧ nm.toList ≠ [46, 46]
  · rw [if_pos (hc.mpr h0), if_pos h0]
  · rw [if_neg (fun e => h0 (hc.mp e)), if_neg h0, number_eq, Option.bind_some]
    by_cases h2 : 1 ≤ n ∧ n < 65536
    · rw [if_pos (decide_eq_true h2), if_neg (fun e : ¬ (1 ≤ n ∧ n < 65536) => e h2), found_eq l nm hu (by omega), Option.bind_some]
      by_cases h3 : (readV l).2 = 0
      · have hok := readV_ok l hu
        have hsm := small_of hok.1
        have hb := findAt_bd (hitE nm) (readV l).1 0
        rw [if_neg (fun e : (readV l).2 ≠ 0 => e h3), if_neg (fun e : (readV l).2 ≠ 0 => e h3)]
        by_cases h4 : findAt (hitE nm) 0 (readV l).1 < 0
        · rw [if_pos h4, if_pos h4]
          rfl
        · rw [if_neg h4, if_neg h4]
          show (if (0 : Int) = 0 then (if 0 ≤ findAt (hitE nm) 0 (readV l).1 then (if findAt (hitE nm) 0 (readV l).1 < ((readV l).1.length : Int) then (entries_bytes.f k ((readV l).1.set (findAt (hitE nm) 0 (readV l).1).toNat ⟨(rd_T28 (readV l).1 (findAt (hitE nm) 0 (readV l).1)).f0, n⟩)).bind _ else none) else none) else _) = _
          rw [if_pos rfl, if_pos (by omega), if_pos (by omega), bytes_eq k _ (by rw [List.length_set]; omega) (by rw [List.length_set]; omega) (small_set (x := ⟨(rd_T28 (readV l).1 (findAt (hitE nm) 0 (readV l).1)).f0, n⟩) hsm _ ⟨by show 0 ≤ n; omega, by show n < _; omega, rd28_small hsm _ (by omega) (by omega)⟩), Option.bind_some]
      · rw [if_pos h3, if_pos h3]
        show (if (readV l).2 = 0 then _ else _) = _
        rw [if_neg h3]
    · rw [if_neg (by rw [decide_eq_false h2]; decide), if_pos h2]
theorem replace_eq (k : Nat) (l : List Int) (nm : ByteArray) (n : Int) (hu : u8s l) (hl : l.length ≤ 100000) (hk : 2 * l.length + 401 ≤ k) : entries_Replace.f k l nm n = some (repV l nm n) := by
  obtain ⟨k, rfl⟩ : ∃ m, k = m + 1 := ⟨k - 1, by omega⟩
  unfold entries_Replace.f
  rw [check_eq, Option.bind_some]
  by_cases h1 : ckV nm = 0
  · rw [if_pos h1]
    exact rep_j0 k l nm n hu hl (by omega) false (by simp [h1])
  · rw [if_neg h1]
    exact rep_j0 k l nm n hu hl (by omega) _ (by rw [bne_iff_ne]; exact ⟨fun h => ⟨h1, h⟩, fun h => h.2⟩)
theorem refrep_j1 (k : Nat) (l : List Int) (nm : ByteArray) (n : Int) (hu : u8s l) (hl : l.length ≤ 100000) (hk : 2 * l.length + 400 ≤ k) (h0 : ¬ (ckV nm ≠ 0 ∧ nm.toList ≠ [46, 46])) (c : Bool) (hc : c = true ↔ ¬ (1 ≤ n ∧ n < 65536)) :
    reliquaryref22_Replace.j1 (k + 1) (strOfNums l) c nm n = some (strOfNums (repV l nm n).1, (repV l nm n).2) := by
  simp only [reliquaryref22_Replace.j1]
  unfold repV
  rw [if_neg h0]
  by_cases h2 : 1 ≤ n ∧ n < 65536
  · rw [if_neg (fun e => (hc.mp e) h2), if_neg (fun e : ¬ (1 ≤ n ∧ n < 65536) => e h2), refread_eq k l hu (by omega) (by omega), Option.bind_some]
    by_cases h3 : (readV l).2 = 0
    · have hok := readV_ok l hu
      have hsm := small_of hok.1
      have hb := findAt_bd (hitE nm) (readV l).1 0
      rw [if_neg (fun e : (readV l).2 ≠ 0 => e h3)]
      show (if (readV l).2 = 0 then (reliquaryref22_Find.f k ((readV l).1.map m30) nm).bind _ else _) = _
      rw [if_pos h3, reffind_eq k _ nm (by omega) (by omega) (fun x hx => (hok.1 x hx).lo), Option.bind_some]
      by_cases h4 : findAt (hitE nm) 0 (readV l).1 < 0
      · rw [if_pos h4, if_pos h4, str_nil]
      · have hlm : ((readV l).1.map m30).length = (readV l).1.length := List.length_map _
        rw [if_neg h4, if_neg h4, if_pos (by omega), if_pos (by rw [hlm]; omega), rdm _ _ (by omega) (by omega)]
        have he : ((readV l).1.map m30).set (findAt (hitE nm) 0 (readV l).1).toNat (⟨(m30 (rd_T28 (readV l).1 (findAt (hitE nm) 0 (readV l).1))).f0, n⟩ : S30) = ((readV l).1.set (findAt (hitE nm) 0 (readV l).1).toNat ⟨(rd_T28 (readV l).1 (findAt (hitE nm) 0 (readV l).1)).f0, n⟩).map m30 := by rw [List.map_set]; rfl
        rw [he, refbytes_eq k _ (by rw [List.length_set]; omega) (by rw [List.length_set]; omega) (small_set (x := ⟨(rd_T28 (readV l).1 (findAt (hitE nm) 0 (readV l).1)).f0, n⟩) hsm _ ⟨by show 0 ≤ n; omega, by show n < _; omega, rd28_small hsm _ (by omega) (by omega)⟩), Option.bind_some]
    · rw [if_pos h3]
      show (if (readV l).2 = 0 then (reliquaryref22_Find.f k ((readV l).1.map m30) nm).bind _ else _) = _
      rw [if_neg h3, str_nil]
  · rw [if_pos (hc.mpr h2), if_pos h2, str_nil]
theorem refrep_j0 (k : Nat) (l : List Int) (nm : ByteArray) (n : Int) (hu : u8s l) (hl : l.length ≤ 100000) (hk : 2 * l.length + 400 ≤ k) (c : Bool) (hc : c = true ↔ (ckV nm ≠ 0 ∧ nm.toList ≠ [46, 46])) : reliquaryref22_Replace.j0 (k + 2) (strOfNums l) (ckV nm) c nm n = some (strOfNums (repV l nm n).1, (repV l nm n).2) := by
  rw [reliquaryref22_Replace.j0]
  by_cases h0 : ckV nm ≠ 0 ∧ nm.toList ≠ [46, 46]
  · rw [if_pos (hc.mpr h0)]
    unfold repV
    rw [if_pos h0, str_nil]
  · rw [if_neg (fun e => h0 (hc.mp e))]
    by_cases h5 : n < 1
    · rw [if_pos h5]
      exact refrep_j1 k l nm n hu hl hk h0 true (by simp; omega)
    · rw [if_neg h5]
      exact refrep_j1 k l nm n hu hl hk h0 _ (by simp; omega)
theorem refreplace_eq (k : Nat) (l : List Int) (nm : ByteArray) (n : Int) (hu : u8s l) (hl : l.length ≤ 100000) (hk : 2 * l.length + 402 ≤ k) : reliquaryref22_Replace.f k (strOfNums l) nm n = some (strOfNums (repV l nm n).1, (repV l nm n).2) := by
  obtain ⟨k, rfl⟩ : ∃ m, k = m + 2 := ⟨k - 2, by omega⟩
  unfold reliquaryref22_Replace.f
  rw [refcheck_eq (k + 2) (by omega), Option.bind_some]
  by_cases h1 : ckV nm = 0
  · rw [if_pos h1]
    exact refrep_j0 k l nm n hu hl (by omega) false (by simp [h1])
  · rw [if_neg h1]
    exact refrep_j0 k l nm n hu hl (by omega) _ (by rw [bne_iff_ne]; exact ⟨fun h => ⟨h1, h⟩, fun h => h.2⟩)

theorem new_eq (n : Int) (h0 : 0 ≤ n) (h1 : n < 65536) : entries_New.f n = some (pieceOf ⟨⟨#[46, 46]⟩, n⟩) := by
  unfold entries_New.f
  rw [epiece_eq _ n h0 h1 (by decide), Option.bind_some]
  rfl
/-! the example -/
theorem awake22_ok (k : Nat) (hk : 1000 ≤ k) : reliquarylaw22_awake.f k = some true := by
  unfold reliquarylaw22_awake.f
  have hu0 : u8s [] := fun x hx => by cases hx
  have e1 : (insV [] ⟨#[97]⟩ 5) = (bytesL [⟨⟨#[97]⟩, 5⟩], 0) := by decide +kernel
  have hu1 := bytesL_u8s [⟨⟨#[97]⟩, 5⟩]
  have hl1 := bytesL_length [⟨⟨#[97]⟩, 5⟩]
  have e2 : findV (bytesL [⟨⟨#[97]⟩, 5⟩]) ⟨#[97]⟩ = (5, 0) := by decide +kernel
  have e3 : remV (bytesL [⟨⟨#[97]⟩, 5⟩]) ⟨#[97]⟩ = ([], 0) := by decide +kernel
  have e4 : findV (bytesL [⟨⟨#[46, 46]⟩, 7⟩]) ⟨#[46, 46]⟩ = (7, 0) := by decide +kernel
  have e5 : ckV ⟨#[46, 46]⟩ = 26 := by decide +kernel
  have hl2 := bytesL_length [⟨⟨#[46, 46]⟩, 7⟩]
  rw [insert_eq k [] _ _ hu0 (by simp) (by simp; omega), Option.bind_some, e1]
  show ((entries_Find.f (bytesL [⟨⟨#[97]⟩, 5⟩]) (⟨#[97]⟩ : ByteArray)).bind _) = _
  rw [find_eq _ _ hu1 (by rw [hl1]; decide), Option.bind_some, e2]
  show ((entries_Remove.f k (bytesL [⟨⟨#[97]⟩, 5⟩]) (⟨#[97]⟩ : ByteArray)).bind _) = _
  rw [remove_eq k _ _ hu1 (by rw [hl1]; decide) (by rw [hl1]; show 2 * (32 * 1) + 200 ≤ k; omega), Option.bind_some, e3, new_eq 7 (by decide) (by decide), Option.bind_some, ← bytesL_one, find_eq _ _ (bytesL_u8s _) (by rw [hl2]; decide), Option.bind_some, e4, check_eq, e5, Option.bind_some]
  have r0 : rd (bytesL [⟨⟨#[97]⟩, 5⟩]) 0 = 5 := by decide +kernel
  have r2 : rd (bytesL [⟨⟨#[97]⟩, 5⟩]) 2 = 1 := by decide +kernel
  have r3 : rd (bytesL [⟨⟨#[97]⟩, 5⟩]) 3 = 97 := by decide +kernel
  simp only [hl1, r0, r2, r3]
  rfl
end Go.Proofs.Ytkkflgdobgbmmaa.Pure
end
section
/- EntriesOps: the law, over what the walk computes. -/
namespace Go.Proofs.Ytkkflgdobgbmmaa.Pure
open Go.RowKit Go.Proofs.Ytkkflgdobgbmmaa.Q Go.Proofs.YtkkflgdobgbmmaaW.PrintWords Go.Proofs.YtkkflgdobgbmmaaW.PrintLast Go.Proofs.YtkkflgdobgbmmaaW.PrintMore
set_option linter.unusedVariables false
set_option linter.unusedSimpArgs false
theorem ops_j0 (l : List Int) (nm : ByteArray) (n : Int) (hu : u8s l) (c : Bool) (hc : c = false → l.length ≤ 2000) : reliquarylaw22_EntriesOps.j0 20001 l nm n c = some true := by
  rw [show (20001 : Nat) = 20000 + 1 from rfl, reliquarylaw22_EntriesOps.j0]
  by_cases h : c = true
  · rw [if_pos h]
  · have hl := hc (Bool.eq_false_iff.mpr h)
    rw [if_neg h, find_eq l nm hu (by omega), Option.bind_some, whose_eq 20000 l nm hu (by omega) (by omega), Option.bind_some, insert_eq 20000 l nm n hu (by omega) (by omega), Option.bind_some, refinsert_eq 20000 l nm n hu (by omega) (by omega), Option.bind_some,
      remove_eq 20000 l nm hu (by omega) (by omega), Option.bind_some, refremove_eq 20000 l nm hu (by omega) (by omega), Option.bind_some, replace_eq 20000 l nm n hu (by omega) (by omega), Option.bind_some, refreplace_eq 20000 l nm n hu (by omega) (by omega), Option.bind_some]
    rw [if_pos rfl, if_pos rfl, if_pos rfl, if_pos rfl, if_pos rfl, if_pos rfl, if_pos rfl, if_pos rfl, check_eq, Option.bind_some, refcheck_eq 20000 (by decide), Option.bind_some, if_pos rfl, beq_self_eq_true]
theorem EntriesOps : reliquarylaw22_EntriesOps.Pure := by
  intro l nm n h1 h2 h3 h4 h5
  have hu := wf_u8s h3
  refine ⟨20001, ?_⟩
  unfold reliquarylaw22_EntriesOps.f
  rw [awake22_ok 20001 (by decide), Option.bind_some, if_pos rfl]
  by_cases h : (l.length : Int) > 2000
  · rw [if_pos h]
    exact ops_j0 l nm n hu true (fun e => by cases e)
  · rw [if_neg h]
    exact ops_j0 l nm n hu _ (fun _ => by omega)
end Go.Proofs.Ytkkflgdobgbmmaa.Pure
end
section
namespace Go.Proofs.Ytkkflgdobgbmmaa.entriesOps
open Go.ChangeShapes Go.WideShapes Go.ChangeAt Go.RowKit
open Go.ChangeMaps (open_string shut_string)
set_option linter.unusedVariables false
theorem own : ownKnob Try.prog.godebug = none := by kernel_rfl
theorem laidOut : laidOutB Try.prog = true := by kernel_rfl
def IsRow (k : IntKind) (w : World) (a : Option Addr) (len cap : Nat) (zs : List Int) : Prop :=
  (a = none ∧ len = 0 ∧ cap = 0 ∧ zs = []) ∨
  ∃ x, a = some x ∧ len ≤ cap ∧ cap ≤ maxLen ∧ zs.length = cap ∧ (∀ i, i < zs.length → w.cell? (x.add i) = some (.int k (zs.getD i 0))) ∧ ∀ n ∈ zs, (Lit.int k n).wf = true
set_option maxRecDepth 100000 in
theorem lifted (os : Os) (started : os.Started) (H : Type) (enc : TypeId × Value → H) :
    ReturnsInHanded {} Try.checked os 4 .any (Rows.entriesOpsSpec.pre6 enc Try.prog Try.f4 Rows.entriesOpsRow.domain false) (Rows.entriesOpsSpec.post enc Try.prog Try.f4 false true false false) := by
  refine returnsInHanded_of_change_sized (C := Try.checked) own started (by kernel_rfl) Try.func4
    (ChangeSpec.witness6 (enc := enc) (C := Try.checked) false ⟨#[], #[.slice none 0 0, .string ByteArray.empty, .int .i64 0], []⟩ 8 (by kernel_rfl) (by kernel_rfl) (by kernel_rfl) (by kernel_rfl)) ?_
  intro W base args ds gs before hval0 hW hcnd hsz0 _
  have hsz : (DataW.weightsEach Try.prog (Try.f4.params.toList ++ Rows.entriesOpsSpec.plain.varTypes Try.prog) (ds ++ gs)).all (· ≤ reachBytes) = true := hsz0
  have hval : ∀ (j : Nat) t v, Try.f4.params[j]? = some t → args[j]? = some v → Value.okWide Try.prog W .any base t v := hval0
  have hW' := hW
  obtain ⟨p, q, hA0, hV, rfl, hfz, hnd⟩ := hW
  have hA : DataW.TrodAll enc Try.prog W 0 (fun _ => true) true Try.f4.params.toList args.toList ds p := hA0
  rw [Try.params4] at hA hval hsz
  obtain ⟨v0, vs0, d0, ds0, p0, q0, hargs, rfl, rfl, h0, r0⟩ := trodAll_cons hA
  obtain ⟨v1, vs1, d1, ds1, p1, q1, rfl, rfl, rfl, h1, r1⟩ := trodAll_cons r0
  obtain ⟨v2, vs2, d2, ds2, p2, q2, rfl, rfl, rfl, h2, r2⟩ := trodAll_cons r1
  obtain ⟨rfl, rfl, rfl⟩ := trodAll_nil r2
  obtain rfl : args = #[v0, v1, v2] := by cases args; simp_all
  obtain ⟨rfl, rfl⟩ := trodVars_none hV
  obtain ⟨a0, len0, cap0, rfl⟩ := okWide_slice Try.underlying23 (hval 0 23 v0 rfl rfl)
  have k0 := h0
  have lt0 : ∀ x ∈ p0, x.block < W.heap.size := by obtain ⟨m, hm⟩ := k0; exact DataW.trod_lt m _ _ _ hm
  obtain ⟨z0, w0⟩ : ∃ zs, IsRow .u8 W a0 len0 cap0 zs := by
    obtain ⟨fuel, hf⟩ := h0
    rcases open_ints Try.underlying23 Try.underlying5 (by kernel_rfl) hf with ⟨hcs, _⟩ | ⟨x, l, c, zs, hcs, _, hl, hm, hz, _, hcell, hwz⟩
    · simp [Value.cells] at hcs
      obtain ⟨rfl, rfl, rfl⟩ := hcs
      exact ⟨[], .inl ⟨rfl, rfl, rfl, rfl⟩⟩
    · simp [Value.cells] at hcs
      obtain ⟨rfl, rfl, rfl⟩ := hcs
      exact ⟨zs, .inr ⟨_, rfl, hl, hm, by simpa using hz, hcell, hwz⟩⟩
  have y0 : len0 * 1 ≤ 140737488351232 := Go.Proofs.YtkkflgdobgbmmaaW.PrintWords.sized_ints hsz (j := 0) (t := 23) rfl rfl Try.underlying23 Try.underlying5 (by kernel_rfl) (by kernel_rfl) h0
  obtain ⟨a1, rfl, rfl, rfl, y1⟩ := open_string Try.underlying9 (hval 1 9 v1 rfl rfl) h1
  have w1 : a1.size ≤ 140737488351232 := by
    have z := sized_string hsz (j := 1) (t := 9) rfl rfl
    rw [Array.length_toList] at z
    exact z
  obtain ⟨a2, rfl, rfl, rfl, w2⟩ := open_int Try.underlying3 (hval 2 3 v2 rfl rfl) h2
  clear hA0 hval0 hsz0 hsz
  refine (Q.reliquarylaw22_EntriesOps.walk Pure.EntriesOps a0 len0 cap0 z0 a1 a2 W w0 y0 w1 w2).mono fun e W' ⟨he, bel⟩ => ?_
  subst he
  exact ⟨_, rfl, _, _, _, [], _, [], hW', trodAll_mk1 (shut_bool Try.underlying4 _), (trodAll_cons_mk (Below.trod laidOut (by kernel_rfl) (of_decide_eq_true (by kernel_rfl)) k0 bel lt0) (trodAll_cons_mk (shut_string Try.underlying9 y1) (trodAll_cons_mk (shut_int Try.underlying3 w2) trodAll_mk0))), rfl, bel.frame _, fun h => by cases h⟩
theorem over : Rows.entriesOpsRow.holds Try.pinned (OpenSpec.ofChange Rows.entriesOpsSpec) :=
  OpenClaim.holds_of_wide 4 Try.f4 rfl rfl rfl rfl rfl rfl rfl ⟨rfl, rfl, rfl, rfl, rfl⟩ rfl rfl rfl rfl rfl (by kernel_rfl) Try.func4 (by kernel_rfl)
    (of_decide_eq_true (by kernel_rfl)) (by unfold Func.isWrapper; first | (rw [if_pos (by decide +kernel)]; kernel_rfl) | (rw [if_neg (by decide +kernel)]; exact ⟨rfl, rfl⟩))
    (fun os started H enc _ => lifted os started H enc)
theorem proved : Rows.EntriesOpsSaid := over
#print axioms proved
end Go.Proofs.Ytkkflgdobgbmmaa.entriesOps
namespace Go.Proofs.Ytkkflgdobgbmmaa
/-- The row, under a short name, for the claim. -/
theorem entriesOps_holds : Rows.EntriesOpsSaid := entriesOps.proved
end Go.Proofs.Ytkkflgdobgbmmaa
end
