/- EntriesKeep: for every input the statement's function returns true; there is no further condition. Text 5 of 7: this session's texts, and of the words that print.sh has printed those that are needed, laid together by its own program (merge.py). Not trusted: Lean checks them. -/
import Derived.Test.YtkkflgdobgbmmaaMEntriesKeep3
import Derived.Test.YtkkflgdobgbmmaaMEntriesKeep2
import Derived.Test.YtkkflgdobgbmmaaMEntriesKeep1
section
/- What is done with directories' bytes: by the program and by the reference, in one form. -/
namespace Go.Proofs.Ytkkflgdobgbmmaa.Pure
open Go.RowKit Go.Proofs.Ytkkflgdobgbmmaa.Q Go.Proofs.YtkkflgdobgbmmaaW.PrintWords Go.Proofs.YtkkflgdobgbmmaaW.PrintLast Go.Proofs.YtkkflgdobgbmmaaW.PrintMore
set_option linter.unusedVariables false
set_option linter.unusedSimpArgs false

theorem findAt_bd (p : S28 → Bool) : ∀ (l : List S28) (i : Nat), findAt p i l = -1 ∨ ((i : Int) ≤ findAt p i l ∧ findAt p i l < (i : Int) + l.length)
  | [], i => Or.inl rfl
  | x :: l, i => by
    rw [findAt, List.length_cons]
    by_cases h : p x = true
    · rw [if_pos h]; right; omega
    · rw [if_neg h]
      rcases findAt_bd p l (i + 1) with h | h
      · exact Or.inl h
      · right; omega
/-! Find -/
def findV (l : List Int) (nm : ByteArray) : Int × Int :=
  if (readV l).2 ≠ 0 then (0, (readV l).2) else if findAt (hitE nm) 0 (readV l).1 < 0 then (0, 21) else ((rd_T28 (readV l).1 (findAt (hitE nm) 0 (readV l).1)).f1, 0)
theorem found_eq (l : List Int) (nm : ByteArray) (hu : u8s l) (hl : l.length ≤ 1000000) : entries_found.f l nm = some (if (readV l).2 ≠ 0 then ([], 0, (readV l).2) else if findAt (hitE nm) 0 (readV l).1 < 0 then ([], 0, 21) else ((readV l).1, findAt (hitE nm) 0 (readV l).1, 0)) := by
  unfold entries_found.f
  rw [eread_eq l hu hl, Option.bind_some]
  by_cases h : (readV l).2 = 0
  · rw [if_pos h, eat_eq, Option.bind_some, if_neg (fun e : (readV l).2 ≠ 0 => e h)]
    by_cases h2 : findAt (hitE nm) 0 (readV l).1 < 0
    · rw [if_pos h2, if_pos h2]
    · rw [if_neg h2, if_neg h2]
  · rw [if_neg h, if_pos h]
theorem find_eq (l : List Int) (nm : ByteArray) (hu : u8s l) (hl : l.length ≤ 1000000) : entries_Find.f l nm = some (findV l nm) := by
  unfold entries_Find.f findV
  rw [found_eq l nm hu hl, Option.bind_some]
  by_cases h : (readV l).2 = 0
  · rw [if_neg (fun e : (readV l).2 ≠ 0 => e h), if_neg (fun e : (readV l).2 ≠ 0 => e h)]
    have hb := findAt_bd (hitE nm) (readV l).1 0
    by_cases h2 : findAt (hitE nm) 0 (readV l).1 < 0
    · rw [if_pos h2, if_pos h2, if_neg (by decide)]
    · rw [if_neg h2, if_neg h2]
      show (if (0 : Int) = 0 then (if 0 ≤ findAt (hitE nm) 0 (readV l).1 then (if findAt (hitE nm) 0 (readV l).1 < ((readV l).1.length : Int) then _ else none) else none) else _) = _
      rw [if_pos rfl, if_pos (by omega), if_pos (by omega)]
  · rw [if_pos h, if_pos h]
    show (if (readV l).2 = 0 then _ else _) = _
    rw [if_neg h]
/-! Insert -/
def freeAt (l : List S28) : Int := findAt (fun x => x.f1 == 0) 0 l
def putFree (l : List S28) (x : S28) : List S28 := if freeAt l < 0 then l ++ [x] else l.set (freeAt l).toNat x
def insV (l : List Int) (nm : ByteArray) (n : Int) : List Int × Int :=
  if ckV nm ≠ 0 then ([], ckV nm) else if ¬ (1 ≤ n ∧ n < 65536) then ([], 1) else if (readV l).2 ≠ 0 then ([], (readV l).2) else
    if 0 ≤ findAt (hitE nm) 0 (readV l).1 then ([], 22) else (bytesL (putFree (readV l).1 ⟨nm, n⟩), 0)
theorem number_eq (n : Int) : entries_number.f n = some (decide (1 ≤ n ∧ n < 65536)) := by
  unfold entries_number.f
  by_cases h : n ≥ 1
  · rw [if_pos h]; congr 1; simp; omega
  · rw [if_neg h]; congr 1; symm; simp; omega
theorem free_loop (l : List S28) (hl : l.length ≤ 1000000) (d : Nat) : ∀ (k i : Nat), l.length - i = d → i ≤ l.length → d < k →
    entries_Entry_31_at_entries_Insert_lit1.l0 k l (l.length : Int) i = some (findAt (fun x => x.f1 == 0) i (l.drop i)) := by
  induction d with
  | zero =>
    intro k i hd hi hk
    obtain ⟨k, rfl⟩ : ∃ m, k = m + 1 := ⟨k - 1, by omega⟩
    simp only [entries_Entry_31_at_entries_Insert_lit1.l0]
    rw [if_neg (by omega), List.drop_eq_nil_of_le (by omega), findAt]
  | succ d ih =>
    intro k i hd hi hk
    obtain ⟨k, rfl⟩ : ∃ m, k = m + 1 := ⟨k - 1, by omega⟩
    have hil : i < l.length := by omega
    simp only [entries_Entry_31_at_entries_Insert_lit1.l0]
    rw [if_pos (by omega), if_pos (by omega), if_pos (by omega), rd28 l i hil, wrap64_id (by omega) (by omega), List.drop_eq_getElem_cons hil, findAt]
    show (if (l[i].f1 == 0) = true then _ else _) = _
    by_cases c : (l[i].f1 == 0) = true
    · rw [if_pos c, if_pos c]
    · rw [if_neg c, if_neg c]
      exact ih k (i + 1) (by omega) (by omega) (by omega)
theorem free_eq (k : Nat) (l : List S28) (hl : l.length ≤ 1000000) (hk : l.length < k) : entries_Entry_31_at_entries_Insert_lit1.f k l = some (freeAt l) := by
  unfold entries_Entry_31_at_entries_Insert_lit1.f
  exact free_loop l hl l.length k 0 (by omega) (by omega) hk
def Small (l : List S28) : Prop := ∀ x ∈ l, 0 ≤ x.f1 ∧ x.f1 < 65536 ∧ x.f0.size ≤ 24
theorem small_of {l : List S28} (h : ∀ x ∈ l, EntOk x) : Small l := fun x hx => ⟨(h x hx).lo, (h x hx).hi, (h x hx).nm⟩
theorem small_set {l : List S28} (h : Small l) (i : Nat) {x : S28} (hx : 0 ≤ x.f1 ∧ x.f1 < 65536 ∧ x.f0.size ≤ 24) : Small (l.set i x) := fun y hy => by
  rcases List.mem_or_eq_of_mem_set hy with hy | rfl
  · exact h y hy
  · exact hx
theorem small_append {l : List S28} (h : Small l) {x : S28} (hx : 0 ≤ x.f1 ∧ x.f1 < 65536 ∧ x.f0.size ≤ 24) : Small (l ++ [x]) := fun y hy => by
  rcases List.mem_append.mp hy with hy | hy
  · exact h y hy
  · rw [List.mem_singleton.mp hy]; exact hx
theorem insert_eq (k : Nat) (l : List Int) (nm : ByteArray) (n : Int) (hu : u8s l) (hl : l.length ≤ 1000000) (hk : l.length + 200 ≤ k) : entries_Insert.f k l nm n = some (insV l nm n) := by
  unfold entries_Insert.f insV
  rw [check_eq, Option.bind_some]
  by_cases h1 : ckV nm = 0
  · have hnm := ckV_zero h1
    rw [if_pos h1, if_neg (fun e : ckV nm ≠ 0 => e h1), number_eq, Option.bind_some]
    by_cases h2 : 1 ≤ n ∧ n < 65536
    · rw [if_pos (decide_eq_true h2), if_neg (fun e : ¬ (1 ≤ n ∧ n < 65536) => e h2), eread_eq l hu hl, Option.bind_some]
      by_cases h3 : (readV l).2 = 0
      · have hok := readV_ok l hu
        have hsm := small_of hok.1
        rw [if_pos h3, if_neg (fun e : (readV l).2 ≠ 0 => e h3), eat_eq, Option.bind_some]
        by_cases h4 : 0 ≤ findAt (hitE nm) 0 (readV l).1
        · rw [if_pos h4, if_pos h4]
        · rw [if_neg h4, if_neg h4, free_eq k _ (by omega) (by omega), Option.bind_some]
          have hb := findAt_bd (fun x => x.f1 == 0) (readV l).1 0
          unfold putFree
          by_cases h5 : freeAt (readV l).1 < 0
          · rw [if_pos h5, if_pos h5, if_pos (by omega), bytes_eq k _ (by rw [List.length_append]; show _ + 1 ≤ _; omega) (by rw [List.length_append]; show _ + 1 < _; omega) (small_append hsm ⟨by show 0 ≤ n; omega, by show n < _; omega, hnm.2.1⟩), Option.bind_some]
          · rw [if_neg h5, if_neg h5, if_pos (by omega), if_pos (by unfold freeAt at h5 ⊢; omega), bytes_eq k _ (by rw [List.length_set]; omega) (by rw [List.length_set]; omega) (small_set hsm _ ⟨by show 0 ≤ n; omega, by show n < _; omega, hnm.2.1⟩), Option.bind_some]
      · rw [if_neg h3, if_pos h3]
    · rw [if_neg (by rw [decide_eq_false h2]; decide), if_pos h2]
  · rw [if_neg h1, if_pos h1]
/-! Remove -/
/-- The last free ones are cut off. -/
def trim (l : List S28) : List S28 := (l.reverse.dropWhile fun x => x.f1 == 0).reverse
theorem trim_snoc (l : List S28) (x : S28) : trim (l ++ [x]) = if x.f1 = 0 then trim l else l ++ [x] := by
  unfold trim
  rw [List.reverse_append, List.reverse_singleton, List.singleton_append, List.dropWhile_cons]
  by_cases h : x.f1 = 0
  · rw [if_pos (beq_iff_eq.mpr h), if_pos h]
  · rw [if_neg (fun e => h (beq_iff_eq.mp e)), if_neg h, List.reverse_cons, List.reverse_reverse]
theorem trim_nil : trim [] = [] := rfl
theorem trim_take (l : List S28) (i : Nat) (h : i < l.length) : trim (l.take (i + 1)) = if l[i].f1 = 0 then trim (l.take i) else l.take (i + 1) := by
  rw [List.take_succ_eq_append_getElem h, trim_snoc]
def remV (l : List Int) (nm : ByteArray) : List Int × Int :=
  if ckV nm ≠ 0 then ([], ckV nm) else if (readV l).2 ≠ 0 then ([], (readV l).2) else
    if findAt (hitE nm) 0 (readV l).1 < 0 then ([], 21) else (bytesL (trim ((readV l).1.set (findAt (hitE nm) 0 (readV l).1).toNat ⟨⟨#[]⟩, 0⟩)), 0)
theorem rem_loop (l : List S28) (hl : l.length ≤ 100000) (hs : Small l) : ∀ (n k : Nat), n ≤ l.length → n + l.length + 100 < k → entries_Remove.l0 k (l.take n) = some (bytesL (trim (l.take n)), 0) := by
  intro n
  induction n with
  | zero =>
    intro k hn hk
    obtain ⟨k, rfl⟩ : ∃ m, k = m + 1 := ⟨k - 1, by omega⟩
    simp only [entries_Remove.l0]
    rw [List.take_zero, if_neg (by simp), bytes_eq k [] (by simp) (by simp; omega) (fun x hx => by cases hx), Option.bind_some]
    rfl
  | succ n ih =>
    intro k hn hk
    obtain ⟨k, rfl⟩ : ∃ m, k = m + 1 := ⟨k - 1, by omega⟩
    have hlen : (l.take (n + 1)).length = n + 1 := by rw [List.length_take]; omega
    simp only [entries_Remove.l0]
    rw [hlen, if_pos (by omega), wrap64_id (by omega) (by omega), if_pos (by omega), if_pos (by omega), show ((n + 1 : Nat) : Int) - 1 = (n : Int) by omega, rd28 _ n (by omega), List.getElem_take, Int.toNat_natCast, List.take_take, Nat.min_eq_left (by omega), trim_take l n (by omega)]
    by_cases c : (l[n]'(by omega)).f1 = 0
    · rw [if_pos c, if_pos c, if_pos (by omega)]
      exact ih k (by omega) (by omega)
    · rw [if_neg c, if_neg c, bytes_eq k _ (by omega) (by omega) (fun x hx => hs x (List.mem_of_mem_take hx)), Option.bind_some]
theorem remove_eq (k : Nat) (l : List Int) (nm : ByteArray) (hu : u8s l) (hl : l.length ≤ 100000) (hk : 2 * l.length + 200 ≤ k) : entries_Remove.f k l nm = some (remV l nm) := by
  unfold entries_Remove.f remV
  rw [check_eq, Option.bind_some]
  by_cases h1 : ckV nm = 0
  · rw [if_pos h1, if_neg (fun e : ckV nm ≠ 0 => e h1), found_eq l nm hu (by omega), Option.bind_some]
    by_cases h3 : (readV l).2 = 0
    · have hok := readV_ok l hu
      have hsm := small_of hok.1
      have hb := findAt_bd (hitE nm) (readV l).1 0
      rw [if_neg (fun e : (readV l).2 ≠ 0 => e h3), if_neg (fun e : (readV l).2 ≠ 0 => e h3)]
      by_cases h4 : findAt (hitE nm) 0 (readV l).1 < 0
      · rw [if_pos h4, if_pos h4]
        rfl
      · rw [if_neg h4, if_neg h4]
        show (if (0 : Int) = 0 then (if 0 ≤ findAt (hitE nm) 0 (readV l).1 then (if findAt (hitE nm) 0 (readV l).1 < ((readV l).1.length : Int) then entries_Remove.l0 k ((readV l).1.set (findAt (hitE nm) 0 (readV l).1).toNat ⟨⟨#[]⟩, 0⟩) else none) else none) else _) = _
        rw [if_pos rfl, if_pos (by omega), if_pos (by omega)]
        have hx : Small ((readV l).1.set (findAt (hitE nm) 0 (readV l).1).toNat ⟨⟨#[]⟩, 0⟩) := small_set hsm _ ⟨Int.le_refl _, by decide, Nat.zero_le _⟩
        have hlen : ((readV l).1.set (findAt (hitE nm) 0 (readV l).1).toNat ⟨⟨#[]⟩, 0⟩).length = (readV l).1.length := List.length_set
        have := rem_loop _ (by rw [hlen]; omega) hx _ k (Nat.le_refl _) (by rw [hlen]; omega)
        rw [List.take_length] at this
        exact this
    · rw [if_pos h3, if_pos h3]
      show (if (readV l).2 = 0 then _ else _) = _
      rw [if_neg h3]
  · rw [if_neg h1, if_pos h1]
/-! List -/
theorem elist_eq (l : List Int) (hu : u8s l) (hl : l.length ≤ 1000000) : entries_List.f l = some (listV l) := by unfold entries_List.f; rw [if_pos ⟨by omega, hu⟩]
theorem new_eq (n : Int) (h0 : 0 ≤ n) (h1 : n < 65536) : entries_New.f n = some (pieceOf ⟨⟨#[46, 46]⟩, n⟩) := by
  unfold entries_New.f
  rw [epiece_eq _ n h0 h1 (by decide), Option.bind_some]
  rfl
/-! the example -/
theorem awake22_ok (k : Nat) (hk : 1000 ≤ k) : reliquarylaw22_awake.f k = some true := by
  unfold reliquarylaw22_awake.f
  have hu0 : u8s [] := fun x hx => by cases hx
  have e1 : (insV [] ⟨#[97]⟩ 5) = (bytesL [⟨⟨#[97]⟩, 5⟩], 0) := by decide +kernel
  have hu1 := bytesL_u8s [⟨⟨#[97]⟩, 5⟩]
  have hl1 := bytesL_length [⟨⟨#[97]⟩, 5⟩]
  have e2 : findV (bytesL [⟨⟨#[97]⟩, 5⟩]) ⟨#[97]⟩ = (5, 0) := by decide +kernel
  have e3 : remV (bytesL [⟨⟨#[97]⟩, 5⟩]) ⟨#[97]⟩ = ([], 0) := by decide +kernel
  have e4 : findV (bytesL [⟨⟨#[46, 46]⟩, 7⟩]) ⟨#[46, 46]⟩ = (7, 0) := by decide +kernel
  have e5 : ckV ⟨#[46, 46]⟩ = 26 := by decide +kernel
  have hl2 := bytesL_length [⟨⟨#[46, 46]⟩, 7⟩]
  rw [insert_eq k [] _ _ hu0 (by simp) (by simp; omega), Option.bind_some, e1]
  show ((entries_Find.f (bytesL [⟨⟨#[97]⟩, 5⟩]) (⟨#[97]⟩ : ByteArray)).bind _) = _
  rw [find_eq _ _ hu1 (by rw [hl1]; decide), Option.bind_some, e2]
  show ((entries_Remove.f k (bytesL [⟨⟨#[97]⟩, 5⟩]) (⟨#[97]⟩ : ByteArray)).bind _) = _
  rw [remove_eq k _ _ hu1 (by rw [hl1]; decide) (by rw [hl1]; show 2 * (32 * 1) + 200 ≤ k; omega), Option.bind_some, e3, new_eq 7 (by decide) (by decide), Option.bind_some, ← bytesL_one, find_eq _ _ (bytesL_u8s _) (by rw [hl2]; decide), Option.bind_some, e4, check_eq, e5, Option.bind_some]
  have r0 : rd (bytesL [⟨⟨#[97]⟩, 5⟩]) 0 = 5 := by decide +kernel
  have r2 : rd (bytesL [⟨⟨#[97]⟩, 5⟩]) 2 = 1 := by decide +kernel
  have r3 : rd (bytesL [⟨⟨#[97]⟩, 5⟩]) 3 = 97 := by decide +kernel
  simp only [hl1, r0, r2, r3]
  rfl
end Go.Proofs.Ytkkflgdobgbmmaa.Pure
end
section
/- What is done with directories that were written. -/
namespace Go.Proofs.Ytkkflgdobgbmmaa.Pure
open Go.RowKit Go.Proofs.Ytkkflgdobgbmmaa.Q Go.Proofs.YtkkflgdobgbmmaaW.PrintWords Go.Proofs.YtkkflgdobgbmmaaW.PrintLast Go.Proofs.YtkkflgdobgbmmaaW.PrintMore
set_option linter.unusedVariables false
set_option linter.unusedSimpArgs false
theorem findV_bytes (l : List S28) (h : DirOk l) (nm : ByteArray) : findV (bytesL l) nm = if findAt (hitE nm) 0 l < 0 then (0, 21) else ((rd_T28 l (findAt (hitE nm) 0 l)).f1, 0) := by
  unfold findV
  rw [read_bytes l h, if_neg (fun e => e rfl)]
theorem insV_bytes (l : List S28) (h : DirOk l) (nm : ByteArray) (n : Int) (h0 : 1 ≤ n) (h1 : n < 65536) (hc : ckV nm = 0) : insV (bytesL l) nm n = if 0 ≤ findAt (hitE nm) 0 l then ([], 22) else (bytesL (putFree l ⟨nm, n⟩), 0) := by
  unfold insV
  rw [read_bytes l h, if_neg (fun e => e hc), if_neg (fun e : ¬ (1 ≤ n ∧ n < 65536) => e ⟨h0, h1⟩), if_neg (fun e => e rfl)]
theorem insV_no (l : List Int) (nm : ByteArray) (n : Int) (hc : ckV nm ≠ 0) : insV l nm n = ([], 26) := by
  unfold insV
  rw [if_pos hc]
  rcases ckV_cases nm with h | h
  · rw [h]
  · exact absurd h hc
theorem insV_num (l : List Int) (nm : ByteArray) (n : Int) (h : ¬ (1 ≤ n ∧ n < 65536)) : (insV l nm n).2 ≠ 0 := by
  unfold insV
  by_cases hc : ckV nm = 0
  · rw [if_neg (fun e => e hc), if_pos h]; show (1 : Int) ≠ 0; decide
  · rw [if_pos hc]; exact hc
theorem remV_bytes (l : List S28) (h : DirOk l) (nm : ByteArray) (hc : ckV nm = 0) : remV (bytesL l) nm = if findAt (hitE nm) 0 l < 0 then ([], 21) else (bytesL (trim (l.set (findAt (hitE nm) 0 l).toNat ⟨⟨#[]⟩, 0⟩)), 0) := by
  unfold remV
  rw [read_bytes l h, if_neg (fun e => e hc), if_neg (fun e => e rfl)]
theorem remV_no (l : List Int) (nm : ByteArray) (hc : ckV nm ≠ 0) : remV l nm = ([], 26) := by
  unfold remV
  rw [if_pos hc]
  rcases ckV_cases nm with h | h
  · rw [h]
  · exact absurd h hc
theorem listV_bytes (l : List S28) (h : DirOk l) : listV (bytesL l) = (l.filter keepE, 0) := by
  unfold listV
  rw [read_bytes l h, if_pos rfl]
theorem dots_not : ckV ⟨#[46, 46]⟩ ≠ 0 := by decide +kernel
theorem ent_ok {nm : ByteArray} {n : Int} (h0 : 1 ≤ n) (h1 : n < 65536) (h2 : 1 ≤ nm.size) (h3 : nm.size ≤ 24) : EntOk ⟨nm, n⟩ := ⟨by show 0 ≤ n; omega, h1, h3, by show n = 0 ↔ nm.size = 0; omega⟩
theorem ent_up {n : Int} (h0 : 1 ≤ n) (h1 : n < 65536) : EntOk ⟨⟨#[46, 46]⟩, n⟩ := ent_ok h0 h1 (by decide) (by decide)
theorem dir_up {n : Int} (h0 : 1 ≤ n) (h1 : n < 65536) : DirOk [⟨⟨#[46, 46]⟩, n⟩] := ⟨fun x hx => by rw [List.mem_singleton.mp hx]; exact ent_up h0 h1, List.pairwise_singleton _ _⟩
end Go.Proofs.Ytkkflgdobgbmmaa.Pure
end
section
namespace Go.Proofs.Ytkkflgdobgbmmaa.Q
open Go.RowKit Go.Proofs.YtkkflgdobgbmmaaW.PrintWords Go.Proofs.YtkkflgdobgbmmaaW.PrintLast Go.Proofs.YtkkflgdobgbmmaaW.PrintMore
attribute [local go_sem] max2_int min2_int max_two min_two max_three min_three max_four min_four   -- for this text's walks alone
set_option linter.unusedVariables false
set_option linter.unusedSimpArgs false

/-! ### reliquarylaw22_EntriesKeep: function 6 -/
mutual
def reliquarylaw22_EntriesKeep.l0 : Nat → List (S55) → List Int → List ByteArray → List Int → Int → Option (Bool)
  | 0, _, _, _, _, _ => none
  | k + 1, x0, x4, x5, x6, x7 => if x7 < (x0.length : Int) then (reliquarylaw22_EntriesKeep.j1 k x0 x4 x5 x6 x7 (decide (x7 < 30))) else (reliquarylaw22_EntriesKeep.j1 k x0 x4 x5 x6 x7 false)
def reliquarylaw22_EntriesKeep.j1 : Nat → List (S55) → List Int → List ByteArray → List Int → Int → Bool → Option (Bool)
  | 0, _, _, _, _, _, _ => none
  | k + 1, x0, x4, x5, x6, x7, x32 => if x32 = true then (if 0 ≤ x7 then (if x7 < (x0.length : Int) then (if (((rd_T55 x0 x7).f0).size : Int) > 100 then (some true) else (reliquarylaw22_EntriesKeep.l1 k x0 x4 x5 x6 x7 (-1) 0 ((rd_T55 x0 x7).f0) ((rd_T55 x0 x7).f1) ((rd_T55 x0 x7).f2))) else (none)) else (none)) else (some true)
def reliquarylaw22_EntriesKeep.l1 : Nat → List (S55) → List Int → List ByteArray → List Int → Int → Int → Int → ByteArray → Int → Bool → Option (Bool)
  | 0, _, _, _, _, _, _, _, _, _, _ => none
  | k + 1, x0, x4, x5, x6, x7, x9, x10, x351000, x351001, x351002 => if x10 < (x5.length : Int) then (if 0 ≤ x10 then (if (rdOf ByteArray.empty x5 x10).toList = x351000.toList then (reliquarylaw22_EntriesKeep.l1 k x0 x4 x5 x6 x7 x10 (wrap64 (x10 + 1)) x351000 x351001 x351002) else (reliquarylaw22_EntriesKeep.l1 k x0 x4 x5 x6 x7 x9 (wrap64 (x10 + 1)) x351000 x351001 x351002)) else (none)) else ((entries_Check.f x351000).bind fun t352 => (if x351002 = true then ((entries_Remove.f k x4 x351000).bind fun bt353 => (if ((bt353.2 == 0) != (decide (x9 ≥ 0))) = true then (some false) else (reliquarylaw22_EntriesKeep.j3 k x0 x4 x5 x6 x7 x9 bt353.1 bt353.2 x351000 x351001 x351002))) else ((entries_Insert.f k x4 x351000 (wrap64 (x351001))).bind fun bt357 => (if t352 = 0 then (if x351001 > 0 then (if ((bt357.2 == 0) != (decide (x9 < 0))) = true then (some false) else (reliquarylaw22_EntriesKeep.j3 k x0 x4 x5 x6 x7 x9 bt357.1 bt357.2 x351000 x351001 x351002)) else (if ((bt357.2 == 0) != false) = true then (some false) else (reliquarylaw22_EntriesKeep.j3 k x0 x4 x5 x6 x7 x9 bt357.1 bt357.2 x351000 x351001 x351002))) else (if ((bt357.2 == 0) != false) = true then (some false) else (reliquarylaw22_EntriesKeep.j3 k x0 x4 x5 x6 x7 x9 bt357.1 bt357.2 x351000 x351001 x351002))))))
def reliquarylaw22_EntriesKeep.j3 : Nat → List (S55) → List Int → List ByteArray → List Int → Int → Int → List Int → Int → ByteArray → Int → Bool → Option (Bool)
  | 0, _, _, _, _, _, _, _, _, _, _, _ => none
  | k + 1, x0, x4, x5, x6, x7, x9, x12, x13, x351000, x351001, x351002 => if x13 = 0 then (if x351002 = true then (if 0 ≤ x9 then (if x9 ≤ (x5.length : Int) then ((some (x5.take (x9 : Int).toNat : List ByteArray)).bind fun y361 => (if ([] : List ByteArray).length + y361.length < 8796093022208 then ((some (([] : List ByteArray) ++ y361 : List ByteArray)).bind fun y365 => (if x9 ≤ (x6.length : Int) then ((some (x6.take (x9 : Int).toNat : List Int)).bind fun y368 => (if ([] : List Int).length + y368.length < 17592186044416 then ((some (([] : List Int) ++ y368 : List Int)).bind fun y372 => (if 0 ≤ (wrap64 (x9 + 1)) then (if (wrap64 (x9 + 1)) ≤ (x5.length : Int) then ((some (x5.drop ((wrap64 (x9 + 1)) : Int).toNat : List ByteArray)).bind fun y375 => (if y365.length + y375.length < 8796093022208 then (if (wrap64 (x9 + 1)) ≤ (x6.length : Int) then ((some (x6.drop ((wrap64 (x9 + 1)) : Int).toNat : List Int)).bind fun y382 => (if y372.length + y382.length < 17592186044416 then (reliquarylaw22_EntriesKeep.j4 k x0 x12 (y365 ++ y375) (y372 ++ y382) x7) else (none))) else (none)) else (none))) else (none)) else (none))) else (none))) else (none))) else (none))) else (none)) else (none)) else (if x5.length < 8796093022208 then (if x6.length < 17592186044416 then (reliquarylaw22_EntriesKeep.j4 k x0 x12 (x5 ++ [x351000]) (x6 ++ [wrap64 (x351001)]) x7) else (none)) else (none))) else (reliquarylaw22_EntriesKeep.l0 k x0 x4 x5 x6 (wrap64 (x7 + 1)))
def reliquarylaw22_EntriesKeep.j4 : Nat → List (S55) → List Int → List ByteArray → List Int → Int → Option (Bool)
  | 0, _, _, _, _, _ => none
  | k + 1, x0, x4, x5, x6, x7 => reliquarylaw22_EntriesKeep.l2 k x0 x4 x5 x6 x7 0
def reliquarylaw22_EntriesKeep.l2 : Nat → List (S55) → List Int → List ByteArray → List Int → Int → Int → Option (Bool)
  | 0, _, _, _, _, _, _ => none
  | k + 1, x0, x4, x5, x6, x7, x16 => if x16 < (x5.length : Int) then (if 0 ≤ x16 then ((entries_Find.f x4 (rdOf ByteArray.empty x5 x16)).bind fun bt396 => (if bt396.2 = 0 then (if x16 < (x6.length : Int) then (if bt396.1 = (rd x6 x16) then (reliquarylaw22_EntriesKeep.l2 k x0 x4 x5 x6 x7 (wrap64 (x16 + 1))) else (some false)) else (none)) else (some false))) else (none)) else ((entries_List.f x4).bind fun bt399 => (if bt399.2 = 0 then (if (bt399.1.length : Int) = (x5.length : Int) then (if ((x4.length : Int) % 32) = 0 then (if 0 ≤ (wrap64 ((x4.length : Int) - 32)) then (if (wrap64 ((x4.length : Int) - 32)) < (x4.length : Int) then (if (rd x4 (wrap64 ((x4.length : Int) - 32))) = 0 then (if 0 ≤ (wrap64 ((x4.length : Int) - 31)) then (if (wrap64 ((x4.length : Int) - 31)) < (x4.length : Int) then (if (rd x4 (wrap64 ((x4.length : Int) - 31))) = 0 then (some false) else (reliquarylaw22_EntriesKeep.l0 k x0 x4 x5 x6 (wrap64 (x7 + 1)))) else (none)) else (none)) else (reliquarylaw22_EntriesKeep.l0 k x0 x4 x5 x6 (wrap64 (x7 + 1)))) else (none)) else (none)) else (some false)) else (some false)) else (some false)))
end
def reliquarylaw22_EntriesKeep.f (k : Nat) (l0 : List (S55)) : Option (Bool) := (reliquarylaw22_awake.f k).bind fun t345 => (if t345 = true then ((entries_New.f 1).bind fun t346 => (reliquarylaw22_EntriesKeep.l0 k l0 t346 ([] : List ByteArray) ([] : List Int) 0)) else (some false))
end Go.Proofs.Ytkkflgdobgbmmaa.Q
end
section
/- EntriesKeep: the law, over what the walk computes. -/
namespace Go.Proofs.Ytkkflgdobgbmmaa.Pure
open Go.RowKit Go.Proofs.Ytkkflgdobgbmmaa.Q Go.Proofs.YtkkflgdobgbmmaaW.PrintWords Go.Proofs.YtkkflgdobgbmmaaW.PrintLast Go.Proofs.YtkkflgdobgbmmaaW.PrintMore
set_option linter.unusedVariables false
set_option linter.unusedSimpArgs false
def occ (x : S28) : Bool := !(x.f1 == 0)
theorem occ_iff (x : S28) : occ x = true ↔ x.f1 ≠ 0 := by unfold occ; rw [Bool.not_eq_true', beq_eq_false_iff_ne]
def upK : S28 := ⟨⟨#[46, 46]⟩, 1⟩
/-- A directory, and the names that came last and didn't go. -/
structure InvK (dir es : List S28) : Prop where
  ok : DirOk dir
  hd : ∃ r, dir = upK :: r
  pm : (dir.filter occ).Perm (upK :: es)
  ck : ∀ x ∈ es, ckV x.f0 = 0
  la : ∀ y, dir.getLast? = some y → y.f1 ≠ 0
theorem inv_one : InvK [upK] [] := by
  refine ⟨dir_up (by decide) (by decide), ⟨[], rfl⟩, ?_, fun x hx => (by cases hx), fun y hy => ?_⟩
  · rw [List.filter_cons_of_pos (by decide)]; exact List.Perm.refl _
  · have : upK = y := by simpa using hy
    rw [← this]; decide
theorem InvK.mem {dir es : List S28} (h : InvK dir es) {x : S28} (hx : x ∈ es) : x ∈ dir ∧ x.f1 ≠ 0 := by
  have := h.pm.mem_iff.mpr (List.mem_cons_of_mem upK hx)
  have h2 := List.mem_filter.mp this
  exact ⟨h2.1, (occ_iff x).mp h2.2⟩
theorem InvK.back {dir es : List S28} (h : InvK dir es) {x : S28} (hx : x ∈ dir) (h0 : x.f1 ≠ 0) (h1 : x ≠ upK) : x ∈ es := by
  have := h.pm.mem_iff.mp (List.mem_filter.mpr ⟨hx, (occ_iff x).mpr h0⟩)
  rcases List.mem_cons.mp this with e | e
  · exact absurd e h1
  · exact e
theorem dir_uniq : ∀ {l : List S28}, (l.Pairwise fun x y => y.f1 ≠ 0 → x.f0 ≠ y.f0) → ∀ {x y : S28}, x ∈ l → y ∈ l → x.f1 ≠ 0 → y.f1 ≠ 0 → x.f0 = y.f0 → x = y
  | [], _, x, y, hx, _, _, _, _ => by cases hx
  | z :: l, hp, x, y, hx, hy, h1, h2, e => by
    have hc := List.pairwise_cons.mp hp
    rcases List.mem_cons.mp hx with ex | hx2 <;> rcases List.mem_cons.mp hy with ey | hy2
    · rw [ex, ey]
    · exact absurd e (by rw [ex]; exact hc.1 y hy2 h2)
    · exact absurd e.symm (by rw [ey]; exact hc.1 x hx2 h1)
    · exact dir_uniq hc.2 hx2 hy2 h1 h2 e
theorem hit_iff (nm : ByteArray) (x : S28) : hitE nm x = true ↔ (x.f1 ≠ 0 ∧ x.f0 = nm) := by
  unfold hitE
  by_cases h : x.f1 = 0
  · rw [if_pos h]; simp [h]
  · rw [if_neg h, beq_iff_eq, str_eq_iff]; simp [h]
theorem dots_ne {nm : ByteArray} (h : ckV nm = 0) : nm ≠ ⟨#[46, 46]⟩ := fun e => dots_not (by rw [← e]; exact h)
theorem hit_dir {dir es : List S28} (h : InvK dir es) {nm : ByteArray} (hn : ckV nm = 0) : 0 ≤ findAt (hitE nm) 0 dir ↔ ∃ x ∈ es, x.f0 = nm := by
  rw [findAt_pos, List.any_eq_true]
  constructor
  · rintro ⟨x, hx, hh⟩
    have h2 := (hit_iff nm x).mp hh
    refine ⟨x, h.back hx h2.1 ?_, h2.2⟩
    intro e
    rw [e] at h2
    exact dots_ne hn h2.2.symm
  · rintro ⟨x, hx, rfl⟩
    have := h.mem hx
    exact ⟨x, this.1, (hit_iff _ x).mpr ⟨this.2, rfl⟩⟩
/-! what is found, listed, and how long it is -/
theorem InvK.find {dir es : List S28} (h : InvK dir es) {x : S28} (hx : x ∈ es) : findV (bytesL dir) x.f0 = (x.f1, 0) := by
  rw [findV_bytes _ h.ok]
  have hm := h.mem hx
  rcases findAt_spec (hitE x.f0) dir 0 with ⟨h1, h2⟩ | ⟨pre, y, post, h1, h2, h3, h4⟩
  · have := h2 x hm.1
    rw [(hit_iff _ _).mpr ⟨hm.2, rfl⟩] at this
    cases this
  · have hy := (hit_iff _ _).mp h3
    have hyd : y ∈ dir := by rw [h1]; simp
    have he : y = x := dir_uniq h.ok.ap hyd hm.1 hy.1 hm.2 hy.2
    have hlen : pre.length < dir.length := by rw [h1, List.length_append, List.length_cons]; omega
    have hget : dir[pre.length] = y := by
      have : dir[pre.length]? = some y := by rw [h1]; simp
      rw [List.getElem?_eq_getElem hlen] at this
      exact Option.some.inj this
    rw [h2, if_neg (by omega), Nat.zero_add, rd28 dir pre.length hlen, hget, he]
theorem keep_occ (x : S28) : (keepE x && occ x) = keepE x := by
  unfold keepE goneE occ
  by_cases h : x.f1 = 0
  · rw [if_pos h]; rfl
  · rw [if_neg h, beq_eq_false_iff_ne.mpr h]; simp
theorem InvK.list {dir es : List S28} (h : InvK dir es) : (listV (bytesL dir)).2 = 0 ∧ (listV (bytesL dir)).1.length = es.length := by
  rw [listV_bytes _ h.ok]
  refine ⟨rfl, ?_⟩
  show (dir.filter keepE).length = es.length
  have e1 : dir.filter keepE = (dir.filter occ).filter keepE := by
    rw [List.filter_filter]
    congr 1
    funext x
    exact (keep_occ x).symm
  rw [e1, (h.pm.filter keepE).length_eq, List.filter_cons_of_neg (by decide +kernel)]
  rw [List.filter_eq_self.mpr]
  intro y hy
  have hm := h.mem hy
  have hd := dots_ne (h.ck y hy)
  unfold keepE goneE
  rw [if_neg hm.2]
  have : (y.f0.toList == ([46, 46] : List UInt8)) = false := by
    apply beq_eq_false_iff_ne.mpr
    intro e
    apply hd
    apply str_ext
    rw [← Go.ByteArray.toList_eq, e]
  rw [this]
  rfl
theorem InvK.last {dir es : List S28} (h : InvK dir es) : 1 ≤ dir.length ∧ ¬ (rd (bytesL dir) ((bytesL dir).length - 32) = 0 ∧ rd (bytesL dir) ((bytesL dir).length - 31) = 0) := by
  obtain ⟨r, hr⟩ := h.hd
  have hlen : 1 ≤ dir.length := by rw [hr, List.length_cons]; omega
  refine ⟨hlen, ?_⟩
  obtain ⟨n, hn⟩ : ∃ n, dir.length = n + 1 := ⟨dir.length - 1, by omega⟩
  have hbl := bytesL_length dir
  have hlt : n < dir.length := by omega
  have hy := h.la dir[n] (by rw [List.getLast?_eq_getElem?, hn, Nat.add_sub_cancel, List.getElem?_eq_getElem hlt])
  have hok := h.ok.ok dir[n] (List.getElem_mem _)
  have hpc := pcOf_bytes dir n hlt
  have hb := bytesOf_length dir[n].f0
  have h32 : 32 * n + 32 ≤ (bytesL dir).length := by omega
  have r0 := pcOf_rd (bytesL dir) n 0 h32 (by decide)
  have r1 := pcOf_rd (bytesL dir) n 1 h32 (by decide)
  have hnm := hok.nm
  rw [hpc, pieceOf, pieceL_form _ _ (by omega)] at r0 r1
  have e0 : rd (bytesL dir) ((bytesL dir).length - 32) = dir[n].f1 % 256 := by
    rw [show (((bytesL dir).length : Nat) : Int) - 32 = ((32 * n : Nat) : Int) + ((0 : Nat) : Int) by omega, r0]
    rfl
  have e1 : rd (bytesL dir) ((bytesL dir).length - 31) = dir[n].f1 / 256 % 256 := by
    rw [show (((bytesL dir).length : Nat) : Int) - 31 = ((32 * n : Nat) : Int) + ((1 : Nat) : Int) by omega, r1]
    rfl
  rw [e0, e1]
  have := hok.lo
  have := hok.hi
  omega
/-! a name comes -/
theorem occ_ne {dir : List S28} (ho : ∀ x ∈ dir, EntOk x) {nm : ByteArray} (hs : 1 ≤ nm.size) (hno : findAt (hitE nm) 0 dir < 0) : ∀ y ∈ dir, y.f0 ≠ nm := by
  intro y hy e
  have hal : ¬ (dir.any (hitE nm) = true) := fun c => by have := (findAt_pos (hitE nm) dir 0).mpr c; omega
  by_cases h0 : y.f1 = 0
  · have := (ho y hy).fr.mp h0
    rw [e] at this
    omega
  · exact hal (List.any_eq_true.mpr ⟨y, hy, (hit_iff nm y).mpr ⟨h0, e⟩⟩)
theorem InvK.ins {dir es : List S28} (h : InvK dir es) {nm : ByteArray} {n : Int} (hc : ckV nm = 0) (h0 : 1 ≤ n) (h1 : n < 65536) (hno : findAt (hitE nm) 0 dir < 0) :
    InvK (putFree dir ⟨nm, n⟩) (es ++ [⟨nm, n⟩]) ∧ (putFree dir ⟨nm, n⟩).length ≤ dir.length + 1 := by
  have hz := ckV_zero hc
  have hne := occ_ne h.ok.ok hz.1 hno
  have hx : EntOk ⟨nm, n⟩ := ent_ok h0 h1 hz.1 hz.2.1
  have hxo : occ ⟨nm, n⟩ = true := (occ_iff _).mpr (show n ≠ 0 by omega)
  have hck : ∀ x ∈ es ++ [⟨nm, n⟩], ckV x.f0 = 0 := fun x hx => by
    rcases List.mem_append.mp hx with hx | hx
    · exact h.ck x hx
    · rw [List.mem_singleton.mp hx]; exact hc
  unfold putFree freeAt
  rcases findAt_spec (fun x => x.f1 == 0) dir 0 with ⟨q1, q2⟩ | ⟨pre, y, post, q1, q2, q3, q4⟩
  · rw [q1, if_pos (by decide)]
    refine ⟨⟨⟨fun x hx' => ?_, ?_⟩, ?_, ?_, hck, ?_⟩, by rw [List.length_append]; exact Nat.le_refl _⟩
    · rcases List.mem_append.mp hx' with hx' | hx'
      · exact h.ok.ok x hx'
      · rw [List.mem_singleton.mp hx']; exact hx
    · refine List.pairwise_append.mpr ⟨h.ok.ap, List.pairwise_singleton _ _, fun a ha b hb _ => ?_⟩
      rw [List.mem_singleton.mp hb]
      exact hne a ha
    · obtain ⟨r, hr⟩ := h.hd
      exact ⟨r ++ [⟨nm, n⟩], by rw [hr]; rfl⟩
    · rw [List.filter_append, List.filter_cons_of_pos hxo, List.filter_nil]
      exact h.pm.append_right _
    · intro y hy
      rw [List.getLast?_append, List.getLast?_singleton] at hy
      have : (⟨nm, n⟩ : S28) = y := by simpa using hy
      rw [← this]
      show n ≠ 0
      omega
  · have hy0 : y.f1 = 0 := beq_iff_eq.mp q3
    have hset : dir.set pre.length ⟨nm, n⟩ = pre ++ ⟨nm, n⟩ :: post := by
      rw [q1, List.set_append, if_neg (by omega), Nat.sub_self, List.set_cons_zero]
    rw [q2, if_neg (by omega), Nat.zero_add, Int.toNat_natCast, hset]
    have hap := h.ok.ap
    rw [q1] at hap
    obtain ⟨p1, p2, p3⟩ := List.pairwise_append.mp hap
    have p4 := List.pairwise_cons.mp p2
    refine ⟨⟨⟨fun x hx' => ?_, ?_⟩, ?_, ?_, hck, ?_⟩, by rw [q1]; simp⟩
    · rcases List.mem_append.mp hx' with hx' | hx'
      · exact h.ok.ok x (by rw [q1]; exact List.mem_append_left _ hx')
      · rcases List.mem_cons.mp hx' with rfl | hx'
        · exact hx
        · exact h.ok.ok x (by rw [q1]; exact List.mem_append_right _ (List.mem_cons_of_mem _ hx'))
    · refine List.pairwise_append.mpr ⟨p1, List.pairwise_cons.mpr ⟨fun b hb _ e => ?_, p4.2⟩, fun a ha b hb hb0 => ?_⟩
      · exact hne b (by rw [q1]; exact List.mem_append_right _ (List.mem_cons_of_mem _ hb)) e.symm
      · rcases List.mem_cons.mp hb with rfl | hb
        · exact hne a (by rw [q1]; exact List.mem_append_left _ ha)
        · exact p3 a ha b (List.mem_cons_of_mem _ hb) hb0
    · obtain ⟨r, hr⟩ := h.hd
      cases pre with
      | nil =>
        rw [hr] at q1
        injection q1 with e1 e2
        rw [← e1] at hy0
        exact absurd hy0 (by decide)
      | cons a pre =>
        rw [hr] at q1
        injection q1 with e1 e2
        exact ⟨pre ++ ⟨nm, n⟩ :: post, by rw [e1]; rfl⟩
    · have hyo : ¬ occ y = true := fun e => (occ_iff y).mp e hy0
      have hpm := h.pm
      rw [q1, List.filter_append, List.filter_cons_of_neg hyo] at hpm
      rw [List.filter_append, List.filter_cons_of_pos hxo]
      exact List.perm_middle.trans ((List.Perm.cons _ hpm).trans (by
        rw [show upK :: (es ++ [⟨nm, n⟩]) = (upK :: es) ++ [⟨nm, n⟩] from rfl]
        exact (List.perm_append_singleton _ _).symm))
    · intro z hz'
      rw [List.getLast?_append] at hz'
      have hla := h.la
      rw [q1] at hla
      cases post with
      | nil =>
        have : (⟨nm, n⟩ : S28) = z := by simpa using hz'
        rw [← this]
        show n ≠ 0
        omega
      | cons b post =>
        apply hla z
        rw [List.getLast?_append]
        simpa using hz'
/-! a name goes -/
theorem trim_spec (l : List S28) : ∀ n, n ≤ l.length → ∃ fs, l.take n = trim (l.take n) ++ fs ∧ (∀ f ∈ fs, f.f1 = 0) ∧ ∀ y, (trim (l.take n)).getLast? = some y → y.f1 ≠ 0
  | 0, _ => ⟨[], by rw [List.take_zero]; rfl, fun f hf => (by cases hf), fun y hy => by rw [List.take_zero, trim_nil] at hy; cases hy⟩
  | n + 1, h => by
    have hn : n < l.length := by omega
    obtain ⟨fs, h1, h2, h3⟩ := trim_spec l n (by omega)
    rw [trim_take l n hn]
    by_cases c : l[n].f1 = 0
    · rw [if_pos c]
      refine ⟨fs ++ [l[n]], ?_, fun f hf => ?_, h3⟩
      · rw [← List.append_assoc, ← h1, List.take_succ_eq_append_getElem hn]
      · rcases List.mem_append.mp hf with hf | hf
        · exact h2 f hf
        · rw [List.mem_singleton.mp hf]; exact c
    · rw [if_neg c]
      refine ⟨[], by rw [List.append_nil], fun f hf => (by cases hf), fun y hy => ?_⟩
      rw [List.take_succ_eq_append_getElem hn, List.getLast?_append, List.getLast?_singleton] at hy
      have : l[n] = y := by simpa using hy
      rw [← this]
      exact c
theorem trim_all (l : List S28) : ∃ fs, l = trim l ++ fs ∧ (∀ f ∈ fs, f.f1 = 0) ∧ ∀ y, (trim l).getLast? = some y → y.f1 ≠ 0 := by
  have := trim_spec l l.length (Nat.le_refl _)
  rw [List.take_length] at this
  exact this
theorem InvK.rem {dir es : List S28} (h : InvK dir es) {j : Nat} (hj : j < es.length) :
    InvK (trim (dir.set (findAt (hitE es[j].f0) 0 dir).toNat ⟨⟨#[]⟩, 0⟩)) (es.take j ++ es.drop (j + 1)) ∧ (trim (dir.set (findAt (hitE es[j].f0) 0 dir).toNat ⟨⟨#[]⟩, 0⟩)).length ≤ dir.length := by
  obtain ⟨x, hx⟩ : ∃ x, x = es[j] := ⟨_, rfl⟩
  have hxe : x ∈ es := by rw [hx]; exact List.getElem_mem _
  have hm := h.mem hxe
  rw [← hx]
  rcases findAt_spec (hitE x.f0) dir 0 with ⟨q1, q2⟩ | ⟨pre, y, post, q1, q2, q3, q4⟩
  · have := q2 x hm.1
    rw [(hit_iff _ _).mpr ⟨hm.2, rfl⟩] at this
    cases this
  · have hy := (hit_iff _ _).mp q3
    have hyd : y ∈ dir := by rw [q1]; simp
    obtain rfl : y = x := dir_uniq h.ok.ap hyd hm.1 hy.1 hm.2 hy.2
    have hset : dir.set pre.length ⟨⟨#[]⟩, 0⟩ = pre ++ ⟨⟨#[]⟩, 0⟩ :: post := by
      rw [q1, List.set_append, if_neg (by omega), Nat.sub_self, List.set_cons_zero]
    rw [q2, Nat.zero_add, Int.toNat_natCast, hset]
    obtain ⟨r, hr⟩ := h.hd
    have hyu : y ≠ upK := by
      intro e
      have := h.ck y hxe
      rw [e] at this
      exact dots_not this
    obtain ⟨pre', hpre⟩ : ∃ pre', pre = upK :: pre' := by
      cases pre with
      | nil =>
        rw [hr] at q1
        injection q1 with e1 e2
        exact absurd e1.symm hyu
      | cons a pre =>
        rw [hr] at q1
        injection q1 with e1 e2
        exact ⟨pre, by rw [e1]⟩
    have hok : DirOk (pre ++ ⟨⟨#[]⟩, 0⟩ :: post) := by
      have hap := h.ok.ap
      rw [q1] at hap
      obtain ⟨p1, p2, p3⟩ := List.pairwise_append.mp hap
      have p4 := List.pairwise_cons.mp p2
      refine ⟨fun x hx' => ?_, List.pairwise_append.mpr ⟨p1, List.pairwise_cons.mpr ⟨fun b hb hb0 e => ?_, p4.2⟩, fun a ha b hb hb0 => ?_⟩⟩
      · rcases List.mem_append.mp hx' with hx' | hx'
        · exact h.ok.ok x (by rw [q1]; exact List.mem_append_left _ hx')
        · rcases List.mem_cons.mp hx' with rfl | hx'
          · exact ⟨Int.le_refl _, by decide, Nat.zero_le _, ⟨fun _ => rfl, fun _ => rfl⟩⟩
          · exact h.ok.ok x (by rw [q1]; exact List.mem_append_right _ (List.mem_cons_of_mem _ hx'))
      · have hbo := h.ok.ok b (by rw [q1]; exact List.mem_append_right _ (List.mem_cons_of_mem _ hb))
        have e' : (⟨#[]⟩ : ByteArray) = b.f0 := e
        have : b.f0.size = 0 := by rw [← e']; rfl
        exact hb0 (hbo.fr.mpr this)
      · rcases List.mem_cons.mp hb with rfl | hb
        · exact absurd rfl hb0
        · exact p3 a ha b (List.mem_cons_of_mem _ hb) hb0
    obtain ⟨fs, t1, t2, t3⟩ := trim_all (pre ++ ⟨⟨#[]⟩, 0⟩ :: post)
    have hfs : fs.filter occ = [] := List.filter_eq_nil_iff.mpr fun f hf e => (occ_iff f).mp e (t2 f hf)
    have hf1 : (trim (pre ++ ⟨⟨#[]⟩, 0⟩ :: post)).filter occ = pre.filter occ ++ post.filter occ := by
      have := congrArg (List.filter occ) t1
      rw [List.filter_append, List.filter_append, hfs, List.append_nil, List.filter_cons_of_neg (by decide)] at this
      exact this.symm
    refine ⟨⟨⟨fun x hx' => hok.ok x (by rw [t1]; exact List.mem_append_left _ hx'), ?_⟩, ?_, ?_, ?_, t3⟩, ?_⟩
    · have := hok.ap
      rw [t1] at this
      exact (List.pairwise_append.mp this).1
    · cases hT : trim (pre ++ ⟨⟨#[]⟩, 0⟩ :: post) with
      | nil =>
        rw [hT, List.nil_append, hpre] at t1
        have := t2 upK (by rw [← t1]; simp)
        exact absurd this (by decide)
      | cons a T =>
        rw [hT, hpre] at t1
        injection t1 with e1 e2
        exact ⟨T, by rw [e1]⟩
    · rw [hf1]
      have hpm := h.pm
      rw [q1, List.filter_append, List.filter_cons_of_pos ((occ_iff y).mpr hm.2)] at hpm
      have h5 : (y :: (pre.filter occ ++ post.filter occ)).Perm (y :: (upK :: (es.take j ++ es.drop (j + 1)))) := by
        refine (List.perm_middle.symm.trans hpm).trans ?_
        have he : es = es.take j ++ y :: es.drop (j + 1) := by
          rw [hx, ← List.drop_eq_getElem_cons hj, List.take_append_drop]
        have : (upK :: es).Perm (upK :: (y :: (es.take j ++ es.drop (j + 1)))) := by
          refine List.Perm.cons _ ?_
          conv => lhs; rw [he]
          exact List.perm_middle
        exact this.trans (List.Perm.swap _ _ _)
      exact h5.cons_inv
    · intro x hx'
      rcases List.mem_append.mp hx' with hx' | hx'
      · exact h.ck x (List.mem_of_mem_take hx')
      · exact h.ck x (List.mem_of_mem_drop hx')
    · have := congrArg List.length t1
      rw [List.length_append, List.length_append, List.length_cons] at this
      rw [q1, List.length_append, List.length_cons]
      omega
end Go.Proofs.Ytkkflgdobgbmmaa.Pure
end
section
/- EntriesKeep: the law, over what the walk computes: the rounds. -/
namespace Go.Proofs.Ytkkflgdobgbmmaa.Pure
open Go.RowKit Go.Proofs.Ytkkflgdobgbmmaa.Q Go.Proofs.YtkkflgdobgbmmaaW.PrintWords Go.Proofs.YtkkflgdobgbmmaaW.PrintLast Go.Proofs.YtkkflgdobgbmmaaW.PrintMore
set_option linter.unusedVariables false
set_option linter.unusedSimpArgs false
theorem rdOf_nat (l : List ByteArray) (i : Nat) (h : i < l.length) : rdOf ByteArray.empty l (i : Int) = l[i] := by simp [rdOf, List.getD_eq_getElem?_getD, List.getElem?_eq_getElem h]
theorem rd55 (l : List S55) (i : Nat) (h : i < l.length) : rd_T55 l (i : Int) = l[i] := by simp [rd_T55, List.getD_eq_getElem?_getD, List.getElem?_eq_getElem h]
def lastAt (nm : ByteArray) : List ByteArray → Nat → Int → Int
  | [], _, a => a
  | x :: l, j, a => lastAt nm l (j + 1) (if x.toList = nm.toList then (j : Int) else a)
theorem lastAt_spec (nm : ByteArray) : ∀ (l : List ByteArray) (j : Nat) (a : Int), (lastAt nm l j a = a ∧ ∀ x ∈ l, x ≠ nm) ∨ ∃ i, ∃ h : i < l.length, lastAt nm l j a = ((j + i : Nat) : Int) ∧ l[i] = nm
  | [], j, a => .inl ⟨rfl, fun x hx => by cases hx⟩
  | x :: l, j, a => by
    rw [lastAt]
    rcases lastAt_spec nm l (j + 1) (if x.toList = nm.toList then (j : Int) else a) with ⟨h1, h2⟩ | ⟨i, h, h1, h2⟩
    · by_cases c : x.toList = nm.toList
      · rw [if_pos c] at h1 ⊢
        exact .inr ⟨0, by simp, by rw [h1]; rfl, (str_eq_iff _ _).mp c⟩
      · rw [if_neg c] at h1 ⊢
        refine .inl ⟨h1, fun y hy => ?_⟩
        rcases List.mem_cons.mp hy with rfl | hy
        · exact fun e => c (by rw [e])
        · exact h2 y hy
    · exact .inr ⟨i + 1, by simpa using h, by rw [h1]; congr 1; omega, by simpa using h2⟩
theorem keep_l1 (script : List S55) (b : List Int) (names : List ByteArray) (nums : List Int) (i : Int) (nm : ByteArray) (n : Int) (rm : Bool) (hl : names.length ≤ 1000) (k : Nat) (d : Nat) : ∀ (j : Nat) (a : Int), names.length - j = d → j ≤ names.length →
    reliquarylaw22_EntriesKeep.l1 (k + d) script b names nums i a j nm n rm = reliquarylaw22_EntriesKeep.l1 k script b names nums i (lastAt nm (names.drop j) j a) (names.length : Int) nm n rm := by
  induction d with
  | zero =>
    intro j a hd hj
    rw [List.drop_eq_nil_of_le (by omega), lastAt, show j = names.length by omega]
    rfl
  | succ d ih =>
    intro j a hd hj
    have hjl : j < names.length := by omega
    rw [show k + (d + 1) = (k + d) + 1 by omega, reliquarylaw22_EntriesKeep.l1, if_pos (by omega), if_pos (by omega), rdOf_nat names j hjl, wrap64_id (by omega) (by omega), List.drop_eq_getElem_cons hjl, lastAt, show (j : Int) + 1 = ((j + 1 : Nat) : Int) by omega]
    by_cases c : names[j].toList = nm.toList
    · rw [if_pos c, if_pos c]
      exact ih (j + 1) _ (by omega) (by omega)
    · rw [if_neg c, if_neg c]
      exact ih (j + 1) _ (by omega) (by omega)
/-- What the rounds behind round i answer. -/
def Later (script : List S55) (i : Nat) (K : Nat) : Prop := ∀ (k : Nat) (dir es : List S28), InvK dir es → dir.length ≤ i + 1 → es.length ≤ i → K ≤ k → reliquarylaw22_EntriesKeep.l0 k script (bytesL dir) (es.map S28.f0) (es.map S28.f1) (i : Int) = some true
theorem keep_w32 (n : Nat) (h0 : 32 ≤ n) (h1 : n ≤ 1000000) : wrap64 ((n : Int) - 32) = (n : Int) - 32 := wrap64_id (by omega) (by omega)
theorem keep_w31 (n : Nat) (h0 : 32 ≤ n) (h1 : n ≤ 1000000) : wrap64 ((n : Int) - 31) = (n : Int) - 31 := wrap64_id (by omega) (by omega)
theorem keep_wi (i : Nat) (hi : i < 30) : wrap64 ((i : Int) + 1) = ((i + 1 : Nat) : Int) := by rw [wrap64_id (by omega) (by omega)]; omega
theorem keep_n32 (n : Nat) (h0 : 32 ≤ n) : 0 ≤ (n : Int) - 32 := by omega
theorem keep_n31 (n : Nat) (h0 : 32 ≤ n) : 0 ≤ (n : Int) - 31 := by omega
theorem keep_l32 (n : Nat) : (n : Int) - 32 < n := by omega
theorem keep_l31 (n : Nat) : (n : Int) - 31 < n := by omega
theorem keep_if {p q : Prop} [Decidable p] [Decidable q] {a b : Option Bool} (hn : p → q → False) (hb : b = some true) : (if p then (if q then a else b) else b) = some true := by
  by_cases c : p
  · rw [if_pos c, if_neg (hn c)]; exact hb
  · rw [if_neg c]; exact hb
theorem keep_l2 (script : List S55) (i K : Nat) (hi : i < 30) (hK : 2600 ≤ K) (H : Later script (i + 1) K) (dir es : List S28) (h : InvK dir es) (hd : dir.length ≤ i + 2) (he : es.length ≤ i + 1) (d : Nat) : ∀ (k j : Nat), es.length - j = d → j ≤ es.length → K + d + 1 ≤ k →
    reliquarylaw22_EntriesKeep.l2 k script (bytesL dir) (es.map S28.f0) (es.map S28.f1) (i : Int) (j : Int) = some true := by
  have hbl := bytesL_length dir
  have hu := bytesL_u8s dir
  induction d with
  | zero =>
    intro k j hdj hj hk
    obtain ⟨k, rfl⟩ : ∃ m, k = m + 1 := ⟨k - 1, by omega⟩
    have hl1 := h.last.1
    have hlist := h.list
    have b1 : (bytesL dir).length ≤ 1000000 := by omega
    have b2 : 32 ≤ (bytesL dir).length := by omega
    have b3 : ((bytesL dir).length : Int) % 32 = 0 := by omega
    have b4 : K ≤ k := by omega
    have b5 : ¬ ((es.map S28.f0).length : Int) > j := by rw [List.length_map]; omega
    obtain ⟨len, hlen⟩ : ∃ len, len = (bytesL dir).length := ⟨_, rfl⟩
    rw [reliquarylaw22_EntriesKeep.l2, if_neg (show ¬ ((j : Nat) : Int) < ((es.map S28.f0).length : Int) from b5), elist_eq _ hu b1, Option.bind_some, if_pos hlist.1, if_pos (by rw [hlist.2, List.length_map]), if_pos b3, keep_w32 _ b2 b1, keep_w31 _ b2 b1, keep_wi i hi,
      if_pos (keep_n32 _ b2), if_pos (keep_l32 _), if_pos (keep_n31 _ b2), if_pos (keep_l31 _)]
    exact keep_if (fun c1 c2 => h.last.2 ⟨c1, c2⟩) (H k dir es h hd he b4)
  | succ d ih =>
    intro k j hdj hj hk
    obtain ⟨k, rfl⟩ : ∃ m, k = m + 1 := ⟨k - 1, by omega⟩
    have hjl : j < es.length := by omega
    rw [reliquarylaw22_EntriesKeep.l2, List.length_map, List.length_map, if_pos (by omega), if_pos (by omega), rdOf_nat _ j (by rw [List.length_map]; exact hjl), List.getElem_map, find_eq _ _ hu (by omega), Option.bind_some, h.find (List.getElem_mem hjl), if_pos rfl, if_pos (by omega),
      rd_nat _ j (by rw [List.length_map]; exact hjl), List.getElem_map, if_pos rfl, wrap64_id (by omega) (by omega)]
    exact ih k (j + 1) (by omega) (by omega) (by omega)
theorem keep_j4 (script : List S55) (i K : Nat) (hi : i < 30) (hK : 2600 ≤ K) (H : Later script (i + 1) K) (dir es : List S28) (h : InvK dir es) (hd : dir.length ≤ i + 2) (he : es.length ≤ i + 1) (k : Nat) (hk : K + 40 ≤ k) :
    reliquarylaw22_EntriesKeep.j4 k script (bytesL dir) (es.map S28.f0) (es.map S28.f1) (i : Int) = some true := by
  obtain ⟨k, rfl⟩ : ∃ m, k = m + 1 := ⟨k - 1, by omega⟩
  rw [reliquarylaw22_EntriesKeep.j4]
  exact keep_l2 script i K hi hK H dir es h hd he es.length k 0 (by omega) (by omega) (by omega)
/-- Nothing was done: on. -/
theorem keep_no (script : List S55) (i K : Nat) (hi : i < 30) (H : Later script (i + 1) K) (dir es : List S28) (h : InvK dir es) (hd : dir.length ≤ i + 1) (he : es.length ≤ i) (k : Nat) (hk : K ≤ k) (a : Int) (c : List Int) (err : Int) (herr : err ≠ 0) (nm : ByteArray) (n : Int) (rm : Bool) :
    reliquarylaw22_EntriesKeep.j3 (k + 1) script (bytesL dir) (es.map S28.f0) (es.map S28.f1) (i : Int) a c err nm n rm = some true := by
  rw [reliquarylaw22_EntriesKeep.j3, if_neg herr, wrap64_id (by omega) (by omega)]
  exact H k dir es h (by omega) (by omega) hk
theorem keep_at (script : List S55) (i K : Nat) (hi : i < 30) (hK : 2600 ≤ K) (H : Later script (i + 1) K) (dir es : List S28) (h : InvK dir es) (hd : dir.length ≤ i + 1) (he : es.length ≤ i) (nm : ByteArray) (n : Int) (hn0 : 0 ≤ n) (hn1 : n < 65536) (rm : Bool) (k : Nat) (hk : K + 42 ≤ k) :
    reliquarylaw22_EntriesKeep.l1 (k + 1) script (bytesL dir) (es.map S28.f0) (es.map S28.f1) (i : Int) (lastAt nm (es.map S28.f0) 0 (-1)) ((es.map S28.f0).length : Int) nm n rm = some true := by
  obtain ⟨k, rfl⟩ : ∃ m, k = m + 1 := ⟨k - 1, by omega⟩
  have hbl := bytesL_length dir
  have hu := bytesL_u8s dir
  have hno : ∀ (a : Int) (c : List Int) (err : Int), err ≠ 0 → reliquarylaw22_EntriesKeep.j3 (k + 1) script (bytesL dir) (es.map S28.f0) (es.map S28.f1) (i : Int) a c err nm n rm = some true := fun a c err herr => keep_no script i K hi H dir es h hd he k (by omega) a c err herr nm n rm
  -- where the name stands
  obtain ⟨a, ha⟩ : ∃ a, a = lastAt nm (es.map S28.f0) 0 (-1) := ⟨_, rfl⟩
  have hat : (a = -1 ∧ ∀ x ∈ es, x.f0 ≠ nm) ∨ ∃ j, ∃ hj : j < es.length, a = (j : Int) ∧ es[j].f0 = nm := by
    rcases lastAt_spec nm (es.map S28.f0) 0 (-1) with ⟨h1, h2⟩ | ⟨j, hj, h1, h2⟩
    · exact .inl ⟨ha.trans h1, fun x hx => h2 x.f0 (List.mem_map_of_mem hx)⟩
    · rw [List.length_map] at hj
      rw [List.getElem_map] at h2
      exact .inr ⟨j, hj, by rw [ha, h1, Nat.zero_add], h2⟩
  rw [← ha]
  clear ha
  have hcase : ckV nm ≠ 0 → a = -1 := by
    intro hc
    rcases hat with hat | ⟨j, hj, h1, h2⟩
    · exact hat.1
    · exact absurd (by rw [← h2]; exact h.ck _ (List.getElem_mem hj)) hc
  rw [reliquarylaw22_EntriesKeep.l1, if_neg (by omega), check_eq, Option.bind_some]
  by_cases hrm : rm = true
  · -- a name goes
    rw [if_pos hrm, remove_eq _ _ _ hu (by omega) (by omega), Option.bind_some]
    by_cases hc : ckV nm = 0
    · have hh := hit_dir h hc
      rw [remV_bytes _ h.ok _ hc]
      rcases hat with ⟨h1, h2⟩ | ⟨j, hj, h1, h2⟩
      · have : findAt (hitE nm) 0 dir < 0 := by
          rcases Int.lt_or_le (findAt (hitE nm) 0 dir) 0 with hlt | hle
          · exact hlt
          · obtain ⟨x, hx, e⟩ := hh.mp hle
            exact absurd e (h2 x hx)
        rw [if_pos this, h1, if_neg (by decide)]
        exact hno _ _ _ (by decide)
      · have hle : 0 ≤ findAt (hitE nm) 0 dir := hh.mpr ⟨es[j], List.getElem_mem hj, h2⟩
        have hI := h.rem hj
        rw [h2] at hI
        rw [if_neg (show ¬ findAt (hitE nm) 0 dir < 0 by omega), h1]
        have e1 : (((0 : Int) == 0) != decide ((j : Int) ≥ 0)) = false := by rw [decide_eq_true (by omega)]; rfl
        show (if (((0 : Int) == 0) != decide ((j : Int) ≥ 0)) = true then some false else reliquarylaw22_EntriesKeep.j3 (k + 1) script (bytesL dir) (es.map S28.f0) (es.map S28.f1) (i : Int) (j : Int) (bytesL (trim (dir.set (findAt (hitE nm) 0 dir).toNat ⟨⟨#[]⟩, 0⟩))) 0 nm n rm) = _
        rw [e1, if_neg (by decide), reliquarylaw22_EntriesKeep.j3, if_pos rfl, if_pos hrm, if_pos (by omega), List.length_map, List.length_map, if_pos (by omega), Option.bind_some, if_pos (by simp; omega), Option.bind_some, if_pos (by omega), Option.bind_some, if_pos (by simp; omega), Option.bind_some,
          wrap64_id (by omega) (by omega), if_pos (by omega), if_pos (by omega), Option.bind_some, if_pos (by simp; omega), if_pos (by omega), Option.bind_some, if_pos (by simp; omega), List.nil_append, List.nil_append, Int.toNat_natCast, show ((j : Int) + 1).toNat = j + 1 by omega,
          ← List.map_take, ← List.map_take, ← List.map_drop, ← List.map_drop, ← List.map_append, ← List.map_append]
        exact keep_j4 script i K hi hK H _ _ hI.1 (by omega) (by rw [List.length_append, List.length_take, List.length_drop]; omega) k (by omega)
    · rw [remV_no _ _ hc, hcase hc, if_neg (by decide)]
      exact hno _ _ _ (by decide)
  · -- a name comes
    rw [if_neg hrm, insert_eq _ _ _ _ hu (by omega) (by omega), Option.bind_some, wrap64_id (by omega) (by omega)]
    by_cases hc : ckV nm = 0
    · rw [if_pos hc]
      have hh := hit_dir h hc
      by_cases hn : n > 0
      · rw [if_pos hn, insV_bytes _ h.ok _ n (by omega) hn1 hc]
        rcases hat with ⟨h1, h2⟩ | ⟨j, hj, h1, h2⟩
        · have : findAt (hitE nm) 0 dir < 0 := by
            rcases Int.lt_or_le (findAt (hitE nm) 0 dir) 0 with hlt | hle
            · exact hlt
            · obtain ⟨x, hx, e⟩ := hh.mp hle
              exact absurd e (h2 x hx)
          have hI := h.ins (n := n) hc (by omega) hn1 this
          rw [if_neg (show ¬ 0 ≤ findAt (hitE nm) 0 dir by omega), h1]
          show (if (((0 : Int) == 0) != decide ((-1 : Int) < 0)) = true then some false else reliquarylaw22_EntriesKeep.j3 (k + 1) script (bytesL dir) (es.map S28.f0) (es.map S28.f1) (i : Int) (-1) (bytesL (putFree dir ⟨nm, n⟩)) 0 nm n rm) = _
          rw [if_neg (by decide), reliquarylaw22_EntriesKeep.j3, if_pos rfl, if_neg hrm, List.length_map, List.length_map, if_pos (by omega), if_pos (by omega), wrap64_id (by omega) (by omega)]
          have := keep_j4 script i K hi hK H _ _ hI.1 (by omega) (by rw [List.length_append]; show es.length + 1 ≤ _; omega) k (by omega)
          rw [List.map_append, List.map_append] at this
          exact this
        · have hle : 0 ≤ findAt (hitE nm) 0 dir := hh.mpr ⟨es[j], List.getElem_mem hj, h2⟩
          rw [if_pos hle, h1]
          have e1 : (((22 : Int) == 0) != decide ((j : Int) < 0)) = false := by rw [decide_eq_false (by omega)]; rfl
          show (if (((22 : Int) == 0) != decide ((j : Int) < 0)) = true then some false else reliquarylaw22_EntriesKeep.j3 (k + 1) script (bytesL dir) (es.map S28.f0) (es.map S28.f1) (i : Int) (j : Int) [] 22 nm n rm) = _
          rw [e1, if_neg (by decide)]
          exact hno _ _ _ (by decide)
      · have hz := insV_num (bytesL dir) nm n (by omega)
        rw [if_neg hn, beq_eq_false_iff_ne.mpr hz, if_neg (by decide)]
        exact hno _ _ _ hz
    · rw [if_neg hc, insV_no _ _ _ hc, if_neg (by decide)]
      exact hno _ _ _ (by decide)
theorem keep_round (script : List S55) (hs : ∀ x ∈ script, 0 ≤ x.f1 ∧ x.f1 < 65536) (hl : script.length ≤ 9223372036854775807) (d : Nat) : ∀ i, 30 - i = d → i ≤ 30 → Later script i (2600 + 100 * d) := by
  induction d with
  | zero =>
    intro i hd hi k dir es h hdl hel hk
    obtain ⟨k, rfl⟩ : ∃ m, k = m + 2 := ⟨k - 2, by omega⟩
    obtain rfl : i = 30 := by omega
    have hj : reliquarylaw22_EntriesKeep.j1 (k + 1) script (bytesL dir) (es.map S28.f0) (es.map S28.f1) ((30 : Nat) : Int) false = some true := by rw [reliquarylaw22_EntriesKeep.j1, if_neg (by decide)]
    rw [reliquarylaw22_EntriesKeep.l0]
    by_cases c : ((30 : Nat) : Int) < (script.length : Int)
    · rw [if_pos c]; exact hj
    · rw [if_neg c]; exact hj
  | succ d ih =>
    intro i hd hi k dir es h hdl hel hk
    have H := ih (i + 1) (by omega) (by omega)
    obtain ⟨k, rfl⟩ : ∃ m, k = m + 2 := ⟨k - 2, by omega⟩
    rw [reliquarylaw22_EntriesKeep.l0]
    by_cases c : (i : Int) < (script.length : Int)
    · have hil : i < script.length := by omega
      have hx := hs script[i] (List.getElem_mem hil)
      rw [if_pos c, decide_eq_true (by omega), reliquarylaw22_EntriesKeep.j1, if_pos rfl, if_pos (by omega), if_pos c, rd55 script i hil]
      by_cases c2 : (script[i].f0.size : Int) > 100
      · rw [if_pos c2]
      · rw [if_neg c2]
        have hk2 : ∃ q, k = (q + 1) + es.length ∧ 2600 + 100 * d + 42 ≤ q := ⟨k - es.length - 1, by omega, by omega⟩
        obtain ⟨q, rfl, hq⟩ := hk2
        have hml : (es.map S28.f0).length = es.length := List.length_map _
        have := keep_l1 script (bytesL dir) (es.map S28.f0) (es.map S28.f1) (i : Int) script[i].f0 script[i].f1 script[i].f2 (by omega) (q + 1) es.length 0 (-1) (by omega) (by omega)
        rw [List.drop_zero] at this
        exact this.trans (keep_at script i _ (by omega) (by omega) H dir es h hdl hel _ _ hx.1 hx.2 _ q hq)
    · rw [if_neg c, reliquarylaw22_EntriesKeep.j1, if_neg (by decide)]
theorem EntriesKeep (script : List S55) (hs : ∀ x ∈ script, (Lit.int .u16 x.f1).wf = true) (hl : script.length ≤ 9223372036854775807) : ∃ k, reliquarylaw22_EntriesKeep.f k script = some true := by
  refine ⟨9000, ?_⟩
  unfold reliquarylaw22_EntriesKeep.f
  rw [awake22_ok 9000 (by decide), Option.bind_some, if_pos rfl, new_eq 1 (by decide) (by decide), Option.bind_some, ← bytesL_one]
  exact keep_round script (fun x hx => wf_u16 (hs x hx)) hl 30 0 rfl (by omega) 9000 [upK] [] inv_one (by decide) (by decide) (by decide)
end Go.Proofs.Ytkkflgdobgbmmaa.Pure
end
