/- What the package word and its reference compute, in plain words: numbers as bytes, the lowest first. -/
import Derived.Test.YtjpkjakdhbnehaaQxw
import Derived.Test.YtjpkjakdhbnehaaQxf27
import Derived.Test.YtjpkjakdhbnehaaQxf23
import Derived.Test.YtjpkjakdhbnehaaQxf22
import Derived.Test.YtjpkjakdhbnehaaQxf29
import Derived.Test.YtjpkjakdhbnehaaQxf24
import Derived.Test.YtjpkjakdhbnehaaQxf21
namespace Go.Proofs.Ytjpkjakdhbnehaa.Pure
open Go.RowKit Go.Proofs.Ytjpkjakdhbnehaa.Q Go.Proofs.YtjpkjakdhbnehaaW.PrintWords Go.Proofs.YtjpkjakdhbnehaaW.PrintLast Go.Proofs.YtjpkjakdhbnehaaW.PrintMore
set_option linter.unusedVariables false
set_option linter.unusedSimpArgs false

theorem wrap64_id {n : Int} (h0 : -9223372036854775808 ≤ n) (h1 : n ≤ 9223372036854775807) : wrap64 n = n := by unfold wrap64; omega
theorem wrapu_id {n : Int} (h0 : 0 ≤ n) (h1 : n < 18446744073709551616) : IntKind.u64.wrap n = n := wraps_u64 n h0 h1
theorem rd_nat (l : List Int) (i : Nat) (h : i < l.length) : rd l (i : Int) = l[i] := by simp [rd, List.getD_eq_getElem?_getD, List.getElem?_eq_getElem h]
theorem pow256_pos (n : Nat) : (0 : Int) < 256 ^ n := Int.pow_pos (by decide)

theorem wf_u8s {l : List Int} (h : ∀ x ∈ l, (Lit.int .u8 x).wf = true) : u8s l := fun x hx => by
  have := h x hx
  simp [Lit.wf, IntKind.min, IntKind.max, IntKind.signed, IntKind.bits] at this
  omega
theorem wf_u64 {n : Int} (h : (Lit.int .u64 n).wf = true) : 0 ≤ n ∧ n < 18446744073709551616 := by
  simp [Lit.wf, IntKind.min, IntKind.max, IntKind.signed, IntKind.bits] at h
  omega
theorem wf_i64 {n : Int} (h : (Lit.int .i64 n).wf = true) : -9223372036854775808 ≤ n ∧ n ≤ 9223372036854775807 := by
  simp [Lit.wf, IntKind.min, IntKind.max, IntKind.signed, IntKind.bits] at h
  omega
theorem wf_u16 {n : Int} (h : (Lit.int .u16 n).wf = true) : 0 ≤ n ∧ n < 65536 := by
  simp [Lit.wf, IntKind.min, IntKind.max, IntKind.signed, IntKind.bits] at h
  omega
theorem wf_u32 {n : Int} (h : (Lit.int .u32 n).wf = true) : 0 ≤ n ∧ n < 4294967296 := by
  simp [Lit.wf, IntKind.min, IntKind.max, IntKind.signed, IntKind.bits] at h
  omega
theorem wf_u8 {n : Int} (h : (Lit.int .u8 n).wf = true) : 0 ≤ n ∧ n < 256 := by
  simp [Lit.wf, IntKind.min, IntKind.max, IntKind.signed, IntKind.bits] at h
  omega
def lebytes : Nat → Int → List Int
  | 0, _ => []
  | n + 1, x => x % 256 :: lebytes n (x / 256)
theorem lebytes_length : ∀ (n : Nat) (x : Int), (lebytes n x).length = n
  | 0, _ => rfl
  | n + 1, x => by rw [lebytes, List.length_cons, lebytes_length n]
theorem lebytes_u8s : ∀ (n : Nat) (x : Int), u8s (lebytes n x)
  | 0, _ => by simp [lebytes, u8s]
  | n + 1, x => by
    intro y hy
    rw [lebytes, List.mem_cons] at hy
    rcases hy with rfl | hy
    · omega
    · exact lebytes_u8s n _ y hy
theorem leval_lebytes : ∀ (n : Nat) (x : Int), leval (lebytes n x) = x % 256 ^ n
  | 0, x => by simp [lebytes, leval, Int.emod_one]
  | n + 1, x => by
    rw [lebytes, leval, leval_lebytes n, Int.pow_succ, Int.mul_comm (256 ^ n) 256]
    have h1 := Int.emod_add_mul_ediv x (256 * 256 ^ n)
    have h2 := Int.emod_add_mul_ediv (x / 256) (256 ^ n)
    have h3 := Int.emod_add_mul_ediv x 256
    have h4 : x / (256 * 256 ^ n) = x / 256 / 256 ^ n := (Int.ediv_ediv_of_nonneg (by decide)).symm
    rw [h4] at h1
    have h5 : 256 * (256 ^ n * (x / 256 / 256 ^ n)) = 256 * 256 ^ n * (x / 256 / 256 ^ n) := (Int.mul_assoc _ _ _).symm
    omega
theorem lebytes_get : ∀ (n i : Nat) (x : Int) (h : i < (lebytes n x).length), (lebytes n x)[i] = x / 256 ^ i % 256
  | 0, _, _, h => by simp [lebytes] at h
  | n + 1, 0, x, _ => by simp [lebytes]
  | n + 1, i + 1, x, h => by
    have := lebytes_get n i (x / 256) (by simpa [lebytes] using h)
    simp only [lebytes, List.getElem_cons_succ]
    rw [this, Int.pow_succ, Int.mul_comm, Int.ediv_ediv_of_nonneg (by decide)]
theorem lebytes_snoc : ∀ (n : Nat) (x : Int), lebytes (n + 1) x = lebytes n x ++ [x / 256 ^ n % 256]
  | 0, x => by simp [lebytes]
  | n + 1, x => by
    rw [lebytes, lebytes_snoc n (x / 256), lebytes, List.cons_append, Int.pow_succ, Int.mul_comm, Int.ediv_ediv_of_nonneg (by decide)]

def putV (x n : Int) : List Int := if 1 ≤ n ∧ n ≤ 8 then lebytes n.toNat x else []
/-! word.Put -/
theorem set_fill (l : List Int) (i : Nat) (h : i < l.length) : (l.take i ++ List.replicate (l.length - i) 0).set i l[i] = l.take (i + 1) ++ List.replicate (l.length - (i + 1)) 0 := by
  have h1 : (l.take i).length = i := by rw [List.length_take]; omega
  rw [List.set_append, if_neg (by omega), h1, Nat.sub_self, show l.length - i = (l.length - (i + 1)) + 1 by omega, List.replicate_succ, List.set_cons_zero, List.take_succ_eq_append_getElem h, List.append_assoc]
  rfl
theorem put_loop (x : Int) (hx : 0 ≤ x) (n : Nat) (hn : n ≤ 8) (d : Nat) : ∀ (k i : Nat), n - i = d → i ≤ n → d < k →
    word_Put.l0 k x ((lebytes n x).take i ++ List.replicate ((lebytes n x).length - i) 0) n i = some (lebytes n x) := by
  induction d with
  | zero =>
    intro k i hd hi hk
    obtain ⟨k, rfl⟩ : ∃ m, k = m + 1 := ⟨k - 1, by omega⟩
    simp only [word_Put.l0]
    rw [if_neg (by omega), lebytes_length, show n - i = 0 by omega, List.replicate_zero, List.append_nil, List.take_of_length_le (by rw [lebytes_length]; omega)]
  | succ d ih =>
    intro k i hd hi hk
    obtain ⟨k, rfl⟩ : ∃ m, k = m + 1 := ⟨k - 1, by omega⟩
    have hlen := lebytes_length n x
    have hil : i < (lebytes n x).length := by omega
    have hw : IntKind.u64.wrap (wrap64 (8 * (i : Int))) = 8 * (i : Int) := by rw [wrap64_id (by omega) (by omega), wrapu_id (by omega) (by omega)]
    have hv : shr .u64 x (8 * (i : Int)) % 256 = (lebytes n x)[i] := by
      rw [lebytes_get]
      unfold shr
      rw [show (8 * (i : Int)).toNat = 8 * i by omega, show IntKind.u64.bits = 64 from rfl, Nat.min_eq_left (by omega), ← pow256]
    simp only [word_Put.l0]
    rw [if_pos (by omega), hw, if_pos (by omega), if_pos (by omega), if_pos (by rw [List.length_append, List.length_take, List.length_replicate]; omega), Int.toNat_natCast, hv, set_fill _ _ hil, wrap64_id (by omega) (by omega)]
    exact ih k (i + 1) (by omega) (by omega) (by omega)
theorem word_size_eq (n : Int) : word_size.f n = some (decide (1 ≤ n ∧ n ≤ 8)) := by
  unfold word_size.f
  by_cases h : n ≥ 1
  · rw [if_pos h]; congr 1; simp; omega
  · rw [if_neg h]; congr 1; symm; simp; omega
theorem word_Put_eq (k : Nat) (hk : 9 ≤ k) (x n : Int) (hx : 0 ≤ x) : word_Put.f k x n = some (putV x n) := by
  unfold word_Put.f putV
  rw [word_size_eq, Option.bind_some]
  by_cases h : 1 ≤ n ∧ n ≤ 8
  · rw [if_pos (by simpa using h), if_pos h, if_pos (by omega), if_pos (by omega)]
    obtain ⟨m, rfl⟩ := Int.eq_ofNat_of_zero_le (show 0 ≤ n by omega)
    have := put_loop x hx m (by omega) m k 0 (by omega) (by omega) (by omega)
    rw [lebytes_length] at this
    simpa using this
  · rw [if_neg (by simpa using h), if_neg h]

/-! the reference's Put -/
theorem refput_loop (x0 : Int) (n : Nat) (hn : n ≤ 8) (hx0 : 0 ≤ x0) (hx1 : x0 < 18446744073709551616) (d : Nat) : ∀ (k i : Nat), n - i = d → i ≤ n → d < k →
    reliquaryref01_Put.l0 k (x0 / 256 ^ i) n (lebytes i x0) i = some (lebytes n x0) := by
  induction d with
  | zero =>
    intro k i hd hi hk
    obtain ⟨k, rfl⟩ : ∃ m, k = m + 1 := ⟨k - 1, by omega⟩
    simp only [reliquaryref01_Put.l0]
    rw [if_neg (by omega), show i = n by omega]
  | succ d ih =>
    intro k i hd hi hk
    obtain ⟨k, rfl⟩ : ∃ m, k = m + 1 := ⟨k - 1, by omega⟩
    have hy0 : 0 ≤ x0 / 256 ^ i := Int.ediv_nonneg hx0 (Int.le_of_lt (pow256_pos i))
    have hy1 : x0 / 256 ^ i < 18446744073709551616 := Int.lt_of_le_of_lt (Int.ediv_le_self _ hx0) hx1
    simp only [reliquaryref01_Put.l0]
    rw [if_pos (by omega), if_pos (by rw [lebytes_length]; omega), Int.tmod_eq_emod_of_nonneg hy0, Int.tdiv_eq_ediv_of_nonneg hy0, wrapu_id (by omega) (by omega), wrap64_id (by omega) (by omega), Int.emod_emod_of_dvd _ (by decide : (256 : Int) ∣ 256), ← lebytes_snoc,
      Int.ediv_ediv_of_nonneg (Int.le_of_lt (pow256_pos i)), ← Int.pow_succ]
    exact ih k (i + 1) (by omega) (by omega) (by omega)
theorem refput_eq (k : Nat) (hk : 9 ≤ k) (x n : Int) (hx : 0 ≤ x) (hx1 : x < 18446744073709551616) : reliquaryref01_Put.f k x n = some (putV x n) := by
  unfold reliquaryref01_Put.f putV
  by_cases h : n > 8
  · rw [if_pos h, if_neg (by omega)]
  · rw [if_neg h]
    by_cases h1 : 1 ≤ n
    · rw [if_pos (by omega)]
      obtain ⟨m, rfl⟩ := Int.eq_ofNat_of_zero_le (show 0 ≤ n by omega)
      have := refput_loop x m (by omega) hx hx1 m k 0 (by omega) (by omega) (by omega)
      simpa [lebytes] using this
    · rw [if_neg (by omega)]
      obtain ⟨k, rfl⟩ : ∃ m, k = m + 1 := ⟨k - 1, by omega⟩
      simp only [reliquaryref01_Put.l0]
      rw [if_neg (by omega)]

/-! word.Get -/
def insideV (len a n : Int) : Int := if ¬ (1 ≤ n ∧ n ≤ 8) then 1 else if a < 0 ∨ len < a ∨ len - a < n then 12 else 0
def cutV (l : List Int) (a n : Int) : List Int := (l.take (a + n).toNat).drop a.toNat
def getV (l : List Int) (a n : Int) : Int × Int := if insideV l.length a n = 0 then (leval (cutV l a n), 0) else (0, insideV l.length a n)
theorem u8s_cut {l : List Int} (h : u8s l) (a n : Int) : u8s (cutV l a n) := fun x hx => h x (List.mem_of_mem_take (List.mem_of_mem_drop hx))
theorem insideV_zero {len a n : Int} (h : insideV len a n = 0) : 0 ≤ a ∧ 1 ≤ n ∧ n ≤ 8 ∧ a + n ≤ len := by
  unfold insideV at h
  split at h
  · omega
  · split at h <;> omega
theorem insideV_of {len a n : Int} (h0 : 0 ≤ a) (h1 : 1 ≤ n) (h2 : n ≤ 8) (h3 : a + n ≤ len) : insideV len a n = 0 := by
  unfold insideV
  rw [if_neg (by omega), if_neg (by omega)]
theorem cutV_length {l : List Int} {a n : Int} (h0 : 0 ≤ a) (h1 : 0 ≤ n) (h3 : a + n ≤ l.length) : (cutV l a n).length = n.toNat := by
  unfold cutV
  rw [List.length_drop, List.length_take]
  omega
theorem word_inside_eq (l : List Int) (a n : Int) (hl : l.length ≤ 140737488351232) (ha1 : a ≤ 9223372036854775807) : word_inside.f l a n = some (insideV l.length a n) := by
  unfold word_inside.f insideV
  rw [word_size_eq, Option.bind_some]
  by_cases h : 1 ≤ n ∧ n ≤ 8
  · rw [if_pos (show decide (1 ≤ n ∧ n ≤ 8) = true by simpa using h), if_neg (show ¬ ¬ (1 ≤ n ∧ n ≤ 8) by simpa using h)]
    by_cases h1 : a < 0
    · rw [if_pos h1, if_pos (by omega)]
    · rw [if_neg h1]
      by_cases h2 : a > l.length
      · rw [if_pos h2, if_pos (by omega)]
      · rw [if_neg h2, wrap64_id (by omega) (by omega)]
        by_cases h3 : (l.length : Int) - a < n
        · rw [if_pos h3, if_pos (by omega)]
        · rw [if_neg h3, if_neg (by omega)]
  · rw [if_neg (show ¬ decide (1 ≤ n ∧ n ≤ 8) = true by simpa using h), if_pos h]
theorem word_Get_eq (l : List Int) (a n : Int) (hu : u8s l) (hl : l.length ≤ 140737488351232) (ha1 : a ≤ 9223372036854775807) : word_Get.f l a n = some (getV l a n) := by
  unfold word_Get.f getV
  rw [word_inside_eq l a n hl ha1, Option.bind_some]
  by_cases h : insideV l.length a n = 0
  · have h1 := insideV_zero h
    rw [if_pos h, if_pos h, if_pos ⟨h1.1, h1.2.1, h1.2.2.1, h1.2.2.2, hl, u8s_cut hu a n⟩]
    rfl
  · rw [if_neg h, if_neg h]

/-! the reference's Get -/
theorem cutV_snoc (l : List Int) (a i : Int) (h0 : 0 ≤ a) (hi : 0 ≤ i) (h : a + i < l.length) : cutV l a (i + 1) = cutV l a i ++ [rd l (a + i)] := by
  obtain ⟨m, hm⟩ := Int.eq_ofNat_of_zero_le (show 0 ≤ a + i by omega)
  unfold cutV
  have hml : m < l.length := by omega
  rw [show (a + (i + 1)).toNat = m + 1 by omega, show (a + i).toNat = m by omega, List.take_succ_eq_append_getElem hml, List.drop_append_of_le_length (by rw [List.length_take]; omega), hm, rd_nat l m hml]
theorem refget_loop (l : List Int) (hu : u8s l) (hl : l.length ≤ 140737488351232) (a : Int) (n : Nat) (h0 : 0 ≤ a) (hn : n ≤ 8) (h3 : a + n ≤ l.length) (d : Nat) : ∀ (k i : Nat), n - i = d → i ≤ n → d < k →
    reliquaryref01_Get.l0 k l a n (leval (cutV l a i)) (IntKind.u64.wrap (256 ^ i)) i = some (leval (cutV l a n), 0) := by
  induction d with
  | zero =>
    intro k i hd hi hk
    obtain ⟨k, rfl⟩ : ∃ m, k = m + 1 := ⟨k - 1, by omega⟩
    simp only [reliquaryref01_Get.l0]
    rw [if_neg (by omega), show i = n by omega]
  | succ d ih =>
    intro k i hd hi hk
    obtain ⟨k, rfl⟩ : ∃ m, k = m + 1 := ⟨k - 1, by omega⟩
    have hai : a + (i : Int) < l.length := by omega
    have hb : 0 ≤ rd l (a + i) ∧ rd l (a + i) < 256 := by
      obtain ⟨m, hm⟩ := Int.eq_ofNat_of_zero_le (show 0 ≤ a + (i : Int) by omega)
      rw [hm, rd_nat l m (by omega)]
      exact hu _ (List.getElem_mem _)
    have hcl : (cutV l a i).length = i := by rw [cutV_length h0 (by omega) (by omega)]; omega
    have hv := leval_range (cutV l a i) (u8s_cut hu a i)
    rw [hcl] at hv
    have hp := pow256_pos i
    have hp8 : (256 : Int) ^ i * 256 ≤ 18446744073709551616 := by
      rw [← Int.pow_succ, show (18446744073709551616 : Int) = 256 ^ 8 from by decide]
      exact pow_mono 256 (by decide) (by omega)
    have hq : rd l (a + i) * 256 ^ i ≤ 255 * 256 ^ i := Int.mul_le_mul_of_nonneg_right (by omega) (by omega)
    have hq0 : 0 ≤ rd l (a + i) * 256 ^ i := Int.mul_nonneg hb.1 (by omega)
    have hs : leval (cutV l a (i + 1 : Nat)) = leval (cutV l a i) + rd l (a + i) * 256 ^ i := by
      rw [show ((i + 1 : Nat) : Int) = (i : Int) + 1 by omega, cutV_snoc l a i h0 (by omega) hai, leval_snoc, hcl]
    simp only [reliquaryref01_Get.l0]
    rw [if_pos (by omega), wrap64_id (by omega) (by omega), if_pos (by omega), if_pos (by omega), wrapu_id (n := rd l (a + i)) (by omega) (by omega), wrapu_id (n := 256 ^ i) (by omega) (by omega), wrapu_id (n := rd l (a + i) * 256 ^ i) (by omega) (by omega), wrapu_id (n := leval (cutV l a i) + rd l (a + i) * 256 ^ i) (by omega) (by omega), ← hs, ← Int.pow_succ, wrap64_id (by omega) (by omega)]
    exact ih k (i + 1) (by omega) (by omega) (by omega)
theorem refget_eq (k : Nat) (hk : 20 ≤ k) (l : List Int) (a n : Int) (hu : u8s l) (hl : l.length ≤ 140737488351232) (ha1 : a ≤ 9223372036854775807) : reliquaryref01_Get.f k l a n = some (getV l a n) := by
  have hj : ∀ b, reliquaryref01_Get.f k l a n = reliquaryref01_Get.j0 k l a n b → (b = true ↔ ¬ (1 ≤ n ∧ n ≤ 8)) → reliquaryref01_Get.f k l a n = some (getV l a n) := by
    intro b hb hiff
    rw [hb]
    obtain ⟨k, rfl⟩ : ∃ m, k = m + 1 := ⟨k - 1, by omega⟩
    simp only [reliquaryref01_Get.j0]
    by_cases hn : 1 ≤ n ∧ n ≤ 8
    · have hbf : ¬ b = true := fun h => (hiff.1 h) hn
      rw [if_neg hbf]
      obtain ⟨k, rfl⟩ : ∃ m, k = m + 1 := ⟨k - 1, by omega⟩
      have key : ∀ c, (c = true ↔ (a < 0 ∨ (l.length : Int) < a ∨ (l.length : Int) - a < n)) → reliquaryref01_Get.j1 (k + 1) l a n c = some (getV l a n) := by
        intro c hc
        simp only [reliquaryref01_Get.j1]
        unfold getV
        by_cases h : a < 0 ∨ (l.length : Int) < a ∨ (l.length : Int) - a < n
        · have hv : insideV l.length a n = 12 := by unfold insideV; rw [if_neg (by simpa using hn), if_pos h]
          rw [if_pos (hc.2 h), hv, if_neg (by decide)]
        · have hv : insideV l.length a n = 0 := by unfold insideV; rw [if_neg (by simpa using hn), if_neg h]
          rw [if_neg (fun h2 => h (hc.1 h2)), hv, if_pos rfl]
          obtain ⟨m, rfl⟩ := Int.eq_ofNat_of_zero_le (show 0 ≤ n by omega)
          have := refget_loop l hu hl a m (by omega) (by omega) (by omega) m k 0 (by omega) (by omega) (by omega)
          rw [show cutV l a ((0 : Nat) : Int) = [] by unfold cutV; exact List.drop_eq_nil_of_le (by rw [List.length_take]; omega)] at this
          exact this
      by_cases h1 : a < 0
      · rw [if_pos h1]
        exact key true (by simp; omega)
      · rw [if_neg h1]
        by_cases h2 : a > l.length
        · rw [if_pos h2]
          exact key true (by simp; omega)
        · rw [if_neg h2, wrap64_id (by omega) (by omega)]
          exact key _ (by simp; omega)
    · rw [if_pos (hiff.2 hn)]
      unfold getV
      have hv : insideV l.length a n = 1 := by unfold insideV; rw [if_pos hn]
      rw [hv, if_neg (by decide)]
  by_cases h : n < 1
  · exact hj true (by unfold reliquaryref01_Get.f; rw [if_pos h]) (by simp; omega)
  · exact hj (decide (n > 8)) (by unfold reliquaryref01_Get.f; rw [if_neg h]) (by simp; omega)

/-! Set -/
def setV (l : List Int) (a n x : Int) : List Int × Int := if insideV l.length a n = 0 then (l.take a.toNat ++ (lebytes n.toNat x ++ l.drop (a + n).toNat), 0) else ([], insideV l.length a n)
/-! Pad -/
def padV (l : List Int) (n : Int) : List Int := l.take n.toNat ++ List.replicate (n.toNat - l.length) 0
theorem padV_length (l : List Int) (n : Int) : (padV l n).length = n.toNat := by unfold padV; rw [List.length_append, List.length_take, List.length_replicate]; omega
theorem word_Pad_eq (l : List Int) (n : Int) (hn : n ≤ 281474976710656) : word_Pad.f l n = some (padV l n) := by
  unfold word_Pad.f padV
  by_cases h : n < 1
  · rw [if_pos h, show n.toNat = 0 by omega]
    simp
  · rw [if_neg h, if_pos (by omega)]
theorem padV_get (l : List Int) (n : Int) (i : Nat) (h : i < (padV l n).length) : (padV l n)[i] = rd l i := by
  have hn := padV_length l n
  unfold padV at hn h ⊢
  by_cases hi : i < l.length
  · rw [List.getElem_append_left (by rw [List.length_take]; omega), List.getElem_take, rd_nat l i hi]
  · rw [List.getElem_append_right (by rw [List.length_take]; omega)]
    simp [rd, List.getD_eq_getElem?_getD, List.getElem?_eq_none (show l.length ≤ i by omega)]
theorem slices_Concat_eq (l : List (List Int)) (h : l.flatten.length ≤ 140737488351232) : slices_Concat_byte_byte.f l = some l.flatten := by unfold slices_Concat_byte_byte.f; rw [if_pos h]
end Go.Proofs.Ytjpkjakdhbnehaa.Pure
