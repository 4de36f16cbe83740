/- A byte set in an inode's bytes; the statement InodeKinds. -/
import Derived.Test.YtpdobinpndfgfaaHAwake
namespace Go.Proofs.Ytpdobinpndfgfaa.Q
open Go.RowKit Go.Proofs.YtpdobinpndfgfaaW.PrintWords Go.Proofs.YtpdobinpndfgfaaW.PrintLast Go.Proofs.YtpdobinpndfgfaaW.PrintMore Go.Proofs.Ytpdobinpndfgfaa.Pure
attribute [local go_sem] max2_int min2_int max_two min_two max_three min_three max_four min_four
set_option linter.unusedVariables false
set_option linter.unusedSimpArgs false
theorem and3 (a : Int) (h : 0 ≤ a ∧ a < 256) : 0 ≤ bits BinOp.and .u8 a 3 ∧ bits BinOp.and .u8 a 3 ≤ 3 := by
  have h1 : ∀ n : Fin 256, 0 ≤ bits BinOp.and .u8 ((n.val : Nat) : Int) 3 ∧ bits BinOp.and .u8 ((n.val : Nat) : Int) 3 ≤ 3 := by decide +kernel
  obtain ⟨n, rfl⟩ := Int.eq_ofNat_of_zero_le h.1
  exact h1 ⟨n, by omega⟩
/-- The places that may be set. -/
def tabK : List Int := [0, 1, 18, 19, 25, 31]
theorem tabK_at (j : Nat) (hj : j < 6) : ∃ k : Nat, tabK.getD j 0 = (k : Int) ∧ (k = 0 ∨ k = 1 ∨ k = 18 ∨ k = 19 ∨ k = 25 ∨ k = 31) := by
  match j, hj with
  | 0, _ => exact ⟨0, rfl, by simp⟩
  | 1, _ => exact ⟨1, rfl, by simp⟩
  | 2, _ => exact ⟨18, rfl, by simp⟩
  | 3, _ => exact ⟨19, rfl, by simp⟩
  | 4, _ => exact ⟨25, rfl, by simp⟩
  | 5, _ => exact ⟨31, rfl, by simp⟩
def fineK (k : Nat) (c : Int) : Prop := (k = 0 ∧ c ≤ 3) ∨ (0 < k ∧ c = 0)
instance (k : Nat) (c : Int) : Decidable (fineK k c) := by unfold fineK; infer_instance
theorem rd_set (l : List Int) (k : Nat) (c : Int) (i : Nat) (hi : i < l.length) : rd (l.set k c) (i : Int) = if k = i then c else rd l (i : Int) := by
  rw [rd_nat _ i (by rw [List.length_set]; exact hi), rd_nat l i hi, List.getElem_set]
theorem bytes_nought (x : InoV) (i : Nat) (h1 : 18 ≤ i) (h2 : i < 32) : rd x.bytes (i : Int) = 0 :=
  (any18 x.bytes x.bytes_length).1 rfl i h1 h2
theorem okI_set (x : InoV) (hk3 : x.k ≤ 3) (k : Nat) (c : Int) (hk : k = 0 ∨ k = 1 ∨ k = 18 ∨ k = 19 ∨ k = 25 ∨ k = 31) : okI (x.bytes.set k c) ↔ fineK k c := by
  have hl : (x.bytes.set k c).length = 32 := by rw [List.length_set, x.bytes_length]
  have r0 := rd_set x.bytes k c 0 (by rw [x.bytes_length]; decide)
  have r1 := rd_set x.bytes k c 1 (by rw [x.bytes_length]; decide)
  have e0 : rd x.bytes ((0 : Nat) : Int) = x.k := rfl
  have e1 : rd x.bytes ((1 : Nat) : Int) = 0 := rfl
  rw [e0] at r0
  rw [e1] at r1
  constructor
  · rintro ⟨_, h0, h1, ha⟩
    replace h0 : rd (x.bytes.set k c) ((0 : Nat) : Int) ≤ 3 := h0
    replace h1 : rd (x.bytes.set k c) ((1 : Nat) : Int) = 0 := h1
    rw [r0] at h0
    rw [r1] at h1
    by_cases k0 : k = 0
    · rw [if_pos k0] at h0
      exact .inl ⟨k0, h0⟩
    · refine .inr ⟨by omega, ?_⟩
      by_cases k1 : k = 1
      · rw [if_pos k1] at h1
        exact h1
      · have h18 : 18 ≤ k := by omega
        have h2 := (any18 _ hl).1 ha k h18 (by omega)
        rw [rd_set _ _ _ _ (by rw [x.bytes_length]; omega), if_pos rfl] at h2
        exact h2
  · intro hf
    refine ⟨hl, ?_, ?_, ?_⟩
    · show rd (x.bytes.set k c) ((0 : Nat) : Int) ≤ 3
      rw [r0]
      by_cases k0 : k = 0
      · rw [if_pos k0]
        rcases hf with hf | hf
        · exact hf.2
        · omega
      · rw [if_neg k0]
        exact hk3
    · show rd (x.bytes.set k c) ((1 : Nat) : Int) = 0
      rw [r1]
      by_cases k1 : k = 1
      · rw [if_pos k1]
        rcases hf with hf | hf
        · omega
        · exact hf.2
      · rw [if_neg k1]
    · refine (any18 _ hl).2 fun i h1 h2 => ?_
      rw [rd_set _ _ _ _ (by rw [x.bytes_length]; omega)]
      by_cases ki : k = i
      · rw [if_pos ki]
        rcases hf with hf | hf
        · omega
        · exact hf.2
      · rw [if_neg ki]
        exact bytes_nought x i h1 h2
theorem own_blk {w : World} {base : Nat} {v : Value} {l : List Int} {e : Nat} (h : Kd.R (Kd.int .u8) e w base (fun _ => True) v l) (h0 : 0 < l.length) : ∃ g cap cur, v = .slice (some ⟨g, 0, none⟩) l.length cap ∧ base ≤ g ∧ w.heap[g]? = some (.cells cur e (0, 0)) ∧ l.length ≤ cap ∧ cur.toList.take l.length = encs (Value.int .u8) l := by
  obtain ⟨_, h1⟩ := Kd.own_of_R (enc := Value.int .u8) (h1 := fun _ => rfl) h
  rcases h1 with ⟨_, h1⟩ | ⟨g, cap, cur, h1, h2, h3, h4, _, _, h5⟩
  · omega
  · exact ⟨g, cap, cur, h1, h2, h3, h4, by simpa using h5⟩
theorem row_of_blk {w : World} {g : Nat} {cur : Array Value} {e : TypeId} {l : List Int} (h : w.heap[g]? = some (.cells cur e (0, 0))) (ht : cur.toList.take l.length = encs (Value.int .u8) l) (hl : l.length ≤ 200) : Kd.C (Kd.int .u8) w (some ⟨g, 0, none⟩) l.length l := by
  refine Kd.C_of_reads (enc := Value.int .u8) (d := (0 : Int)) (h1 := fun _ => rfl) ⟨rfl, by omega, fun h0 => ⟨_, rfl, fun j hj => ?_⟩⟩
  have h2 : cur[j]? = some (.int .u8 (l.getD j 0)) := by
    have h3 := encs_get (enc := Value.int .u8) (d := (0 : Int)) l j hj
    rw [← ht, List.getElem?_take_of_lt hj] at h3
    rw [← Array.getElem?_toList]
    exact h3
  have h4 : w.cell? ((⟨g, 0, none⟩ : Addr).add j) = cur[j]? := by
    unfold World.cell?
    rw [add_block]
    simp only [h]
    unfold Addr.add
    by_cases hj0 : j = 0 <;> simp [hj0]
  rw [h4, h2]
theorem set_blk {cur : Array Value} {l : List Int} (ht : cur.toList.take l.length = encs (Value.int .u8) l) (k : Nat) (c : Int) : (cur.setIfInBounds k (.int .u8 c)).toList.take (l.set k c).length = encs (Value.int .u8) (l.set k c) := by
  rw [List.length_set, Array.toList_setIfInBounds, List.take_set, ht]
  simp [encs, List.map_set]
theorem size_of_take {cur : Array Value} {l : List Int} (ht : cur.toList.take l.length = encs (Value.int .u8) l) (hl : l.length = 32) {k : Nat} (hk : k < 32) : k < cur.size := by
  have h1 := congrArg List.length ht
  rw [encs_length, List.length_take, hl, Array.length_toList] at h1
  omega
theorem row_set {w : World} {g : Nat} {cur : Array Value} {e : TypeId} {l : List Int} {k : Nat} {c : Int} (hl : l.length = 32) (h : w.heap[g]? = some (.cells (cur.setIfInBounds k (.int .u8 c)) e (0, 0))) (ht : cur.toList.take l.length = encs (Value.int .u8) l) : Kd.C (Kd.int .u8) w (some ⟨g, 0, none⟩) 32 (l.set k c) := by
  have h1 := row_of_blk (l := l.set k c) h (set_blk ht k c) (by rw [List.length_set, hl]; decide)
  rw [List.length_set, hl] at h1
  exact h1
structure IK (w w' : World) (g6 : Nat) (l : List Int) : Prop where
  below : Below w.heap.size w w'
  row : Kd.C (Kd.int .u8) w' (some ⟨g6, 0, none⟩) 32 l
theorem IK.go {w w1 w2 : World} {g6 : Nat} {l : List Int} (h : IK w w1 g6 l) (hb : Below w1.heap.size w1 w2) : IK w w2 g6 l :=
  ⟨h.below.trans (hb.mono h.below.size), Kd.C_below h.row hb⟩
set_option maxHeartbeats 4000000 in
set_option maxRecDepth 100000 in
theorem InodeKinds.walk (w : World) (x : InoV) (hx : x.Ok) (at_ : Int) (hat : (Lit.int .u8 at_).wf = true) (c : Int) (hc : (Lit.int .u8 c).wf = true) (cut : Int) (hcut : (Lit.int .u8 cut).wf = true) :
    Calls Try.prog 7 #[.agg x.cells, .int .u8 at_, .int .u8 c, .int .u8 cut] w fun e w' => e = .returned (.bool true) ∧ Below w.heap.size w w' := by
  have wu : ∀ {z : Int}, (Lit.int .u8 z).wf = true → 0 ≤ z ∧ z < 256 := fun {z} h => by simp [Lit.wf, IntKind.min, IntKind.max, IntKind.bits, IntKind.signed] at h; omega
  obtain ⟨ha0, ha1⟩ := wu hat
  obtain ⟨hc0, hc1⟩ := wu hc
  obtain ⟨hq0, hq1⟩ := wu hcut
  clear hat hc hcut wu
  obtain ⟨v, hv⟩ : ∃ v, v = bits BinOp.and .u8 x.k 3 := ⟨_, rfl⟩
  have hv3 := and3 x.k hx.k
  rw [← hv] at hv3
  obtain ⟨y, hy⟩ : ∃ y : InoV, y = { x with k := v } := ⟨_, rfl⟩
  have hyo : y.Ok := by rw [hy]; exact ⟨⟨hv3.1, by show v < 256; omega⟩, hx.li, hx.sz, hx.b0, hx.b1, hx.b2, hx.s, hx.d⟩
  have hyk : y.k ≤ 3 := by rw [hy]; exact hv3.2
  have HYO := Aside0.mk hyo
  have HYC := Aside0.mk (show x.cells.setIfInBounds 0 (.int .u8 (bits BinOp.and .u8 x.k 3)) = y.cells from by rw [hy, hv]; rfl)
  obtain ⟨j, hj⟩ : ∃ j : Nat, at_.tmod 6 = (j : Int) := Int.eq_ofNat_of_zero_le (Int.tmod_nonneg 6 ha0)
  have hj6 : j < 6 := by have := Int.tmod_lt_of_pos at_ (show (0 : Int) < 6 by decide); omega
  obtain ⟨k, hk, hkk⟩ := tabK_at j hj6
  obtain ⟨m, hm⟩ : ∃ m : Nat, cut.tmod 32 = (m : Int) := Int.eq_ofNat_of_zero_le (Int.tmod_nonneg 32 hq0)
  have hm32 : m < 32 := by have := Int.tmod_lt_of_pos cut (show (0 : Int) < 32 by decide); omega
  have hk32 : k < 32 := by omega
  have hw1 : IntKind.i64.wrap at_ = at_ := by simp [IntKind.wrap, IntKind.bits, IntKind.signed]; omega
  have hw2 : IntKind.i64.wrap cut = cut := by simp [IntKind.wrap, IntKind.bits, IntKind.signed]; omega
  obtain ⟨y1, hy1⟩ : ∃ y1 : InoV, y1 = (formI (y.bytes.set k c)).1 := ⟨_, rfl⟩
  obtain ⟨e1, he1⟩ : ∃ e1 : Int, e1 = (formI (y.bytes.set k c)).2 := ⟨_, rfl⟩
  have hE : (fineK k c ∧ e1 = 0) ∨ (¬ fineK k c ∧ e1 = 11) := by
    by_cases h : fineK k c
    · exact .inl ⟨h, by rw [he1]; unfold formI; rw [if_pos ((okI_set y hyk k c hkk).2 h)]⟩
    · exact .inr ⟨h, by rw [he1]; unfold formI; rw [if_neg (fun h2 => h ((okI_set y hyk k c hkk).1 h2))]⟩
  have hus : u8s (y.bytes.set k c) := fun z hz => (List.mem_or_eq_of_mem_set hz).elim (y.bytes_u8s hyo z) (fun h => by subst h; exact ⟨hc0, hc1⟩)
  have HGET := Aside0.mk (fun (g : Nat) (cc : Nat) (W : World) (h : Kd.C (Kd.int .u8) W (some ⟨g, 0, none⟩) 32 (y.bytes.set k c)) (hcc : 32 ≤ cc) => show Calls Try.prog 10 #[.slice (some ⟨g, 0, none⟩) 32 cc] W (fun e w' => e = .returned (.tuple #[.agg y1.cells, .int .i64 e1]) ∧ Below W.heap.size W w') from by rw [hy1, he1]; exact inode_Get_at (y.bytes.set k c) hus ⟨g, 0, none⟩ 32 cc (by rw [List.length_set, y.bytes_length]) W h hcc)
  have HGETM := Aside0.mk (fun (A : Option Addr) (cc : Nat) (W : World) => inode_Get_len A m cc (show m ≠ 32 by omega) W)
  have HE := Aside0.mk hE
  have HKK := Aside0.mk hkk
  have HK32 := Aside0.mk hk32
  have HC0 := Aside0.mk hc0
  have HTAB := Aside0.mk hk
  have HJ6 := Aside0.mk hj6
  have hjl : (j : Int) < 6 := by omega
  have hjt : (j < tabK.length) = True := eq_true hj6
  have hml : (m : Int) ≤ 32 := by omega
  have hkl : (k : Int) < 32 := by omega
  have HML := Aside0.mk (show m ≤ 32 by omega)
  clear hx hv hv3 hy hyo hyk hj6 hk hkk hm32 hk32 hy1 he1 hE hus ha0 ha1 hc0 hc1 hq0 hq1
  have HE4 : (k = 0 ∧ c ≤ 3 ∧ e1 = 0) ∨ (k = 0 ∧ ¬ c ≤ 3 ∧ e1 = 11) ∨ (0 < k ∧ c = 0 ∧ e1 = 0) ∨ (0 < k ∧ ¬ c = 0 ∧ e1 = 11) := by
    rcases HE.out with ⟨hf, he⟩ | ⟨hf, he⟩
    · rcases hf with ⟨a, b⟩ | ⟨a, b⟩
      · exact .inl ⟨a, b, he⟩
      · exact .inr (.inr (.inl ⟨a, b, he⟩))
    · by_cases k0 : k = 0
      · exact .inr (.inl ⟨k0, fun h => hf (.inl ⟨k0, h⟩), he⟩)
      · exact .inr (.inr (.inr ⟨by omega, fun h => hf (.inr ⟨by omega, h⟩), he⟩))
  clear HE
  rcases HE4 with ⟨k0, hc, he⟩ | ⟨k0, hc, he⟩ | ⟨k0, hc, he⟩ | ⟨k0, hc, he⟩
  · subst k0
    subst he
    have c1 : decide (c ≤ 3) = true := decide_eq_true hc
    have c2 : (c ≤ 3) = True := eq_true hc
    have c3 : (3 < c) = False := eq_false (by omega)
    clear hc
    go_enter Try.func7, Try.ntmps7
    go_wp2_with (first | ((with_reducible refine gate_op (N := .box 26 (.tmp 0)) rfl ?_); refine wl_box rfl 26 _ rfl (.agg x.cells) rfl ?_; intro g4 hg w1 hblk hb hsz; have HG4 := Aside0.mk (show w.heap.size ≤ g4 by rw [hg]; exact Nat.le_refl _); have HK4 := Aside0.mk (show InoAt 26 w1 g4 x from hblk); have HB := Aside0.mk hb; clear hg hblk hb hsz) | (go_at_call 8; (with_reducible refine (awake19.calls _).mono ?_); rintro e w3 ⟨rfl, hb⟩; have n0_ := Aside0.mk (show InoAt 26 w3 g4 x from blk_below HK4.out.blk hb); have n2_ := Aside0.mk (HB.out.trans (hb.mono HB.out.size)); clear hb HK4 HB; have HK4 := n0_; have HB := n2_; clear n0_ n2_; have hk0 := HK4.out.all.1) | ((with_reducible refine gate_store (t := 5) (p := 23) rfl ?_); refine wl_store_cell rfl rfl 5 _ _ rfl g4 0 rfl _ 26 HK4.out.blk (.int .u8 (bits BinOp.and .u8 x.k 3)) rfl rfl ?side1 rfl info_u8 ?_; (case side1 => show 0 < 8; decide); intro w7 hk7 hg7 hs7; have HK5 := Aside0.mk (show InoAt 26 w7 g4 y from by rw [InoAt, ← HYC.out]; exact hk7); have n1_ := Aside0.mk (show Below w.heap.size w w7 from grown_below HB.out hg7 HB.out.size HG4.out); clear hk7 hg7 hs7 HB hk0 HK4; have HB := n1_; clear n1_) | ((with_reducible refine gate_op (N := .load 26 (.tmp 4)) rfl ?_); refine wl_load_blk rfl _ _ rfl g4 rfl y.cells 26 _ HK5.out.blk Try.underlying26 rfl info_ino ?_) | (go_at_call 9; (with_reducible refine (inode_Put.calls y HYO.out _).mono ?_); rintro e w4 ⟨v6, rfl, ho, hb⟩; obtain ⟨g6, c6, cur, rfl, hg6, hblk, hcap, htk⟩ := own_blk ho (by rw [y.bytes_length]; decide); rw [y.bytes_length] at hcap ⊢; have hmc : (m ≤ c6) = True := eq_true (Nat.le_trans HML.out hcap); have HCAP := Aside0.mk hcap; have HTK := Aside0.mk htk; have HK6 := Aside0.mk hblk; have n2_ := Aside0.mk (HB.out.trans (hb.mono HB.out.size)); have HG6 := Aside0.mk (Nat.le_trans HB.out.size hg6); clear ho hb hg6 hblk hcap htk HB HK5; have HB := n2_; clear n2_) | ((with_reducible refine gate_dst (N := 29) rfl ?_); go_loud (refine wl_lit rfl .i64 3 [0, 1, 18, 19, 25, 31] (show 6 ≤ maxLen by decide) ?hr ?_; (case hr => first | (go_simp; done) | (go_simp; rfl)); intro v3 w3 ho hb); replace ho : Kd.R (Kd.int .i64) 3 w3 _ _ v3 tabK := ho; obtain ⟨A3, c3, rfl, hl3, hr3⟩ := Kd.R_reads ho; obtain ⟨ad3, rfl, hcell3⟩ := reads_some hr3 (by decide); have hcj := hcell3 j HJ6.out; rw [HTAB.out] at hcj; have n1_ := Aside0.mk (blk_below HK6.out hb); have n2_ := Aside0.mk (HB.out.trans (hb.mono HB.out.size)); clear ho hb hl3 hr3 hcell3 HK6 HB; have HK6 := n1_; have HB := n2_; clear n1_ n2_) | ((with_reducible refine gate_store (t := 5) (p := 38) rfl ?_); refine wl_store_cell rfl rfl 5 _ _ rfl g6 0 rfl _ 5 HK6.out (.int .u8 c) rfl rfl ?side1 rfl info_u8 ?_; (case side1 => exact size_of_take HTK.out y.bytes_length HK32.out); intro w7 hk7 hg7 hs7; have HI := Aside0.mk (show IK w w7 g6 (y.bytes.set 0 c) from ⟨grown_below HB.out hg7 HB.out.size HG6.out, row_set y.bytes_length hk7 HTK.out⟩); clear hk7 hg7 hs7 HB HK6 HTK) | (go_at_call 10; (with_reducible refine (HGET.out _ _ _ HI.out.row HCAP.out).mono ?_); rintro e w5 ⟨rfl, hb⟩; have n0_ := Aside0.mk (HI.out.go hb); clear hb HI; have HI := n0_; clear n0_) | (go_at_call 10; (with_reducible refine (HGETM.out _ _ _).mono ?_); rintro e w5 ⟨rfl, hb⟩; have n0_ := Aside0.mk (HI.out.go hb); clear hb HI; have HI := n0_; clear n0_) | ((with_reducible refine gate_dst (N := 12) rfl ?_); refine wl_alloc rfl 26 rfl _ zero_ino ?_; intro g12 hg w6 hblk hb hsz; have HGE := Aside0.mk hg; have HAL := Aside0.mk hb; have HZE := Aside0.mk hblk; clear hg hblk hb hsz) | ((with_reducible refine gate_dst (N := 14) rfl ?_); refine wl_alloc rfl 26 rfl _ zero_ino ?_; intro g14 hg w6 hblk hb hsz; have HGE := Aside0.mk hg; have HAL := Aside0.mk hb; have HZE := Aside0.mk hblk; clear hg hblk hb hsz) | ((with_reducible refine gate_store (t := 26) (p := 12) rfl ?_); refine wl_store_all rfl rfl 26 _ _ rfl g12 rfl _ _ HZE.out (.agg y1.cells) rfl rfl InoV.one info_ino ?_; intro w7 hk7 hg7 hs7; have hbx := grown_below HAL.out hg7 HAL.out.size (by rw [HGE.out]; exact Nat.le_refl _); have m0_ := Aside0.mk (HI.out.go hbx); clear HI; have HI := m0_; clear m0_; clear hbx hk7 hg7 hs7 HAL HGE HZE) | ((with_reducible refine gate_store (t := 26) (p := 14) rfl ?_); refine wl_store_all rfl rfl 26 _ _ rfl g14 rfl _ _ HZE.out (.agg InoV.nought.cells) rfl rfl InoV.one info_ino ?_; intro w7 hk7 hg7 hs7; have hbx := grown_below HAL.out hg7 HAL.out.size (by rw [HGE.out]; exact Nat.le_refl _); have m0_ := Aside0.mk (HI.out.go hbx); clear HI; have HI := m0_; clear m0_; clear hbx hk7 hg7 hs7 HAL HGE HZE))
    go_ret
    exact ⟨rfl, HI.out.below⟩
  · subst k0
    subst he
    have c1 : decide (c ≤ 3) = false := decide_eq_false hc
    have c2 : (c ≤ 3) = False := eq_false hc
    have c3 : (3 < c) = True := eq_true (by omega)
    clear hc
    go_enter Try.func7, Try.ntmps7
    go_wp2_with (first | ((with_reducible refine gate_op (N := .box 26 (.tmp 0)) rfl ?_); refine wl_box rfl 26 _ rfl (.agg x.cells) rfl ?_; intro g4 hg w1 hblk hb hsz; have HG4 := Aside0.mk (show w.heap.size ≤ g4 by rw [hg]; exact Nat.le_refl _); have HK4 := Aside0.mk (show InoAt 26 w1 g4 x from hblk); have HB := Aside0.mk hb; clear hg hblk hb hsz) | (go_at_call 8; (with_reducible refine (awake19.calls _).mono ?_); rintro e w3 ⟨rfl, hb⟩; have n0_ := Aside0.mk (show InoAt 26 w3 g4 x from blk_below HK4.out.blk hb); have n2_ := Aside0.mk (HB.out.trans (hb.mono HB.out.size)); clear hb HK4 HB; have HK4 := n0_; have HB := n2_; clear n0_ n2_; have hk0 := HK4.out.all.1) | ((with_reducible refine gate_store (t := 5) (p := 23) rfl ?_); refine wl_store_cell rfl rfl 5 _ _ rfl g4 0 rfl _ 26 HK4.out.blk (.int .u8 (bits BinOp.and .u8 x.k 3)) rfl rfl ?side1 rfl info_u8 ?_; (case side1 => show 0 < 8; decide); intro w7 hk7 hg7 hs7; have HK5 := Aside0.mk (show InoAt 26 w7 g4 y from by rw [InoAt, ← HYC.out]; exact hk7); have n1_ := Aside0.mk (show Below w.heap.size w w7 from grown_below HB.out hg7 HB.out.size HG4.out); clear hk7 hg7 hs7 HB hk0 HK4; have HB := n1_; clear n1_) | ((with_reducible refine gate_op (N := .load 26 (.tmp 4)) rfl ?_); refine wl_load_blk rfl _ _ rfl g4 rfl y.cells 26 _ HK5.out.blk Try.underlying26 rfl info_ino ?_) | (go_at_call 9; (with_reducible refine (inode_Put.calls y HYO.out _).mono ?_); rintro e w4 ⟨v6, rfl, ho, hb⟩; obtain ⟨g6, c6, cur, rfl, hg6, hblk, hcap, htk⟩ := own_blk ho (by rw [y.bytes_length]; decide); rw [y.bytes_length] at hcap ⊢; have hmc : (m ≤ c6) = True := eq_true (Nat.le_trans HML.out hcap); have HCAP := Aside0.mk hcap; have HTK := Aside0.mk htk; have HK6 := Aside0.mk hblk; have n2_ := Aside0.mk (HB.out.trans (hb.mono HB.out.size)); have HG6 := Aside0.mk (Nat.le_trans HB.out.size hg6); clear ho hb hg6 hblk hcap htk HB HK5; have HB := n2_; clear n2_) | ((with_reducible refine gate_dst (N := 29) rfl ?_); go_loud (refine wl_lit rfl .i64 3 [0, 1, 18, 19, 25, 31] (show 6 ≤ maxLen by decide) ?hr ?_; (case hr => first | (go_simp; done) | (go_simp; rfl)); intro v3 w3 ho hb); replace ho : Kd.R (Kd.int .i64) 3 w3 _ _ v3 tabK := ho; obtain ⟨A3, c3, rfl, hl3, hr3⟩ := Kd.R_reads ho; obtain ⟨ad3, rfl, hcell3⟩ := reads_some hr3 (by decide); have hcj := hcell3 j HJ6.out; rw [HTAB.out] at hcj; have n1_ := Aside0.mk (blk_below HK6.out hb); have n2_ := Aside0.mk (HB.out.trans (hb.mono HB.out.size)); clear ho hb hl3 hr3 hcell3 HK6 HB; have HK6 := n1_; have HB := n2_; clear n1_ n2_) | ((with_reducible refine gate_store (t := 5) (p := 38) rfl ?_); refine wl_store_cell rfl rfl 5 _ _ rfl g6 0 rfl _ 5 HK6.out (.int .u8 c) rfl rfl ?side1 rfl info_u8 ?_; (case side1 => exact size_of_take HTK.out y.bytes_length HK32.out); intro w7 hk7 hg7 hs7; have HI := Aside0.mk (show IK w w7 g6 (y.bytes.set 0 c) from ⟨grown_below HB.out hg7 HB.out.size HG6.out, row_set y.bytes_length hk7 HTK.out⟩); clear hk7 hg7 hs7 HB HK6 HTK) | (go_at_call 10; (with_reducible refine (HGET.out _ _ _ HI.out.row HCAP.out).mono ?_); rintro e w5 ⟨rfl, hb⟩; have n0_ := Aside0.mk (HI.out.go hb); clear hb HI; have HI := n0_; clear n0_) | (go_at_call 10; (with_reducible refine (HGETM.out _ _ _).mono ?_); rintro e w5 ⟨rfl, hb⟩; have n0_ := Aside0.mk (HI.out.go hb); clear hb HI; have HI := n0_; clear n0_) | ((with_reducible refine gate_dst (N := 12) rfl ?_); refine wl_alloc rfl 26 rfl _ zero_ino ?_; intro g12 hg w6 hblk hb hsz; have HGE := Aside0.mk hg; have HAL := Aside0.mk hb; have HZE := Aside0.mk hblk; clear hg hblk hb hsz) | ((with_reducible refine gate_dst (N := 14) rfl ?_); refine wl_alloc rfl 26 rfl _ zero_ino ?_; intro g14 hg w6 hblk hb hsz; have HGE := Aside0.mk hg; have HAL := Aside0.mk hb; have HZE := Aside0.mk hblk; clear hg hblk hb hsz) | ((with_reducible refine gate_store (t := 26) (p := 12) rfl ?_); refine wl_store_all rfl rfl 26 _ _ rfl g12 rfl _ _ HZE.out (.agg y1.cells) rfl rfl InoV.one info_ino ?_; intro w7 hk7 hg7 hs7; have hbx := grown_below HAL.out hg7 HAL.out.size (by rw [HGE.out]; exact Nat.le_refl _); have m0_ := Aside0.mk (HI.out.go hbx); clear HI; have HI := m0_; clear m0_; clear hbx hk7 hg7 hs7 HAL HGE HZE) | ((with_reducible refine gate_store (t := 26) (p := 14) rfl ?_); refine wl_store_all rfl rfl 26 _ _ rfl g14 rfl _ _ HZE.out (.agg InoV.nought.cells) rfl rfl InoV.one info_ino ?_; intro w7 hk7 hg7 hs7; have hbx := grown_below HAL.out hg7 HAL.out.size (by rw [HGE.out]; exact Nat.le_refl _); have m0_ := Aside0.mk (HI.out.go hbx); clear HI; have HI := m0_; clear m0_; clear hbx hk7 hg7 hs7 HAL HGE HZE))
    go_ret
    exact ⟨rfl, HI.out.below⟩
  · subst hc
    subst he
    have k1 : (k = 0) = False := eq_false (by omega)
    have k2 : ((k : Int) = 0) = False := eq_false (by omega)
    have k3 : ((k : Int) == 0) = false := by simpa using (show ¬ (k : Int) = 0 by omega)
    have k4 : decide (0 < (k : Int)) = true := decide_eq_true (by omega)
    have k5 : (0 < (k : Int)) = True := eq_true (by omega)
    have k6 : (0 < k) = True := eq_true k0
    clear k0
    go_enter Try.func7, Try.ntmps7
    go_wp2_with (first | ((with_reducible refine gate_op (N := .box 26 (.tmp 0)) rfl ?_); refine wl_box rfl 26 _ rfl (.agg x.cells) rfl ?_; intro g4 hg w1 hblk hb hsz; have HG4 := Aside0.mk (show w.heap.size ≤ g4 by rw [hg]; exact Nat.le_refl _); have HK4 := Aside0.mk (show InoAt 26 w1 g4 x from hblk); have HB := Aside0.mk hb; clear hg hblk hb hsz) | (go_at_call 8; (with_reducible refine (awake19.calls _).mono ?_); rintro e w3 ⟨rfl, hb⟩; have n0_ := Aside0.mk (show InoAt 26 w3 g4 x from blk_below HK4.out.blk hb); have n2_ := Aside0.mk (HB.out.trans (hb.mono HB.out.size)); clear hb HK4 HB; have HK4 := n0_; have HB := n2_; clear n0_ n2_; have hk0 := HK4.out.all.1) | ((with_reducible refine gate_store (t := 5) (p := 23) rfl ?_); refine wl_store_cell rfl rfl 5 _ _ rfl g4 0 rfl _ 26 HK4.out.blk (.int .u8 (bits BinOp.and .u8 x.k 3)) rfl rfl ?side1 rfl info_u8 ?_; (case side1 => show 0 < 8; decide); intro w7 hk7 hg7 hs7; have HK5 := Aside0.mk (show InoAt 26 w7 g4 y from by rw [InoAt, ← HYC.out]; exact hk7); have n1_ := Aside0.mk (show Below w.heap.size w w7 from grown_below HB.out hg7 HB.out.size HG4.out); clear hk7 hg7 hs7 HB hk0 HK4; have HB := n1_; clear n1_) | ((with_reducible refine gate_op (N := .load 26 (.tmp 4)) rfl ?_); refine wl_load_blk rfl _ _ rfl g4 rfl y.cells 26 _ HK5.out.blk Try.underlying26 rfl info_ino ?_) | (go_at_call 9; (with_reducible refine (inode_Put.calls y HYO.out _).mono ?_); rintro e w4 ⟨v6, rfl, ho, hb⟩; obtain ⟨g6, c6, cur, rfl, hg6, hblk, hcap, htk⟩ := own_blk ho (by rw [y.bytes_length]; decide); rw [y.bytes_length] at hcap ⊢; have hmc : (m ≤ c6) = True := eq_true (Nat.le_trans HML.out hcap); have HCAP := Aside0.mk hcap; have HTK := Aside0.mk htk; have HK6 := Aside0.mk hblk; have n2_ := Aside0.mk (HB.out.trans (hb.mono HB.out.size)); have HG6 := Aside0.mk (Nat.le_trans HB.out.size hg6); clear ho hb hg6 hblk hcap htk HB HK5; have HB := n2_; clear n2_) | ((with_reducible refine gate_dst (N := 29) rfl ?_); go_loud (refine wl_lit rfl .i64 3 [0, 1, 18, 19, 25, 31] (show 6 ≤ maxLen by decide) ?hr ?_; (case hr => first | (go_simp; done) | (go_simp; rfl)); intro v3 w3 ho hb); replace ho : Kd.R (Kd.int .i64) 3 w3 _ _ v3 tabK := ho; obtain ⟨A3, c3, rfl, hl3, hr3⟩ := Kd.R_reads ho; obtain ⟨ad3, rfl, hcell3⟩ := reads_some hr3 (by decide); have hcj := hcell3 j HJ6.out; rw [HTAB.out] at hcj; have n1_ := Aside0.mk (blk_below HK6.out hb); have n2_ := Aside0.mk (HB.out.trans (hb.mono HB.out.size)); clear ho hb hl3 hr3 hcell3 HK6 HB; have HK6 := n1_; have HB := n2_; clear n1_ n2_) | ((with_reducible refine gate_store (t := 5) (p := 38) rfl ?_); refine wl_store_cell rfl rfl 5 _ _ rfl g6 k rfl _ 5 HK6.out (.int .u8 0) rfl rfl ?side1 rfl info_u8 ?_; (case side1 => exact size_of_take HTK.out y.bytes_length HK32.out); intro w7 hk7 hg7 hs7; have HI := Aside0.mk (show IK w w7 g6 (y.bytes.set k 0) from ⟨grown_below HB.out hg7 HB.out.size HG6.out, row_set y.bytes_length hk7 HTK.out⟩); clear hk7 hg7 hs7 HB HK6 HTK) | (go_at_call 10; (with_reducible refine (HGET.out _ _ _ HI.out.row HCAP.out).mono ?_); rintro e w5 ⟨rfl, hb⟩; have n0_ := Aside0.mk (HI.out.go hb); clear hb HI; have HI := n0_; clear n0_) | (go_at_call 10; (with_reducible refine (HGETM.out _ _ _).mono ?_); rintro e w5 ⟨rfl, hb⟩; have n0_ := Aside0.mk (HI.out.go hb); clear hb HI; have HI := n0_; clear n0_) | ((with_reducible refine gate_dst (N := 12) rfl ?_); refine wl_alloc rfl 26 rfl _ zero_ino ?_; intro g12 hg w6 hblk hb hsz; have HGE := Aside0.mk hg; have HAL := Aside0.mk hb; have HZE := Aside0.mk hblk; clear hg hblk hb hsz) | ((with_reducible refine gate_dst (N := 14) rfl ?_); refine wl_alloc rfl 26 rfl _ zero_ino ?_; intro g14 hg w6 hblk hb hsz; have HGE := Aside0.mk hg; have HAL := Aside0.mk hb; have HZE := Aside0.mk hblk; clear hg hblk hb hsz) | ((with_reducible refine gate_store (t := 26) (p := 12) rfl ?_); refine wl_store_all rfl rfl 26 _ _ rfl g12 rfl _ _ HZE.out (.agg y1.cells) rfl rfl InoV.one info_ino ?_; intro w7 hk7 hg7 hs7; have hbx := grown_below HAL.out hg7 HAL.out.size (by rw [HGE.out]; exact Nat.le_refl _); have m0_ := Aside0.mk (HI.out.go hbx); clear HI; have HI := m0_; clear m0_; clear hbx hk7 hg7 hs7 HAL HGE HZE) | ((with_reducible refine gate_store (t := 26) (p := 14) rfl ?_); refine wl_store_all rfl rfl 26 _ _ rfl g14 rfl _ _ HZE.out (.agg InoV.nought.cells) rfl rfl InoV.one info_ino ?_; intro w7 hk7 hg7 hs7; have hbx := grown_below HAL.out hg7 HAL.out.size (by rw [HGE.out]; exact Nat.le_refl _); have m0_ := Aside0.mk (HI.out.go hbx); clear HI; have HI := m0_; clear m0_; clear hbx hk7 hg7 hs7 HAL HGE HZE))
    go_ret
    exact ⟨rfl, HI.out.below⟩
  · subst he
    have k1 : (k = 0) = False := eq_false (by omega)
    have k2 : ((k : Int) = 0) = False := eq_false (by omega)
    have k3 : ((k : Int) == 0) = false := by simpa using (show ¬ (k : Int) = 0 by omega)
    have k4 : decide (0 < (k : Int)) = true := decide_eq_true (by omega)
    have k5 : (0 < (k : Int)) = True := eq_true (by omega)
    have k6 : (0 < k) = True := eq_true k0
    have c1 : (c == 0) = false := by simpa using hc
    have c2 : (c = 0) = False := eq_false hc
    clear k0 hc
    go_enter Try.func7, Try.ntmps7
    go_wp2_with (first | ((with_reducible refine gate_op (N := .box 26 (.tmp 0)) rfl ?_); refine wl_box rfl 26 _ rfl (.agg x.cells) rfl ?_; intro g4 hg w1 hblk hb hsz; have HG4 := Aside0.mk (show w.heap.size ≤ g4 by rw [hg]; exact Nat.le_refl _); have HK4 := Aside0.mk (show InoAt 26 w1 g4 x from hblk); have HB := Aside0.mk hb; clear hg hblk hb hsz) | (go_at_call 8; (with_reducible refine (awake19.calls _).mono ?_); rintro e w3 ⟨rfl, hb⟩; have n0_ := Aside0.mk (show InoAt 26 w3 g4 x from blk_below HK4.out.blk hb); have n2_ := Aside0.mk (HB.out.trans (hb.mono HB.out.size)); clear hb HK4 HB; have HK4 := n0_; have HB := n2_; clear n0_ n2_; have hk0 := HK4.out.all.1) | ((with_reducible refine gate_store (t := 5) (p := 23) rfl ?_); refine wl_store_cell rfl rfl 5 _ _ rfl g4 0 rfl _ 26 HK4.out.blk (.int .u8 (bits BinOp.and .u8 x.k 3)) rfl rfl ?side1 rfl info_u8 ?_; (case side1 => show 0 < 8; decide); intro w7 hk7 hg7 hs7; have HK5 := Aside0.mk (show InoAt 26 w7 g4 y from by rw [InoAt, ← HYC.out]; exact hk7); have n1_ := Aside0.mk (show Below w.heap.size w w7 from grown_below HB.out hg7 HB.out.size HG4.out); clear hk7 hg7 hs7 HB hk0 HK4; have HB := n1_; clear n1_) | ((with_reducible refine gate_op (N := .load 26 (.tmp 4)) rfl ?_); refine wl_load_blk rfl _ _ rfl g4 rfl y.cells 26 _ HK5.out.blk Try.underlying26 rfl info_ino ?_) | (go_at_call 9; (with_reducible refine (inode_Put.calls y HYO.out _).mono ?_); rintro e w4 ⟨v6, rfl, ho, hb⟩; obtain ⟨g6, c6, cur, rfl, hg6, hblk, hcap, htk⟩ := own_blk ho (by rw [y.bytes_length]; decide); rw [y.bytes_length] at hcap ⊢; have hmc : (m ≤ c6) = True := eq_true (Nat.le_trans HML.out hcap); have HCAP := Aside0.mk hcap; have HTK := Aside0.mk htk; have HK6 := Aside0.mk hblk; have n2_ := Aside0.mk (HB.out.trans (hb.mono HB.out.size)); have HG6 := Aside0.mk (Nat.le_trans HB.out.size hg6); clear ho hb hg6 hblk hcap htk HB HK5; have HB := n2_; clear n2_) | ((with_reducible refine gate_dst (N := 29) rfl ?_); go_loud (refine wl_lit rfl .i64 3 [0, 1, 18, 19, 25, 31] (show 6 ≤ maxLen by decide) ?hr ?_; (case hr => first | (go_simp; done) | (go_simp; rfl)); intro v3 w3 ho hb); replace ho : Kd.R (Kd.int .i64) 3 w3 _ _ v3 tabK := ho; obtain ⟨A3, c3, rfl, hl3, hr3⟩ := Kd.R_reads ho; obtain ⟨ad3, rfl, hcell3⟩ := reads_some hr3 (by decide); have hcj := hcell3 j HJ6.out; rw [HTAB.out] at hcj; have n1_ := Aside0.mk (blk_below HK6.out hb); have n2_ := Aside0.mk (HB.out.trans (hb.mono HB.out.size)); clear ho hb hl3 hr3 hcell3 HK6 HB; have HK6 := n1_; have HB := n2_; clear n1_ n2_) | ((with_reducible refine gate_store (t := 5) (p := 38) rfl ?_); refine wl_store_cell rfl rfl 5 _ _ rfl g6 k rfl _ 5 HK6.out (.int .u8 c) rfl rfl ?side1 rfl info_u8 ?_; (case side1 => exact size_of_take HTK.out y.bytes_length HK32.out); intro w7 hk7 hg7 hs7; have HI := Aside0.mk (show IK w w7 g6 (y.bytes.set k c) from ⟨grown_below HB.out hg7 HB.out.size HG6.out, row_set y.bytes_length hk7 HTK.out⟩); clear hk7 hg7 hs7 HB HK6 HTK) | (go_at_call 10; (with_reducible refine (HGET.out _ _ _ HI.out.row HCAP.out).mono ?_); rintro e w5 ⟨rfl, hb⟩; have n0_ := Aside0.mk (HI.out.go hb); clear hb HI; have HI := n0_; clear n0_) | (go_at_call 10; (with_reducible refine (HGETM.out _ _ _).mono ?_); rintro e w5 ⟨rfl, hb⟩; have n0_ := Aside0.mk (HI.out.go hb); clear hb HI; have HI := n0_; clear n0_) | ((with_reducible refine gate_dst (N := 12) rfl ?_); refine wl_alloc rfl 26 rfl _ zero_ino ?_; intro g12 hg w6 hblk hb hsz; have HGE := Aside0.mk hg; have HAL := Aside0.mk hb; have HZE := Aside0.mk hblk; clear hg hblk hb hsz) | ((with_reducible refine gate_dst (N := 14) rfl ?_); refine wl_alloc rfl 26 rfl _ zero_ino ?_; intro g14 hg w6 hblk hb hsz; have HGE := Aside0.mk hg; have HAL := Aside0.mk hb; have HZE := Aside0.mk hblk; clear hg hblk hb hsz) | ((with_reducible refine gate_store (t := 26) (p := 12) rfl ?_); refine wl_store_all rfl rfl 26 _ _ rfl g12 rfl _ _ HZE.out (.agg y1.cells) rfl rfl InoV.one info_ino ?_; intro w7 hk7 hg7 hs7; have hbx := grown_below HAL.out hg7 HAL.out.size (by rw [HGE.out]; exact Nat.le_refl _); have m0_ := Aside0.mk (HI.out.go hbx); clear HI; have HI := m0_; clear m0_; clear hbx hk7 hg7 hs7 HAL HGE HZE) | ((with_reducible refine gate_store (t := 26) (p := 14) rfl ?_); refine wl_store_all rfl rfl 26 _ _ rfl g14 rfl _ _ HZE.out (.agg InoV.nought.cells) rfl rfl InoV.one info_ino ?_; intro w7 hk7 hg7 hs7; have hbx := grown_below HAL.out hg7 HAL.out.size (by rw [HGE.out]; exact Nat.le_refl _); have m0_ := Aside0.mk (HI.out.go hbx); clear HI; have HI := m0_; clear m0_; clear hbx hk7 hg7 hs7 HAL HGE HZE))
    go_ret
    exact ⟨rfl, HI.out.below⟩
end Go.Proofs.Ytpdobinpndfgfaa.Q
