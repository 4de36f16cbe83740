/- What the document's Get of an inode does. -/
import Derived.Test.YtpdobinpndfgfaaHGet
import Derived.Test.YtpdobinpndfgfaaHRPut
namespace Go.Proofs.Ytpdobinpndfgfaa.Q
open Go.RowKit Go.Proofs.YtpdobinpndfgfaaW.PrintWords Go.Proofs.YtpdobinpndfgfaaW.PrintLast Go.Proofs.YtpdobinpndfgfaaW.PrintMore Go.Proofs.Ytpdobinpndfgfaa.Pure
attribute [local go_sem] max2_int min2_int max_two min_two max_three min_three max_four min_four
set_option linter.unusedVariables false
set_option linter.unusedSimpArgs false
theorem run_index_bt {P : Program} (w : World) (t : TypeId) (s : ByteArray) (k : IntKind) (i : Int) (h : P.underlying t = some .string) (h0 : 0 ≤ i) (h1 : i < s.size) : (Instr.index t (.string s) (.int k i)).run P w = .ok (.int .u8 (bt s i)) w := by
  rw [run_index_string w t s k i h, dif_pos ⟨h0, h1⟩, bt_at]
theorem any18 (l : List Int) (hl : l.length = 32) : (l.drop 18).any (· != 0) = false ↔ ∀ i : Nat, 18 ≤ i → i < 32 → rd l (i : Int) = 0 := by
  rw [List.any_eq_false]
  constructor
  · intro h i h1 h2
    have h3 : l[i]'(by omega) ∈ l.drop 18 := by
      refine List.mem_iff_getElem.2 ⟨i - 18, by rw [List.length_drop]; omega, ?_⟩
      rw [List.getElem_drop]
      congr 1
      omega
    have h4 := h _ h3
    rw [rd_nat l i (by omega)]
    simpa using h4
  · intro h x hx
    obtain ⟨j, hj, rfl⟩ := List.mem_iff_getElem.1 hx
    rw [List.length_drop] at hj
    have h2 := h (18 + j) (by omega) (by omega)
    rw [rd_nat l (18 + j) (by omega)] at h2
    rw [List.getElem_drop]
    simpa using h2
/-- What stays while ref Get goes on. -/
structure RG (w w' : World) (g2 g4 : Nat) (x : InoV) : Prop where
  below : Below w.heap.size w w'
  k2 : InoAt 35 w' g2 InoV.nought
  k4 : InoAt 35 w' g4 x
theorem RG.go {w w1 w2 : World} {g2 g4 : Nat} {x : InoV} (h : RG w w1 g2 g4 x) (hb : Below w1.heap.size w1 w2) : RG w w2 g2 g4 x :=
  ⟨h.below.trans (hb.mono h.below.size), blk_below h.k2.blk hb, blk_below h.k4.blk hb⟩
theorem cell_congr {w1 w2 : World} {g : Nat} (h : w2.heap[g]? = w1.heap[g]?) (a : Addr) (ha : a.block = g) : w2.cell? a = w1.cell? a := by unfold World.cell?; rw [ha, h]
theorem add_block (a : Addr) (j : Nat) : (a.add j).block = a.block := by unfold Addr.add; split <;> rfl
/-- '[]byte(s)': its block tells the row. -/
theorem conv_row (W : World) (e : TypeId) (s : ByteArray) (hs : s.size ≤ 200) : ∃ ob, (Lib.bytesWorld W e s).heap[W.heap.size]? = some ob ∧ ∀ W2 : World, W2.heap[W.heap.size]? = some ob → Kd.C (Kd.int .u8) W2 (some ⟨W.heap.size, 0, none⟩) (bytesOf s).length (bytesOf s) := by
  refine ⟨_, Lib.bytesWorld_at_new W e s, fun W2 h2 => ?_⟩
  have hr := bytes_reads W e s (by omega)
  rw [← bytesOf_length] at hr
  refine Kd.C_of_reads (enc := Value.int .u8) (d := (0 : Int)) (h1 := fun _ => rfl) ⟨rfl, by rw [bytesOf_length]; omega, fun h0 => ⟨_, rfl, fun j hj => ?_⟩⟩
  obtain ⟨ad, e1, e2⟩ := hr.2.2 h0
  injection e1 with e1
  subst e1
  rw [← e2 j hj]
  have := cell_congr (h2.trans (Lib.bytesWorld_at_new W e s).symm)
  exact this _ (add_block _ _)
theorem wl_conv {P : Program} {a : Act} {o : Oper} {ops : Array Oper} {rest : List Oper} {Q : Exit → Act → World → Prop} {W : World} {u : TypeDesc} (hgd : o.guard = none) (src dst e : TypeId) (x : Operand) (ho : o.op = .convert src dst x) (s : ByteArray) (hx : a.eval x = .string s)
    (hsu : P.underlying src = some u) (hdu : P.underlying dst = some (.slice e)) (heu : P.underlying e = some (.int .u8)) (hs : s.size ≤ 200) (n : Nat) (hn : s.size = n) (l : List Int) (hl : bytesOf s = l)
    (h : ∀ g, g = W.heap.size → ∀ (W1 : World) (ob : Obj) (c : Nat), Below W.heap.size W W1 → W1.heap[g]? = some ob → (∀ W2 : World, W2.heap[g]? = some ob → Kd.C (Kd.int .u8) W2 (some ⟨g, 0, none⟩) l.length l) → n ≤ c → wpList P ops Q rest (a.put o.dst (.slice (some ⟨g, 0, none⟩) n c)) W1) : wpList P ops Q (o :: rest) a W := by
  subst hn
  subst hl
  obtain ⟨ob, h1, h2⟩ := conv_row W e s hs
  have hb : Below W.heap.size W (Lib.bytesWorld W e s) := below_freeze (below_alloc (below_drew (Below.refl _ _)) _) _ _ (Nat.le_refl _)
  refine Kd.event_run hgd (v := .slice (some ⟨W.heap.size, 0, none⟩) s.size (grownCap W s.size 0 e)) (w1 := Lib.bytesWorld W e s) ?_ (h _ rfl _ ob _ hb h1 h2 (grownCap_ge _ _ _ _))
  unfold execOp
  rw [ho]
  simp [hx, Lib.run_convert_string_bytes W src dst e s hsu hdu heu, Result.andThen]
theorem row_cell {l : List Int} {gr : Nat} {ob : Obj} {w5 : World} (hl : l.length = 32) (hrow : ∀ W2 : World, W2.heap[gr]? = some ob → Kd.C (Kd.int .u8) W2 (some ⟨gr, 0, none⟩) l.length l) (hob : w5.heap[gr]? = some ob) : w5.cell? ⟨gr, 0, none⟩ = some (.int .u8 (rd l 0)) := by
  have h1 := hrow w5 hob
  rw [hl] at h1
  obtain ⟨ad', e1, e2⟩ := (Kd.reads_of_C (enc := Value.int .u8) (d := (0 : Int)) (h1 := fun _ => rfl) h1).2.2 (by decide)
  injection e1 with e1
  subst e1
  exact e2 0 (by decide)
theorem row_get {l : List Int} {gr c : Nat} {ob : Obj} (hl : l.length = 32) (hu : u8s l) (hcc : 32 ≤ c) (hrow : ∀ W2 : World, W2.heap[gr]? = some ob → Kd.C (Kd.int .u8) W2 (some ⟨gr, 0, none⟩) l.length l) (p n : Int) (W : World) (hob : W.heap[gr]? = some ob) (h0 : 0 ≤ p) (h1 : 1 ≤ n) (h8 : n ≤ 8) (hpn : p + n ≤ 32) :
    Calls Try.prog 23 #[.slice (some ⟨gr, 0, none⟩) 32 c, .int .i64 p, .int .i64 n] W (fun e w' => e = .returned (.tuple #[.int .u64 (numI l p n), .int .i64 0]) ∧ Drawn0 W w') := by
  have h2 := refget_eq 20 (Nat.le_refl _) l p n hu (by rw [hl]; decide) (by omega)
  have h3 : getV l p n = (numI l p n, 0) := by
    unfold getV
    rw [if_pos (insideV_of h0 h1 h8 (by rw [hl]; exact hpn))]
    rfl
  rw [h3] at h2
  have h4 := reliquaryref01_Get.calls 20 (some ⟨gr, 0, none⟩) c l p n _ _ W (hrow W hob) (by rw [hl]; exact hcc) h2
  rw [hl] at h4
  exact h4
/-- The same, with the row of its bytes. -/
structure RH (w w' : World) (g2 g4 gr : Nat) (ob : Obj) (x : InoV) : Prop where
  below : Below w.heap.size w w'
  k2 : InoAt 35 w' g2 InoV.nought
  k4 : InoAt 35 w' g4 x
  kr : w'.heap[gr]? = some ob
theorem RH.go {w w1 w2 : World} {g2 g4 gr : Nat} {ob : Obj} {x : InoV} (h : RH w w1 g2 g4 gr ob x) (hb : Below w1.heap.size w1 w2) : RH w w2 g2 g4 gr ob x :=
  ⟨h.below.trans (hb.mono h.below.size), blk_below h.k2.blk hb, blk_below h.k4.blk hb, blk_below h.kr hb⟩
theorem RH.put {w w1 w2 : World} {g2 g4 gr : Nat} {ob : Obj} {x y : InoV} (h : RH w w1 g2 g4 gr ob x) (hg : w1.grownBy w2 (some g4)) (hk : InoAt 35 w2 g4 y) (h2 : g2 ≠ g4) (hr : gr ≠ g4) (h4 : w.heap.size ≤ g4) : RH w w2 g2 g4 gr ob y :=
  ⟨grown_below h.below hg h.below.size h4, grown_blk hg h.k2.blk (fun e => h2 (by injection e)), hk, grown_blk hg h.kr (fun e => hr (by injection e))⟩
set_option maxHeartbeats 4000000 in
set_option maxRecDepth 100000 in
theorem ref_Get.calls (s : ByteArray) (w : World) (hs : s.size ≤ 200) :
    Calls Try.prog 11 #[.string s] w fun e w' => e = .returned (.tuple #[.agg (formI (bytesOf s)).1.cells, .int .i64 (formI (bytesOf s)).2]) ∧ Below w.heap.size w w' := by
  have hl : (bytesOf s).length = s.size := bytesOf_length s
  by_cases hn : s.size = 32
  case neg =>
    have hf : formI (bytesOf s) = (InoV.nought, 11) := by unfold formI; rw [if_neg (fun h => hn (by rw [← hl]; exact h.1))]
    rw [hf]
    have h1 : ((s.size : Int) == 32) = false := by simpa using (show ¬ (s.size : Int) = 32 by omega)
    have h2 : ((s.size : Int) != 32) = true := by simpa using (show ¬ (s.size : Int) = 32 by omega)
    have h3 : ((s.size : Int) = 32) = False := eq_false (by omega)
    clear hf hn hl hs
    go_enter Try.func11, Try.ntmps11
    go_wp2_with (first | ((with_reducible refine gate_dst (N := 2) rfl ?_); refine wl_alloc rfl 35 rfl _ zero_N ?_; intro g2 hg w2 hblk hb hsz; have HG2 := Aside0.mk (show w.heap.size ≤ g2 by rw [hg]; exact Nat.le_refl _); have HK2 := Aside0.mk (show InoAt 35 w2 g2 InoV.nought from hblk); have HB := Aside0.mk hb; clear hg hblk hb hsz) | ((with_reducible refine gate_dst (N := 4) rfl ?_); refine wl_alloc rfl 35 rfl _ zero_N ?_; intro g4 hg w3 hblk hb hsz; have HNE := Aside0.mk (show g2 ≠ g4 by have := blk_lt HK2.out.blk; omega); have HG4 := Aside0.mk (show w.heap.size ≤ g4 by rw [hg]; exact HB.out.size); have HR := Aside0.mk (show RG w w3 g2 g4 InoV.nought from ⟨HB.out.trans (hb.mono HB.out.size), blk_below HK2.out.blk hb, hblk⟩); clear hg hblk hb hsz HK2 HB) | ((with_reducible refine gate_op (N := .load 35 (.tmp 4)) rfl ?_); refine wl_load_blk rfl _ _ rfl g4 rfl InoV.nought.cells 35 _ HR.out.k4.blk Try.underlying35 rfl info_N ?_) | ((with_reducible refine gate_store (t := 35) (p := 2) rfl ?_); refine wl_store_all rfl rfl 35 _ _ rfl g2 rfl _ _ HR.out.k2.blk (.agg InoV.nought.cells) rfl rfl InoV.one info_N ?_; intro w8 hk8 hg8 hs8; have HK8 := Aside0.mk (show InoAt 35 w8 g2 InoV.nought from hk8); have HB := Aside0.mk (show Below w.heap.size w w8 from grown_below HR.out.below hg8 HR.out.below.size HG2.out); clear hk8 hg8 hs8 HR))
    all_goals exact bodyPost_ret (results_cell2 rfl _ _ g2 35 InoV.nought.cells _ rfl HK8.out.blk Try.underlying35 rfl info_N) rfl ⟨rfl, HB.out⟩
  case pos =>
    obtain ⟨l, hls⟩ : ∃ l, bytesOf s = l := ⟨_, rfl⟩
    have hu : u8s l := by
      rw [← hls]
      intro x hx
      obtain ⟨y, hy, rfl⟩ := List.mem_map.1 hx
      have := y.toNat_lt
      omega
    rw [hls] at hl ⊢
    have hl32 : l.length = 32 := by rw [hl, hn]
    have hrd : ∀ i, bt s i = rd l i := fun i => by rw [← rd_bytesOf, hls]
    have HZ := Aside0.mk (fun (i : Nat) (h : i < s.size) => show rd l (i : Int) = ((s[i]'h).toNat : Int) from by rw [← hrd, ← bt_at s i h]; rfl)
    have HL := Aside0.mk hl32
    have HN := Aside0.mk hn
    have HU := Aside0.mk hu
    have HLS := Aside0.mk hls
    have hg : (s.size : Int) = 32 := by rw [hn]; rfl
    clear hs hl hn hls hu hl32 hrd
    go_enter Try.func11, Try.ntmps11
    go_wp2_with (first | ((with_reducible refine gate_dst (N := 2) rfl ?_); refine wl_alloc rfl 35 rfl _ zero_N ?_; intro g2 hg w2 hblk hb hsz; have HG2 := Aside0.mk (show w.heap.size ≤ g2 by rw [hg]; exact Nat.le_refl _); have HK2 := Aside0.mk (show InoAt 35 w2 g2 InoV.nought from hblk); have HB := Aside0.mk hb; clear hg hblk hb hsz) | ((with_reducible refine gate_dst (N := 4) rfl ?_); refine wl_alloc rfl 35 rfl _ zero_N ?_; intro g4 hg w3 hblk hb hsz; have HNE := Aside0.mk (show g2 ≠ g4 by have := blk_lt HK2.out.blk; omega); have HG4 := Aside0.mk (show w.heap.size ≤ g4 by rw [hg]; exact HB.out.size); have HR := Aside0.mk (show RG w w3 g2 g4 InoV.nought from ⟨HB.out.trans (hb.mono HB.out.size), blk_below HK2.out.blk hb, hblk⟩); clear hg hblk hb hsz HK2 HB) | ((with_reducible refine gate_op (N := .load 35 (.tmp 4)) rfl ?_); refine wl_load_blk rfl _ _ rfl g4 rfl InoV.nought.cells 35 _ HR.out.k4.blk Try.underlying35 rfl info_N ?_) | ((with_reducible refine gate_store (t := 35) (p := 2) rfl ?_); refine wl_store_all rfl rfl 35 _ _ rfl g2 rfl _ _ HR.out.k2.blk (.agg InoV.nought.cells) rfl rfl InoV.one info_N ?_; intro w8 hk8 hg8 hs8; have HK8 := Aside0.mk (show InoAt 35 w8 g2 InoV.nought from hk8); have HB := Aside0.mk (show Below w.heap.size w w8 from grown_below HR.out.below hg8 HR.out.below.size HG2.out); clear hk8 hg8 hs8 HR))
    · have hf : formI l = (InoV.nought, 11) := by
        unfold formI
        rw [if_neg]
        rintro ⟨_, h3, h4, _⟩
        have z0 := HZ.out 0 (by rw [HN.out]; decide)
        have z1 := HZ.out 1 (by rw [HN.out]; decide)
        have hor := ‹_ ∨ _›
        rcases hor with hor | hor
        · have : rd l 0 = rd l ((0 : Nat) : Int) := rfl
          omega
        · rw [← z1] at hor
          have h5 : rd l ((1 : Nat) : Int) = 0 := h4
          rw [h5] at hor
          exact absurd hor (by decide)
      rw [hf]
      exact bodyPost_ret (results_cell2 rfl _ _ g2 35 InoV.nought.cells _ rfl HK8.out.blk Try.underlying35 rfl info_N) rfl ⟨rfl, HB.out⟩
    · have HZ0 := Aside0.mk (show rd l 0 ≤ 3 from by
        have z0 := HZ.out 0 (by rw [HN.out]; decide)
        have : rd l 0 = rd l ((0 : Nat) : Int) := rfl
        omega)
      have HZ1 := Aside0.mk (show rd l 1 = 0 from by
        have z1 := HZ.out 1 (by rw [HN.out]; decide)
        have hand := ‹_ ∧ (_ = false)›
        have h5 := hand.2
        rw [← z1] at h5
        simpa using h5)
      go_loopg [5] 14 (fun gk v5 w' => ∃ i : Nat, v5 = .int .i64 i ∧ Aside0 (gk + i = 32) ∧ Aside0 (18 ≤ i ∧ ∀ j : Nat, 18 ≤ j → j < i → rd l (j : Int) = 0) ∧ Aside0 (RG w w' g2 g4 InoV.nought))
      case atStart => exact ⟨18, rfl, ⟨by omega⟩, ⟨by omega, fun j h1 h2 => by omega⟩, HR⟩
      case round =>
        clear HR
        obtain ⟨i, rfl, HI, HJ, HR⟩ := hrel
        by_cases hi : i < 32
        · have hil : (i : Int) < 32 := by omega
          have HIL := Aside0.mk hi
          obtain ⟨z, hz⟩ : ∃ z, rd l (i : Int) = z := ⟨_, rfl⟩
          have HZI := Aside0.mk hz
          by_cases hz0 : z = 0
          · have hzi := HZ.out i (by rw [HN.out]; exact HIL.out)
            rw [HZI.out, hz0] at hzi
            have HZC := Aside0.mk (show rd l (i : Int) = 0 from HZI.out.trans hz0)
            have hzb : (((s[i]'(by rw [HN.out]; exact HIL.out)).toNat : Int) != 0) = false := by rw [← hzi]; rfl
            clear hzi hz0 hz HZI
            go_wp2_with (fail)
            go_roundg (gk - 1)
            case measure => have := HI.out; have := HIL.out; omega
            case rel => exact ⟨i + 1, by go_num, ⟨by have := HI.out; have := HIL.out; omega⟩, ⟨by have := HJ.out.1; omega, fun j h1 h2 => by
              by_cases hj : j = i
              · subst hj; exact HZC.out
              · exact HJ.out.2 j h1 (by omega)⟩, HR⟩
          · have hnf : formI l = (InoV.nought, 11) := by
              unfold formI
              rw [if_neg]
              rintro ⟨_, _, _, h6⟩
              exact hz0 ((HZI.out.symm.trans ((any18 l HL.out).1 h6 i HJ.out.1 HIL.out)))
            have HNF := Aside0.mk hnf
            have hzb : (((s[i]'(by rw [HN.out]; exact HIL.out)).toNat : Int) != 0) = true := by rw [← HZ.out i (by rw [HN.out]; exact HIL.out), HZI.out]; simpa using hz0
            clear hnf hz0 hz
            go_wp2_with (first | ((with_reducible refine gate_op (N := .load 35 (.tmp 4)) rfl ?_); refine wl_load_blk rfl _ _ rfl g4 rfl InoV.nought.cells 35 _ HR.out.k4.blk Try.underlying35 rfl info_N ?_) | ((with_reducible refine gate_store (t := 35) (p := 2) rfl ?_); refine wl_store_all rfl rfl 35 _ _ rfl g2 rfl _ _ HR.out.k2.blk (.agg InoV.nought.cells) rfl rfl InoV.one info_N ?_; intro w8 hk8 hg8 hs8; have HK8 := Aside0.mk (show InoAt 35 w8 g2 InoV.nought from hk8); have HB := Aside0.mk (show Below w.heap.size w w8 from grown_below HR.out.below hg8 HR.out.below.size HG2.out); clear hk8 hg8 hs8 HR))
            rw [HNF.out]
            exact bodyPost_ret (results_cell2 rfl _ _ g2 35 InoV.nought.cells _ rfl HK8.out.blk Try.underlying35 rfl info_N) rfl ⟨rfl, HB.out⟩
        · have h32 : i = 32 := by have := HI.out; omega
          subst h32
          have HF := Aside0.mk (show okI l from ⟨HL.out, HZ0.out, HZ1.out, (any18 l HL.out).2 HJ.out.2⟩)
          clear hi
          have HW2 := Aside0.mk (fun (v : Int) (hv : 0 ≤ v ∧ v < 256 ^ (2 : Int).toNat) => show IntKind.u16.wrap v = v from by
            have h2 : v < 65536 := by simpa using hv.2
            simp [IntKind.wrap, IntKind.bits, IntKind.signed]
            omega)
          have HW4 := Aside0.mk (fun (v : Int) (hv : 0 ≤ v ∧ v < 256 ^ (4 : Int).toNat) => show IntKind.u32.wrap v = v from by
            have h2 : v < 4294967296 := by simpa using hv.2
            simp [IntKind.wrap, IntKind.bits, IntKind.signed]
            omega)
          have hw2 := HW2.out _ (numI_range l HU.out HL.out 2 2 (by decide) (by decide) (by decide))
          have hw4 := HW4.out _ (numI_range l HU.out HL.out 4 4 (by decide) (by decide) (by decide))
          go_wp2_with (first | ((with_reducible refine gate_op (N := .convert 9 27 (.tmp 33)) rfl ?_); refine wl_conv rfl _ _ _ _ rfl s rfl rfl rfl rfl (by rw [HN.out]; decide) 32 HN.out l HLS.out ?_; intro gr hgr w5 ob c hb5 hob hrow hcc; have HNR := Aside0.mk (show gr ≠ g4 by have := blk_lt HR.out.k4.blk; omega); have n0_ := Aside0.mk (show RH w w5 g2 g4 gr ob InoV.nought from ⟨(HR.out.go hb5).below, (HR.out.go hb5).k2, (HR.out.go hb5).k4, hob⟩); have hcell := row_cell HL.out hrow hob; have HGET := Aside0.mk (row_get HL.out HU.out hcc hrow); clear hgr hb5 hob hrow hcc HR; have HR := n0_; clear n0_) | ((with_reducible refine gate_store (t := 5) (p := 38) rfl ?_); refine wl_store_cell rfl rfl 5 _ _ rfl g4 0 rfl _ 35 HR.out.k4.blk (.int .u8 (rd l 0)) rfl rfl ?side1 rfl info_u8 ?_; (case side1 => show 0 < 8; first | decide | (have := HIL.out; omega)); intro w7 hk7 hg7 hs7; have n0_ := Aside0.mk (HR.out.put hg7 (show InoAt 35 w7 g4 ⟨rd l 0, 0, 0, 0, 0, 0, 0, 0⟩ from hk7) HNE.out HNR.out HG4.out); clear hk7 hg7 hs7 HR; have HR := n0_; clear n0_) | (go_at_call 23; (with_reducible refine (HGET.out 2 2 _ HR.out.kr (by omega) (by omega) (by omega) (by omega)).mono ?_); rintro e w6 ⟨rfl, hdr⟩; have n0_ := Aside0.mk (HR.out.go hdr.below); clear hdr HR; have HR := n0_; clear n0_) | ((with_reducible refine gate_store (t := 22) (p := 46) rfl ?_); refine wl_store_cell rfl rfl 22 _ _ rfl g4 1 rfl _ 35 HR.out.k4.blk (.int .u16 (numI l 2 2)) rfl rfl ?side1 rfl info_u16 ?_; (case side1 => show 1 < 8; first | decide | (have := HIL.out; omega)); intro w7 hk7 hg7 hs7; have n0_ := Aside0.mk (HR.out.put hg7 (show InoAt 35 w7 g4 ⟨rd l 0, numI l 2 2, 0, 0, 0, 0, 0, 0⟩ from hk7) HNE.out HNR.out HG4.out); clear hk7 hg7 hs7 HR; have HR := n0_; clear n0_) | (go_at_call 23; (with_reducible refine (HGET.out 4 4 _ HR.out.kr (by omega) (by omega) (by omega) (by omega)).mono ?_); rintro e w6 ⟨rfl, hdr⟩; have n0_ := Aside0.mk (HR.out.go hdr.below); clear hdr HR; have HR := n0_; clear n0_) | ((with_reducible refine gate_store (t := 23) (p := 54) rfl ?_); refine wl_store_cell rfl rfl 23 _ _ rfl g4 2 rfl _ 35 HR.out.k4.blk (.int .u32 (numI l 4 4)) rfl rfl ?side1 rfl info_u32 ?_; (case side1 => show 2 < 8; first | decide | (have := HIL.out; omega)); intro w7 hk7 hg7 hs7; have n0_ := Aside0.mk (HR.out.put hg7 (show InoAt 35 w7 g4 (fillI l 0) from hk7) HNE.out HNR.out HG4.out); clear hk7 hg7 hs7 HR; have HR := n0_; clear n0_))
          go_loopg [9] 5 (fun gk v9 w' => ∃ i : Nat, v9 = .int .i64 i ∧ Aside0 (gk + i = 5) ∧ Aside0 (RH w w' g2 g4 gr ob (fillI l i)))
          case atStart => exact ⟨0, rfl, ⟨rfl⟩, HR⟩
          case round =>
            clear HR HI
            obtain ⟨i, rfl, HI, HR⟩ := hrel
            by_cases hi : i < 5
            · have hil : (i : Int) < 5 := by omega
              have HIL := Aside0.mk hi
              have hw := HW2.out _ (numI_range l HU.out HL.out (8 + 2 * (i : Int)) 2 (by omega) (by decide) (by omega))
              clear hi
              go_wp2_with (first | (go_at_call 23; (with_reducible refine (HGET.out (8 + 2 * (i : Int)) 2 _ HR.out.kr (by omega) (by omega) (by omega) (by omega)).mono ?_); rintro e w6 ⟨rfl, hdr⟩; have n0_ := Aside0.mk (HR.out.go hdr.below); clear hdr HR; have HR := n0_; clear n0_) | ((with_reducible refine gate_store (t := 22) (p := 71) rfl ?_); refine wl_store_cell rfl rfl 22 _ _ rfl g4 (3 + i) rfl _ 35 HR.out.k4.blk (.int .u16 (numI l (8 + 2 * (i : Int)) 2)) rfl rfl ?side1 rfl info_u16 ?_; (case side1 => show (3 + i) < 8; first | decide | (have := HIL.out; omega)); intro w7 hk7 hg7 hs7; have n0_ := Aside0.mk (HR.out.put hg7 (show InoAt 35 w7 g4 (fillI l (i + 1)) from (by rw [InoAt, ← fillI_put l i HIL.out]; exact hk7)) HNE.out HNR.out HG4.out); clear hk7 hg7 hs7 HR; have HR := n0_; clear n0_))
              go_roundg (gk - 1)
              case measure => have := HI.out; have := HIL.out; omega
              case rel => exact ⟨i + 1, by go_num, ⟨by have := HI.out; have := HIL.out; omega⟩, HR⟩
            · have h5 : i = 5 := by have := HI.out; omega
              subst h5
              clear hi
              go_wp2_with (first | ((with_reducible refine gate_op (N := .load 35 (.tmp 4)) rfl ?_); refine wl_load_blk rfl _ _ rfl g4 rfl (fillI l 5).cells 35 _ HR.out.k4.blk Try.underlying35 rfl info_N ?_) | ((with_reducible refine gate_store (t := 35) (p := 2) rfl ?_); refine wl_store_all rfl rfl 35 _ _ rfl g2 rfl _ _ HR.out.k2.blk (.agg (fillI l 5).cells) rfl rfl InoV.one info_N ?_; intro w8 hk8 hg8 hs8; have HK8 := Aside0.mk (show InoAt 35 w8 g2 (getI l) from hk8); have HB := Aside0.mk (show Below w.heap.size w w8 from grown_below HR.out.below hg8 HR.out.below.size HG2.out); clear hk8 hg8 hs8 HR))
              have hf : formI l = (getI l, 0) := by unfold formI; rw [if_pos HF.out]
              rw [hf]
              exact bodyPost_ret (results_cell2 rfl _ _ g2 35 (getI l).cells _ rfl HK8.out.blk Try.underlying35 rfl info_N) rfl ⟨rfl, HB.out⟩
    · have hf : formI l = (InoV.nought, 11) := by
        unfold formI
        rw [if_neg]
        rintro ⟨_, h3, _, _⟩
        have z0 := HZ.out 0 (by rw [HN.out]; decide)
        have : rd l 0 = rd l ((0 : Nat) : Int) := rfl
        omega
      rw [hf]
      exact bodyPost_ret (results_cell2 rfl _ _ g2 35 InoV.nought.cells _ rfl HK8.out.blk Try.underlying35 rfl info_N) rfl ⟨rfl, HB.out⟩
end Go.Proofs.Ytpdobinpndfgfaa.Q
