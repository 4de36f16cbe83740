-- Written by this session's own program (ext_print.py) over the kit's print.py, hand proofs among it. Not trusted: Lean checks it.
import Derived.Test.YtgdgidlbpeimoaaQx0
namespace Go.Proofs.Ytgdgidlbpeimoaa.Q
open Go.RowKit Go.Proofs.YtgdgidlbpeimoaaW.PrintWords Go.Proofs.YtgdgidlbpeimoaaW.PrintLast Go.Proofs.YtgdgidlbpeimoaaW.PrintMore
attribute [local go_sem] max2_int min2_int max_two min_two max_three min_three max_four min_four   -- for this text's walks alone
set_option linter.unusedVariables false
set_option linter.unusedSimpArgs false

-- EXT word_Add: function 16
/-! ### word_Add: function 16 -/
def m64 : Int := 18446744073709551616
def addGo : Int → List Int → Int × Bool
  | s, [] => (s, true)
  | s, x :: t => if s + x < m64 then addGo (s + x) t else (0, false)
def u64s (l : List Int) : Prop := ∀ x ∈ l, 0 ≤ x ∧ x < m64
instance (l : List Int) : Decidable (u64s l) := by unfold u64s; infer_instance
def word_Add.f (l0 : List Int) : Option (Int × Bool) := if u64s l0 then some (addGo 0 l0) else none
theorem run_bits_Add64 (x y : Int) (hx : 0 ≤ x) (hx' : x < m64) (hy : 0 ≤ y) (hy' : y < m64) (w : World) :
    (callFunc 23 #[.int .u64 x, .int .u64 y, .int .u64 0]).run Try.prog w = .ok (.value (.tuple #[.int .u64 ((x + y) % m64), .int .u64 ((x + y) / m64)])) w := by
  unfold m64 at *
  obtain ⟨x, rfl⟩ := Int.eq_ofNat_of_zero_le hx
  obtain ⟨y, rfl⟩ := Int.eq_ofNat_of_zero_le hy
  have := run_add64 (P := Try.prog) x y 0 (by omega) (by omega) (by omega) (by omega) w
  rw [run_callFunc_extern Try.func23 (by kernel_rfl) (by kernel_rfl) (by kernel_rfl) (e := add64Entry) (by kernel_rfl)]
  have h2 : (add64Entry #[.int .u64 (x : Int), .int .u64 (y : Int), .int .u64 0]).run Try.prog w = _ := this
  rw [h2]
  simp only [Result.andThen]
  congr 5 <;> omega
theorem addGo_drop (l : List Int) (x s : Int) (h0 : 0 ≤ x) (h1 : x < l.length) : addGo s (l.drop x.toNat) = if s + rd l x < m64 then addGo (s + rd l x) (l.drop (x + 1).toNat) else (0, false) := by
  obtain ⟨n, rfl⟩ := Int.eq_ofNat_of_zero_le h0
  have hn : n < l.length := by omega
  simp only [Int.toNat_natCast, show ((n : Int) + 1).toNat = n + 1 by omega]
  rw [List.drop_eq_getElem_cons hn, addGo]
  simp only [rd, Int.toNat_natCast, List.getD_eq_getElem?_getD, List.getElem?_eq_getElem hn, Option.getD_some]
theorem addGo_end (l : List Int) (x s : Int) (h1 : l.length ≤ x) : addGo s (l.drop x.toNat) = (s, true) := by
  rw [List.drop_eq_nil_of_le (by omega), addGo]
set_option maxHeartbeats 8000000 in
set_option maxRecDepth 100000 in
theorem word_Add.calls (A0 : Option Addr) (c0 : Nat) (l0 : List Int) (r1 : Int) (r2 : Bool) (w : World) (hr0 : Kd.C (Kd.int .u64) w A0 l0.length l0) (hc0 : l0.length ≤ c0) (h : word_Add.f l0 = some (r1, r2)) :
    Calls Try.prog 16 #[.slice A0 l0.length c0] w fun e w' => e = .returned (.tuple #[.int .u64 r1, .bool r2]) ∧ Drawn0 w w' := by
  have HR0 := Aside0.mk hr0
  have HM := Aside0.mk hr0.2.1
  clear hr0 hc0
  unfold word_Add.f at h
  by_cases c1 : u64s l0
  · rw [if_pos c1] at h
    have HU := Aside0.mk c1
    have HG := Aside0.mk (Option.some.inj h)
    have hz : (0 : Int) < m64 := by unfold m64; omega
    have HZ := Aside0.mk hz
    clear c1 h hz
    go_enter Try.func16, Try.ntmps16
    go_wp2
    go_loopg [4, 11] l0.length (fun gk v4 v11 w' => ∃ (s x : Int), v4 = .int .u64 s ∧ v11 = .int .i64 x ∧ Aside0 (0 ≤ x ∧ (gk : Int) + x = l0.length) ∧ Aside0 (addGo s (l0.drop x.toNat) = (r1, r2)) ∧ Aside0 (0 ≤ s ∧ s < m64) ∧ Drawn0 w w')
    case atStart => exact ⟨0, 0, rfl, rfl, ⟨by omega⟩, HG, ⟨⟨by omega, HZ.out⟩⟩, Drawn0.refl _⟩
    case round =>
      clear HG
      obtain ⟨s, x, rfl, rfl, HX, HA, HS, ⟨m1, rfl⟩⟩ := hrel
      by_cases c2 : x < (l0.length : Int)
      · have p1 := HX.out.1
        have hx := Aside0.mk (Kd.at_int HR0.out x p1 c2)
        obtain ⟨ad, e1, hcell⟩ := hx.out
        have hmem : 0 ≤ rd l0 x ∧ rd l0 x < m64 := by
          have hlt : x.toNat < l0.length := by omega
          have := HU.out (l0[x.toNat]) (List.getElem_mem hlt)
          simpa [rd, List.getD_eq_getElem?_getD, List.getElem?_eq_getElem hlt] using this
        have HMm := Aside0.mk hmem
        have hstep := addGo_drop l0 x s p1 c2
        rw [HA.out] at hstep
        have HST := Aside0.mk hstep.symm
        have hadd := run_bits_Add64 s (rd l0 x) HS.out.1 HS.out.2 hmem.1 hmem.2
        have HADD := Aside0.mk hadd
        have c2b : decide (x < (l0.length : Int)) = true := decide_eq_true c2
        have HW := Aside0.mk (show wrap64 (x + 1) = x + 1 from by have := HM.out; unfold wrap64; omega)
        cases e1
        have c2' := Aside0.mk c2
        have p1' : decide (0 ≤ x) = true := decide_eq_true p1
        have p2 := eq_true p1
        have q2 := eq_true c2
        have p1'' := Aside0.mk p1
        clear hx hmem hstep hadd HA c2 p1
        by_cases c3 : s + rd l0 x < m64
        · have hq : (s + rd l0 x) / m64 = 0 := Int.ediv_eq_zero_of_lt (by have := HS.out; have := HMm.out; omega) c3
          have hm : (s + rd l0 x) % m64 = s + rd l0 x := Int.emod_eq_of_lt (by have := HS.out; have := HMm.out; omega) c3
          have hadd := HADD.out
          rw [hq, hm] at hadd
          have HADD2 := Aside0.mk hadd
          have hst2 := HST.out
          rw [if_pos c3] at hst2
          have HST2 := Aside0.mk hst2
          have HC3 := Aside0.mk c3
          clear HADD hadd hq hm hst2 HST c3
          obtain ⟨sx, hsx⟩ : ∃ sx, sx = s + rd l0 x := ⟨_, rfl⟩
          have HSX := Aside0.mk hsx
          rw [← hsx] at HADD2 HST2 HC3
          clear hsx
          go_wp2_with (first | ((with_reducible refine gate_callee (f := 23) rfl ?_); refine Kd.event_run rfl (v := .tuple #[.int .u64 sx, .int .u64 0]) (w1 := _) (by have h_ := HADD2.out; unfold execOp; simp [resolve, Deferred.ofValue, invoke, Act.eval, h_]; rfl) ?_))
          go_roundg (gk - 1)
          case measure => have := HX.out; have := c2'.out; omega
          case rel => exact ⟨sx, x + 1, rfl, by rw [HW.out], ⟨by have := HX.out; have := c2'.out; omega⟩, HST2, ⟨⟨by have := HS.out; have := HMm.out; have := HSX.out; omega, HC3.out⟩⟩, by repeat (first | exact Drawn0.refl _ | apply Drawn0.step)⟩
        · have hq : (s + rd l0 x) / m64 = 1 := by have h1_ := HS.out; have h2_ := HMm.out; unfold m64 at *; omega
          have hadd := HADD.out
          rw [hq] at hadd
          have HADD2 := Aside0.mk hadd
          have hst2 := HST.out
          rw [if_neg c3] at hst2
          have HST2 := Aside0.mk hst2
          clear HADD hadd hq hst2 HST c3
          obtain ⟨sx, hsx⟩ : ∃ sx, sx = (s + rd l0 x) % m64 := ⟨_, rfl⟩
          rw [← hsx] at HADD2
          clear hsx
          obtain ⟨rfl, rfl⟩ := (Prod.mk.injEq _ _ _ _).mp HST2.out
          clear HST2
          go_wp2_with (first | ((with_reducible refine gate_callee (f := 23) rfl ?_); refine Kd.event_run rfl (v := .tuple #[.int .u64 sx, .int .u64 1]) (w1 := _) (by have h_ := HADD2.out; unfold execOp; simp [resolve, Deferred.ofValue, invoke, Act.eval, h_]; rfl) ?_))
          go_ret2
          exact ⟨rfl, by repeat (first | exact Drawn0.refl _ | apply Drawn0.step)⟩
      · have hend := addGo_end l0 x s (by omega)
        rw [HA.out] at hend
        obtain ⟨rfl, rfl⟩ := (Prod.mk.injEq _ _ _ _).mp hend
        have c2b : decide (x < (l0.length : Int)) = false := decide_eq_false c2
        clear hend c2 HA
        go_wp2
        go_ret2
        exact ⟨rfl, by repeat (first | exact Drawn0.refl _ | apply Drawn0.step)⟩
  · rw [if_neg c1] at h
    exact absurd h (by simp)

end Go.Proofs.Ytgdgidlbpeimoaa.Q
