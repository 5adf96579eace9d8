/- What the proof of the law StrashRuns needs, part 10: the walks of the functions that it reaches, and the plain words on what these compute. -/
import Derived.Test.YteiiodlgdbiimaaRi
section
namespace Go.Proofs.Yteiiodlgdbiimaa.F
open Go.RowKit Go.Proofs.YteiiodlgdbiimaaW.PrintWords Go.Proofs.YteiiodlgdbiimaaW.PrintLast Go.Proofs.YteiiodlgdbiimaaW.PrintMore
attribute [local go_sem] max2_int min2_int max_two min_two max_three min_three max_four min_four
set_option linter.unusedVariables false
set_option linter.unusedSimpArgs false
def inquestref03_values.l0 : Nat → List Int → Int → Int → Option (Bool)
  | 0, _, _, _ => none
  | k + 1, x0, x1, x5 => if x5 < (x0.length : Int) then (if 0 ≤ x5 then (if (rd x0 x5) > 2 then (some false) else (inquestref03_values.l0 k x0 x1 (wrap64 (x5 + 1)))) else (none)) else (some ((x0.length : Int) == x1))
def inquestref03_values.f (k : Nat) (l0 : List Int) (a1 : Int) : Option (Bool) := inquestref03_values.l0 k l0 a1 0
set_option maxHeartbeats 8000000 in
set_option maxRecDepth 100000 in
theorem inquestref03_values.calls (k : Nat) (A0 : Option Addr) (c0 : Nat) (l0 : List Int) (a1 : Int) (r : Bool) (w : World) (hr0 : Kd.C (Kd.int .u8) w A0 l0.length l0) (hc0 : l0.length ≤ c0) (h : inquestref03_values.f k l0 a1 = some r) :
    Calls Try.prog 108 #[.slice A0 l0.length c0, .int .i64 a1] w fun e w' => e = .returned (.bool r) ∧ Drawn0 w w' := by
  have HR0 := Aside0.mk hr0
  have HC0 := Aside0.mk hc0
  clear hr0 hc0
  have H : (inquestref03_values.l0 k l0 a1 0) = some r := h
  clear h
  have H' := Aside0.mk H
  clear H
  go_enter Try.func108, Try.ntmps108
  go_wp2
  go_loopg [5] k (fun kq v5 w' => ∃ (x5_1 : Int), v5 = .int .i64 x5_1 ∧ Aside0 (inquestref03_values.l0 kq l0 a1 x5_1 = some r) ∧ Aside0 (kq ≤ k) ∧ Drawn0 w w')
  case atStart => exact ⟨(0), (by first | rfl | (simp; done) | (simp [*]; done)), H', ⟨Nat.le_refl _⟩, by repeat (first | exact Drawn0.refl _ | apply Drawn0.step)⟩
  case round =>
    clear H'
    try clear c1
    try clear p2
    obtain ⟨x5_1, rfl, HA, HK1, ⟨m1, rfl⟩⟩ := hrel
    cases gk with
    | zero => exact absurd HA.out (by simp [inquestref03_values.l0])
    | succ k1 =>
      have H := HA.out
      clear HA
      simp only [inquestref03_values.l0] at H
      by_cases c3 : x5_1 < (l0.length : Int)
      · rw [if_pos c3] at H
        have c3b0 : decide (x5_1 < (l0.length : Int)) = true := decide_eq_true c3
        clear c3
        by_cases c4 : 0 ≤ x5_1
        · rw [if_pos c4] at H
          have c4b0 : decide (0 ≤ x5_1) = true := decide_eq_true c4
          clear c4
          by_cases c5 : (rd l0 x5_1) > 2
          · rw [if_pos c5] at H
            have c5b0 : decide (2 < (rd l0 x5_1)) = true := decide_eq_true c5
            clear c5
            obtain rfl := Option.some.inj H
            have p597 : 0 ≤ (x5_1 : Int) := of_decide_eq_true (by first | (with_reducible assumption) | assumption)
            have q597 : x5_1 < (l0.length : Int) := of_decide_eq_true (by first | (with_reducible assumption) | assumption)
            obtain ⟨ad597, e597, hx597_0⟩ := Kd.at_int HR0.out x5_1 p597 q597
            cases e597
            replace p597 := eq_true p597
            replace q597 := eq_true q597
            go_wp2
            go_ret
            exact ⟨by first | rfl | (simp; done) | (simp [*]; done), by repeat (first | exact Drawn0.refl _ | apply Drawn0.step)⟩
          · rw [if_neg c5] at H
            have c5b0 : decide (2 < (rd l0 x5_1)) = false := decide_eq_false c5
            clear c5
            have H' := Aside0.mk H
            clear H
            have p597 : 0 ≤ (x5_1 : Int) := of_decide_eq_true (by first | (with_reducible assumption) | assumption)
            have q597 : x5_1 < (l0.length : Int) := of_decide_eq_true (by first | (with_reducible assumption) | assumption)
            obtain ⟨ad597, e597, hx597_0⟩ := Kd.at_int HR0.out x5_1 p597 q597
            cases e597
            replace p597 := eq_true p597
            replace q597 := eq_true q597
            go_wp2
            go_roundg k1
            case measure => have := HK1.out; omega
            case rel => exact ⟨(wrap64 (x5_1 + 1)), (by first | rfl | (simp; done) | (simp [*]; done)), H', ⟨by have := HK1.out; omega⟩, by repeat (first | exact Drawn0.refl _ | apply Drawn0.step)⟩
        · rw [if_neg c4] at H
          exact absurd H (by simp)
      · rw [if_neg c3] at H
        have c3b0 : decide (x5_1 < (l0.length : Int)) = false := decide_eq_false c3
        clear c3
        obtain rfl := Option.some.inj H
        go_wp2
        go_ret
        exact ⟨by first | rfl | (simp; done) | (simp [*]; done), by repeat (first | exact Drawn0.refl _ | apply Drawn0.step)⟩
end Go.Proofs.Yteiiodlgdbiimaa.F
end
section
namespace Go.Proofs.Yteiiodlgdbiimaa.F
open Go.RowKit Go.Proofs.YteiiodlgdbiimaaW.PrintWords Go.Proofs.YteiiodlgdbiimaaW.PrintLast Go.Proofs.YteiiodlgdbiimaaW.PrintMore
attribute [local go_sem] max2_int min2_int max_two min_two max_three min_three max_four min_four
set_option linter.unusedVariables false
set_option linter.unusedSimpArgs false
mutual
def inquestref03_Fits.j0 : Nat → Bool → Int → List (S41) → List (S68) → List Int → List Int → List Int → Int → List Int → List (List Int) → Option (Bool)
  | 0, _, _, _, _, _, _, _, _, _, _ => none
  | k + 1, x43, x599000, x599001, x599002, x599003, x599004, x599005, x600000, x600001, x600002 => if x43 = true then (some false) else (inquestref03_Fits.l0 k 0 x599000 x599001 x599002 x599003 x599004 x599005 x600000 x600001 x600002)
def inquestref03_Fits.l0 : Nat → Int → Int → List (S41) → List (S68) → List Int → List Int → List Int → Int → List Int → List (List Int) → Option (Bool)
  | 0, _, _, _, _, _, _, _, _, _, _ => none
  | k + 1, x5, x599000, x599001, x599002, x599003, x599004, x599005, x600000, x600001, x600002 => if x5 < (x600002.length : Int) then (if 0 ≤ x5 then ((inquestref03_values.f k (rd_L9 x600002 x5) x599000).bind fun t603 => (if t603 = true then (inquestref03_Fits.l0 k (wrap64 (x5 + 1)) x599000 x599001 x599002 x599003 x599004 x599005 x600000 x600001 x600002) else (some false))) else (none)) else (inquestref03_Fits.l1 k 0 x599000 x599001 x599002 x599003 x599004 x599005 x600000 x600001 x600002)
def inquestref03_Fits.l1 : Nat → Int → Int → List (S41) → List (S68) → List Int → List Int → List Int → Int → List Int → List (List Int) → Option (Bool)
  | 0, _, _, _, _, _, _, _, _, _, _ => none
  | k + 1, x6, x599000, x599001, x599002, x599003, x599004, x599005, x600000, x600001, x600002 => if x6 < (x600001.length : Int) then (if 0 ≤ x6 then (if x6 < (x599001.length : Int) then (if ((rd_T41 x599001 x6).f1) = 2 then (inquestref03_Fits.l1 k (wrap64 (x6 + 1)) x599000 x599001 x599002 x599003 x599004 x599005 x600000 x600001 x600002) else (if ((rd_T41 x599001 x6).f1) = (rd x600001 x6) then (inquestref03_Fits.l1 k (wrap64 (x6 + 1)) x599000 x599001 x599002 x599003 x599004 x599005 x600000 x600001 x600002) else (some false))) else (none)) else (none)) else (some true)
end
def inquestref03_Fits.f (k : Nat) (a0_0 : Int) (l0_1 : List (S41)) (l0_2 : List (S68)) (l0_3 : List Int) (l0_4 : List Int) (l0_5 : List Int) (a1_0 : Int) (l1_1 : List Int) (l1_2 : List (List Int)) : Option (Bool) := (inquestref03_May.f k a0_0 l0_1 l0_2 l0_3 l0_4 l0_5).bind fun t600 => (if t600 = true then (if a1_0 < 0 then (inquestref03_Fits.j0 k true a0_0 l0_1 l0_2 l0_3 l0_4 l0_5 a1_0 l1_1 l1_2) else (if a1_0 ≥ (l0_4.length : Int) then (inquestref03_Fits.j0 k true a0_0 l0_1 l0_2 l0_3 l0_4 l0_5 a1_0 l1_1 l1_2) else ((inquestref03_values.f k l1_1 (l0_1.length : Int)).bind fun t601 => (if t601 = true then (if (l1_2.length : Int) < 1 then (inquestref03_Fits.j0 k true a0_0 l0_1 l0_2 l0_3 l0_4 l0_5 a1_0 l1_1 l1_2) else (inquestref03_Fits.j0 k (decide ((l1_2.length : Int) > 256)) a0_0 l0_1 l0_2 l0_3 l0_4 l0_5 a1_0 l1_1 l1_2)) else (inquestref03_Fits.j0 k true a0_0 l0_1 l0_2 l0_3 l0_4 l0_5 a1_0 l1_1 l1_2))))) else (inquestref03_Fits.j0 k true a0_0 l0_1 l0_2 l0_3 l0_4 l0_5 a1_0 l1_1 l1_2))
set_option maxHeartbeats 8000000 in
set_option maxRecDepth 100000 in
theorem inquestref03_Fits.calls (k : Nat) (a0_0 : Int) (A0_1 : Option Addr) (c0_1 : Nat) (l0_1 : List (S41)) (A0_2 : Option Addr) (c0_2 : Nat) (l0_2 : List (S68)) (A0_3 : Option Addr) (c0_3 : Nat) (l0_3 : List Int) (A0_4 : Option Addr) (c0_4 : Nat) (l0_4 : List Int) (A0_5 : Option Addr) (c0_5 : Nat) (l0_5 : List Int) (a1_0 : Int) (A1_1 : Option Addr) (c1_1 : Nat) (l1_1 : List Int) (A1_2 : Option Addr) (c1_2 : Nat) (l1_2 : List (List Int)) (r : Bool) (w : World) (hr0_1 : Kd.C k41 w A0_1 l0_1.length l0_1) (hc0_1 : l0_1.length ≤ c0_1) (hr0_2 : Kd.C k68 w A0_2 l0_2.length l0_2) (hc0_2 : l0_2.length ≤ c0_2) (hr0_3 : Kd.C (Kd.int .u32) w A0_3 l0_3.length l0_3) (hc0_3 : l0_3.length ≤ c0_3) (hr0_4 : Kd.C (Kd.int .u32) w A0_4 l0_4.length l0_4) (hc0_4 : l0_4.length ≤ c0_4) (hr0_5 : Kd.C (Kd.int .u32) w A0_5 l0_5.length l0_5) (hc0_5 : l0_5.length ≤ c0_5) (hr1_1 : Kd.C (Kd.int .u8) w A1_1 l1_1.length l1_1) (hc1_1 : l1_1.length ≤ c1_1) (hr1_2 : Kd.C (Kd.slice 5 (Kd.int .u8)) w A1_2 l1_2.length l1_2) (hc1_2 : l1_2.length ≤ c1_2) (h : inquestref03_Fits.f k a0_0 l0_1 l0_2 l0_3 l0_4 l0_5 a1_0 l1_1 l1_2 = some r) :
  Calls Try.prog 48 #[.agg #[.int .i64 a0_0, .slice A0_1 l0_1.length c0_1, .slice A0_2 l0_2.length c0_2, .slice A0_3 l0_3.length c0_3, .slice A0_4 l0_4.length c0_4, .slice A0_5 l0_5.length c0_5], .agg #[.int .i64 a1_0, .slice A1_1 l1_1.length c1_1, .slice A1_2 l1_2.length c1_2]] w fun e w' => e = .returned (.bool r) ∧ Below w.heap.size w w' := by
 have hu26 := Try.underlying26
 have hu31 := Try.underlying31
 have HR0_1 := Aside0.mk hr0_1
 have HC0_1 := Aside0.mk hc0_1
 clear hr0_1 hc0_1
 have HR0_2 := Aside0.mk hr0_2
 have HC0_2 := Aside0.mk hc0_2
 clear hr0_2 hc0_2
 have HR0_3 := Aside0.mk hr0_3
 have HC0_3 := Aside0.mk hc0_3
 clear hr0_3 hc0_3
 have HR0_4 := Aside0.mk hr0_4
 have HC0_4 := Aside0.mk hc0_4
 clear hr0_4 hc0_4
 have HR0_5 := Aside0.mk hr0_5
 have HC0_5 := Aside0.mk hc0_5
 clear hr0_5 hc0_5
 have HR1_1 := Aside0.mk hr1_1
 have HC1_1 := Aside0.mk hc1_1
 clear hr1_1 hc1_1
 have HR1_2 := Aside0.mk hr1_2
 have HC1_2 := Aside0.mk hc1_2
 clear hr1_2 hc1_2
 have HB := Aside0.mk (Below.refl w.heap.size w)
 have H : ((inquestref03_May.f k a0_0 l0_1 l0_2 l0_3 l0_4 l0_5).bind fun t600 => (if t600 = true then (if a1_0 < 0 then (inquestref03_Fits.j0 k true a0_0 l0_1 l0_2 l0_3 l0_4 l0_5 a1_0 l1_1 l1_2) else (if a1_0 ≥ (l0_4.length : Int) then (inquestref03_Fits.j0 k true a0_0 l0_1 l0_2 l0_3 l0_4 l0_5 a1_0 l1_1 l1_2) else ((inquestref03_values.f k l1_1 (l0_1.length : Int)).bind fun t601 => (if t601 = true then (if (l1_2.length : Int) < 1 then (inquestref03_Fits.j0 k true a0_0 l0_1 l0_2 l0_3 l0_4 l0_5 a1_0 l1_1 l1_2) else (inquestref03_Fits.j0 k (decide ((l1_2.length : Int) > 256)) a0_0 l0_1 l0_2 l0_3 l0_4 l0_5 a1_0 l1_1 l1_2)) else (inquestref03_Fits.j0 k true a0_0 l0_1 l0_2 l0_3 l0_4 l0_5 a1_0 l1_1 l1_2))))) else (inquestref03_Fits.j0 k true a0_0 l0_1 l0_2 l0_3 l0_4 l0_5 a1_0 l1_1 l1_2))) = some r := h
 clear h
 have HC3 := Aside0.mk H
 clear H
 go_enter Try.func48, Try.ntmps48
 go_upto_region 1 with (first | ((with_reducible refine gate_dst (N := 2) rfl ?_); (try (refine gate_guard (by rfl) ?_; dsimp only)); refine box_event ?hg (N := 2) ?hd (cs := #[.int .i64 a0_0, .slice A0_1 l0_1.length c0_1, .slice A0_2 l0_2.length c0_2, .slice A0_3 l0_3.length c0_3, .slice A0_4 l0_4.length c0_4, .slice A0_5 l0_5.length c0_5]) (t := 26) ?hr ?_; (case hd => rfl); (case hg => rfl); (case hr => first | (go_simp; done) | (go_simp; rfl)); intro gb598 hg w4 hbox hb; have n0_ := Aside0.mk (below_step (by exact HB.out) hb); have n1_ := Aside0.mk (hbox); have n2_ := Aside0.mk ((by rw [hg]; exact (below_size (by exact HB.out)) : w.heap.size ≤ gb598)); have n3_ := Aside0.mk ((by rw [hg]; exact (below_size (by exact HB.out)) : w.heap.size ≤ gb598)); clear HB; have HB := n0_; have BK598 := n1_; have GW598 := n2_; have GE598 := n3_; clear n0_ n1_ n2_ n3_; clear hb hbox hg) | ((with_reducible refine gate_dst (N := 3) rfl ?_); (try (refine gate_guard (by rfl) ?_; dsimp only)); refine box_event ?hg (N := 3) ?hd (cs := #[.int .i64 a1_0, .slice A1_1 l1_1.length c1_1, .slice A1_2 l1_2.length c1_2]) (t := 31) ?hr ?_; (case hd => rfl); (case hg => rfl); (case hr => first | (go_simp; done) | (go_simp; rfl)); intro gb599 hg w5 hbox hb; have n0_ := Aside0.mk (blk_below (g := gb598) (o := .cells #[.int .i64 a0_0, .slice A0_1 l0_1.length c0_1, .slice A0_2 l0_2.length c0_2, .slice A0_3 l0_3.length c0_3, .slice A0_4 l0_4.length c0_4, .slice A0_5 l0_5.length c0_5] 26 (0, 0)) (by exact BK598.out) hb); have n1_ := Aside0.mk (below_step (by exact HB.out) hb); have n2_ := Aside0.mk (hbox); have n3_ := Aside0.mk ((by rw [hg]; exact (below_size (by exact HB.out)) : w.heap.size ≤ gb599)); have n4_ := Aside0.mk ((by rw [hg]; exact (below_size (by exact HB.out)) : w.heap.size ≤ gb599)); have n5_ := Aside0.mk ((by rw [hg]; exact Nat.ne_of_lt (blk_lt (g := gb598) (o := .cells #[.int .i64 a0_0, .slice A0_1 l0_1.length c0_1, .slice A0_2 l0_2.length c0_2, .slice A0_3 l0_3.length c0_3, .slice A0_4 l0_4.length c0_4, .slice A0_5 l0_5.length c0_5] 26 (0, 0)) (by exact BK598.out)) : gb598 ≠ gb599)); have n6_ := Aside0.mk ((by rw [hg]; exact Nat.ne_of_gt (blk_lt (g := gb598) (o := .cells #[.int .i64 a0_0, .slice A0_1 l0_1.length c0_1, .slice A0_2 l0_2.length c0_2, .slice A0_3 l0_3.length c0_3, .slice A0_4 l0_4.length c0_4, .slice A0_5 l0_5.length c0_5] 26 (0, 0)) (by exact BK598.out)) : gb599 ≠ gb598)); clear BK598; clear HB; have BK598 := n0_; have HB := n1_; have BK599 := n2_; have GW599 := n3_; have GE599 := n4_; have NB598_599 := n5_; have NB599_598 := n6_; clear n0_ n1_ n2_ n3_ n4_ n5_ n6_; clear hb hbox hg))
 repeat (go_quiet (fail); try go_wp2)
 (try simp only [Act.put, List.setIfInBounds_toArray, List.set_cons_zero, List.set_cons_succ])
 go_cut [43] (fun v43 wc => ∃ (kq : Nat) (x43_2 : Bool), v43 = .bool x43_2 ∧ Aside0 (inquestref03_Fits.j0 kq x43_2 a0_0 l0_1 l0_2 l0_3 l0_4 l0_5 a1_0 l1_1 l1_2 = some r) ∧ Aside0 (kq ≤ k) ∧ Aside0 (wc.heap[gb598]? = some (.cells #[.int .i64 a0_0, (.slice A0_1 l0_1.length c0_1), (.slice A0_2 l0_2.length c0_2), (.slice A0_3 l0_3.length c0_3), (.slice A0_4 l0_4.length c0_4), (.slice A0_5 l0_5.length c0_5)] 26 (0, 0))) ∧ Aside0 (wc.heap[gb599]? = some (.cells #[.int .i64 a1_0, (.slice A1_1 l1_1.length c1_1), (.slice A1_2 l1_2.length c1_2)] 31 (0, 0))) ∧ Aside0 (Below w.heap.size w wc))
 case first =>
  have H := HC3.out
  clear HC3
  replace H := Option.bind_eq_some_iff.mp H
  obtain ⟨t600, A60, H⟩ := H
  replace H : (if t600 = true then (if a1_0 < 0 then (inquestref03_Fits.j0 k true a0_0 l0_1 l0_2 l0_3 l0_4 l0_5 a1_0 l1_1 l1_2) else (if a1_0 ≥ (l0_4.length : Int) then (inquestref03_Fits.j0 k true a0_0 l0_1 l0_2 l0_3 l0_4 l0_5 a1_0 l1_1 l1_2) else ((inquestref03_values.f k l1_1 (l0_1.length : Int)).bind fun t601 => (if t601 = true then (if (l1_2.length : Int) < 1 then (inquestref03_Fits.j0 k true a0_0 l0_1 l0_2 l0_3 l0_4 l0_5 a1_0 l1_1 l1_2) else (inquestref03_Fits.j0 k (decide ((l1_2.length : Int) > 256)) a0_0 l0_1 l0_2 l0_3 l0_4 l0_5 a1_0 l1_1 l1_2)) else (inquestref03_Fits.j0 k true a0_0 l0_1 l0_2 l0_3 l0_4 l0_5 a1_0 l1_1 l1_2))))) else (inquestref03_Fits.j0 k true a0_0 l0_1 l0_2 l0_3 l0_4 l0_5 a1_0 l1_1 l1_2)) = some r := H
  have A6 := Aside0.mk A60
  clear A60
  by_cases c7 : t600 = true
  ·
   subst c7
   have H1 : (if a1_0 < 0 then (inquestref03_Fits.j0 k true a0_0 l0_1 l0_2 l0_3 l0_4 l0_5 a1_0 l1_1 l1_2) else (if a1_0 ≥ (l0_4.length : Int) then (inquestref03_Fits.j0 k true a0_0 l0_1 l0_2 l0_3 l0_4 l0_5 a1_0 l1_1 l1_2) else ((inquestref03_values.f k l1_1 (l0_1.length : Int)).bind fun t601 => (if t601 = true then (if (l1_2.length : Int) < 1 then (inquestref03_Fits.j0 k true a0_0 l0_1 l0_2 l0_3 l0_4 l0_5 a1_0 l1_1 l1_2) else (inquestref03_Fits.j0 k (decide ((l1_2.length : Int) > 256)) a0_0 l0_1 l0_2 l0_3 l0_4 l0_5 a1_0 l1_1 l1_2)) else (inquestref03_Fits.j0 k true a0_0 l0_1 l0_2 l0_3 l0_4 l0_5 a1_0 l1_1 l1_2))))) = some r := by rw [if_pos rfl] at H; exact H
   clear H
   have H := H1
   clear H1
   by_cases c8 : a1_0 < 0
   ·
    rw [if_pos c8] at H
    have c8b0 : decide (a1_0 < 0) = true := decide_eq_true c8
    clear c8
    (first | rw [c8b0] | (simp only [i64_w, i32_w]; rw [c8b0]) | skip)
    have H' := Aside0.mk H
    clear H
    have hnb9 := NB598_599.out
    have hnc9 := NB599_598.out
    have hcz10_0 : w5.cell? ⟨gb598, 0, none⟩ = some (.int .i64 a0_0) := (blk_cell BK598.out 0).trans rfl
    have hcz10_1 : w5.cell? ⟨gb598, 1, none⟩ = some (.slice A0_1 l0_1.length c0_1) := (blk_cell BK598.out 1).trans rfl
    have hcz10_2 : w5.cell? ⟨gb598, 2, none⟩ = some (.slice A0_2 l0_2.length c0_2) := (blk_cell BK598.out 2).trans rfl
    have hcz10_3 : w5.cell? ⟨gb598, 3, none⟩ = some (.slice A0_3 l0_3.length c0_3) := (blk_cell BK598.out 3).trans rfl
    have hcz10_4 : w5.cell? ⟨gb598, 4, none⟩ = some (.slice A0_4 l0_4.length c0_4) := (blk_cell BK598.out 4).trans rfl
    have hcz10_5 : w5.cell? ⟨gb598, 5, none⟩ = some (.slice A0_5 l0_5.length c0_5) := (blk_cell BK598.out 5).trans rfl
    have hfz10_0 := blk_frozen BK598.out 0
    have hfz10_1 := blk_frozen BK598.out 1
    have hfz10_2 := blk_frozen BK598.out 2
    have hfz10_3 := blk_frozen BK598.out 3
    have hfz10_4 := blk_frozen BK598.out 4
    have hfz10_5 := blk_frozen BK598.out 5
    go_wp2_with (first | (go_at_call 26; (with_reducible refine (inquestref03_May.calls k a0_0 _ _ l0_1 _ _ l0_2 _ _ l0_3 _ _ l0_4 _ _ l0_5 true _ ?side1 ?side2 ?side3 ?side4 ?side5 ?side6 ?side7 ?side8 ?side9 ?side10 A6.out).mono ?_); (case side1 => exact (Kd.C_below HR0_1.out HB.out)); (case side2 => exact HC0_1.out); (case side3 => exact (Kd.C_below HR0_2.out HB.out)); (case side4 => exact HC0_2.out); (case side5 => exact (Kd.C_below HR0_3.out HB.out)); (case side6 => exact HC0_3.out); (case side7 => exact (Kd.C_below HR0_4.out HB.out)); (case side8 => exact HC0_4.out); (case side9 => exact (Kd.C_below HR0_5.out HB.out)); (case side10 => exact HC0_5.out); rintro e w11 ⟨rfl, hb⟩; have n0_ := Aside0.mk (blk_below (g := gb598) (o := .cells #[.int .i64 a0_0, .slice A0_1 l0_1.length c0_1, .slice A0_2 l0_2.length c0_2, .slice A0_3 l0_3.length c0_3, .slice A0_4 l0_4.length c0_4, .slice A0_5 l0_5.length c0_5] 26 (0, 0)) (by exact BK598.out) hb); have n1_ := Aside0.mk (blk_below (g := gb599) (o := .cells #[.int .i64 a1_0, .slice A1_1 l1_1.length c1_1, .slice A1_2 l1_2.length c1_2] 31 (0, 0)) (by exact BK599.out) hb); have n2_ := Aside0.mk (below_step (by exact HB.out) hb); clear BK598; clear BK599; clear HB; have BK598 := n0_; have BK599 := n1_; have HB := n2_; clear n0_ n1_ n2_; (try clear hb); (try clear hb2); (try clear hk); (try clear hi); have hcz12_0 : w11.cell? ⟨gb599, 0, none⟩ = some (.int .i64 a1_0) := (blk_cell BK599.out 0).trans rfl; have hcz12_1 : w11.cell? ⟨gb599, 1, none⟩ = some (.slice A1_1 l1_1.length c1_1) := (blk_cell BK599.out 1).trans rfl; have hcz12_2 : w11.cell? ⟨gb599, 2, none⟩ = some (.slice A1_2 l1_2.length c1_2) := (blk_cell BK599.out 2).trans rfl; have hfz12_0 := blk_frozen BK599.out 0; have hfz12_1 := blk_frozen BK599.out 1; have hfz12_2 := blk_frozen BK599.out 2))
    repeat (go_quiet (fail); try go_wp2)
    go_meet
    case rel => exact ⟨_, (true), (by first | rfl | (simp; done) | (simp [*]; done)), H', ⟨by first | omega | exact Nat.le_refl _⟩, ⟨by exact BK598.out⟩, ⟨by exact BK599.out⟩, ⟨by exact HB.out⟩⟩
   ·
    rw [if_neg c8] at H
    have c8b0 : decide (a1_0 < 0) = false := decide_eq_false c8
    clear c8
    (first | rw [c8b0] | (simp only [i64_w, i32_w]; rw [c8b0]) | skip)
    by_cases c13 : a1_0 ≥ (l0_4.length : Int)
    ·
     rw [if_pos c13] at H
     have c13b0 : decide ((l0_4.length : Int) ≤ a1_0) = true := decide_eq_true c13
     clear c13
     have H' := Aside0.mk H
     clear H
     have hnb14 := NB598_599.out
     have hnc14 := NB599_598.out
     have hcz15_0 : w5.cell? ⟨gb598, 0, none⟩ = some (.int .i64 a0_0) := (blk_cell BK598.out 0).trans rfl
     have hcz15_1 : w5.cell? ⟨gb598, 1, none⟩ = some (.slice A0_1 l0_1.length c0_1) := (blk_cell BK598.out 1).trans rfl
     have hcz15_2 : w5.cell? ⟨gb598, 2, none⟩ = some (.slice A0_2 l0_2.length c0_2) := (blk_cell BK598.out 2).trans rfl
     have hcz15_3 : w5.cell? ⟨gb598, 3, none⟩ = some (.slice A0_3 l0_3.length c0_3) := (blk_cell BK598.out 3).trans rfl
     have hcz15_4 : w5.cell? ⟨gb598, 4, none⟩ = some (.slice A0_4 l0_4.length c0_4) := (blk_cell BK598.out 4).trans rfl
     have hcz15_5 : w5.cell? ⟨gb598, 5, none⟩ = some (.slice A0_5 l0_5.length c0_5) := (blk_cell BK598.out 5).trans rfl
     have hfz15_0 := blk_frozen BK598.out 0
     have hfz15_1 := blk_frozen BK598.out 1
     have hfz15_2 := blk_frozen BK598.out 2
     have hfz15_3 := blk_frozen BK598.out 3
     have hfz15_4 := blk_frozen BK598.out 4
     have hfz15_5 := blk_frozen BK598.out 5
     go_wp2_with (first | (go_at_call 26; (with_reducible refine (inquestref03_May.calls k a0_0 _ _ l0_1 _ _ l0_2 _ _ l0_3 _ _ l0_4 _ _ l0_5 true _ ?side1 ?side2 ?side3 ?side4 ?side5 ?side6 ?side7 ?side8 ?side9 ?side10 A6.out).mono ?_); (case side1 => exact (Kd.C_below HR0_1.out HB.out)); (case side2 => exact HC0_1.out); (case side3 => exact (Kd.C_below HR0_2.out HB.out)); (case side4 => exact HC0_2.out); (case side5 => exact (Kd.C_below HR0_3.out HB.out)); (case side6 => exact HC0_3.out); (case side7 => exact (Kd.C_below HR0_4.out HB.out)); (case side8 => exact HC0_4.out); (case side9 => exact (Kd.C_below HR0_5.out HB.out)); (case side10 => exact HC0_5.out); rintro e w16 ⟨rfl, hb⟩; have n0_ := Aside0.mk (blk_below (g := gb598) (o := .cells #[.int .i64 a0_0, .slice A0_1 l0_1.length c0_1, .slice A0_2 l0_2.length c0_2, .slice A0_3 l0_3.length c0_3, .slice A0_4 l0_4.length c0_4, .slice A0_5 l0_5.length c0_5] 26 (0, 0)) (by exact BK598.out) hb); have n1_ := Aside0.mk (blk_below (g := gb599) (o := .cells #[.int .i64 a1_0, .slice A1_1 l1_1.length c1_1, .slice A1_2 l1_2.length c1_2] 31 (0, 0)) (by exact BK599.out) hb); have n2_ := Aside0.mk (below_step (by exact HB.out) hb); clear BK598; clear BK599; clear HB; have BK598 := n0_; have BK599 := n1_; have HB := n2_; clear n0_ n1_ n2_; (try clear hb); (try clear hb2); (try clear hk); (try clear hi); have hcz17_0 : w16.cell? ⟨gb599, 0, none⟩ = some (.int .i64 a1_0) := (blk_cell BK599.out 0).trans rfl; have hcz17_1 : w16.cell? ⟨gb599, 1, none⟩ = some (.slice A1_1 l1_1.length c1_1) := (blk_cell BK599.out 1).trans rfl; have hcz17_2 : w16.cell? ⟨gb599, 2, none⟩ = some (.slice A1_2 l1_2.length c1_2) := (blk_cell BK599.out 2).trans rfl; have hfz17_0 := blk_frozen BK599.out 0; have hfz17_1 := blk_frozen BK599.out 1; have hfz17_2 := blk_frozen BK599.out 2; have hcz18_0 : w16.cell? ⟨gb598, 0, none⟩ = some (.int .i64 a0_0) := (blk_cell BK598.out 0).trans rfl; have hcz18_1 : w16.cell? ⟨gb598, 1, none⟩ = some (.slice A0_1 l0_1.length c0_1) := (blk_cell BK598.out 1).trans rfl; have hcz18_2 : w16.cell? ⟨gb598, 2, none⟩ = some (.slice A0_2 l0_2.length c0_2) := (blk_cell BK598.out 2).trans rfl; have hcz18_3 : w16.cell? ⟨gb598, 3, none⟩ = some (.slice A0_3 l0_3.length c0_3) := (blk_cell BK598.out 3).trans rfl; have hcz18_4 : w16.cell? ⟨gb598, 4, none⟩ = some (.slice A0_4 l0_4.length c0_4) := (blk_cell BK598.out 4).trans rfl; have hcz18_5 : w16.cell? ⟨gb598, 5, none⟩ = some (.slice A0_5 l0_5.length c0_5) := (blk_cell BK598.out 5).trans rfl; have hfz18_0 := blk_frozen BK598.out 0; have hfz18_1 := blk_frozen BK598.out 1; have hfz18_2 := blk_frozen BK598.out 2; have hfz18_3 := blk_frozen BK598.out 3; have hfz18_4 := blk_frozen BK598.out 4; have hfz18_5 := blk_frozen BK598.out 5))
     repeat (go_quiet (fail); try go_wp2)
     go_meet
     case rel => exact ⟨_, (true), (by first | rfl | (simp; done) | (simp [*]; done)), H', ⟨by first | omega | exact Nat.le_refl _⟩, ⟨by exact BK598.out⟩, ⟨by exact BK599.out⟩, ⟨by exact HB.out⟩⟩
    ·
     rw [if_neg c13] at H
     have c13b0 : decide ((l0_4.length : Int) ≤ a1_0) = false := decide_eq_false c13
     clear c13
     replace H := Option.bind_eq_some_iff.mp H
     obtain ⟨t601, A190, H⟩ := H
     replace H : (if t601 = true then (if (l1_2.length : Int) < 1 then (inquestref03_Fits.j0 k true a0_0 l0_1 l0_2 l0_3 l0_4 l0_5 a1_0 l1_1 l1_2) else (inquestref03_Fits.j0 k (decide ((l1_2.length : Int) > 256)) a0_0 l0_1 l0_2 l0_3 l0_4 l0_5 a1_0 l1_1 l1_2)) else (inquestref03_Fits.j0 k true a0_0 l0_1 l0_2 l0_3 l0_4 l0_5 a1_0 l1_1 l1_2)) = some r := H
     have A19 := Aside0.mk A190
     clear A190
     by_cases c20 : t601 = true
     ·
      subst c20
      have H1 : (if (l1_2.length : Int) < 1 then (inquestref03_Fits.j0 k true a0_0 l0_1 l0_2 l0_3 l0_4 l0_5 a1_0 l1_1 l1_2) else (inquestref03_Fits.j0 k (decide ((l1_2.length : Int) > 256)) a0_0 l0_1 l0_2 l0_3 l0_4 l0_5 a1_0 l1_1 l1_2)) = some r := by rw [if_pos rfl] at H; exact H
      clear H
      have H := H1
      clear H1
      by_cases c21 : (l1_2.length : Int) < 1
      ·
       rw [if_pos c21] at H
       have c21b0 : decide ((l1_2.length : Int) < 1) = true := decide_eq_true c21
       have c21b1 : decide (l1_2.length < 1) = true := decide_eq_true (by omega)
       clear c21
       have H' := Aside0.mk H
       clear H
       have hnb22 := NB598_599.out
       have hnc22 := NB599_598.out
       have hcz23_0 : w5.cell? ⟨gb598, 0, none⟩ = some (.int .i64 a0_0) := (blk_cell BK598.out 0).trans rfl
       have hcz23_1 : w5.cell? ⟨gb598, 1, none⟩ = some (.slice A0_1 l0_1.length c0_1) := (blk_cell BK598.out 1).trans rfl
       have hcz23_2 : w5.cell? ⟨gb598, 2, none⟩ = some (.slice A0_2 l0_2.length c0_2) := (blk_cell BK598.out 2).trans rfl
       have hcz23_3 : w5.cell? ⟨gb598, 3, none⟩ = some (.slice A0_3 l0_3.length c0_3) := (blk_cell BK598.out 3).trans rfl
       have hcz23_4 : w5.cell? ⟨gb598, 4, none⟩ = some (.slice A0_4 l0_4.length c0_4) := (blk_cell BK598.out 4).trans rfl
       have hcz23_5 : w5.cell? ⟨gb598, 5, none⟩ = some (.slice A0_5 l0_5.length c0_5) := (blk_cell BK598.out 5).trans rfl
       have hfz23_0 := blk_frozen BK598.out 0
       have hfz23_1 := blk_frozen BK598.out 1
       have hfz23_2 := blk_frozen BK598.out 2
       have hfz23_3 := blk_frozen BK598.out 3
       have hfz23_4 := blk_frozen BK598.out 4
       have hfz23_5 := blk_frozen BK598.out 5
       go_wp2_with (first | (go_at_call 26; (with_reducible refine (inquestref03_May.calls k a0_0 _ _ l0_1 _ _ l0_2 _ _ l0_3 _ _ l0_4 _ _ l0_5 true _ ?side1 ?side2 ?side3 ?side4 ?side5 ?side6 ?side7 ?side8 ?side9 ?side10 A6.out).mono ?_); (case side1 => exact (Kd.C_below HR0_1.out HB.out)); (case side2 => exact HC0_1.out); (case side3 => exact (Kd.C_below HR0_2.out HB.out)); (case side4 => exact HC0_2.out); (case side5 => exact (Kd.C_below HR0_3.out HB.out)); (case side6 => exact HC0_3.out); (case side7 => exact (Kd.C_below HR0_4.out HB.out)); (case side8 => exact HC0_4.out); (case side9 => exact (Kd.C_below HR0_5.out HB.out)); (case side10 => exact HC0_5.out); rintro e w24 ⟨rfl, hb⟩; have n0_ := Aside0.mk (blk_below (g := gb598) (o := .cells #[.int .i64 a0_0, .slice A0_1 l0_1.length c0_1, .slice A0_2 l0_2.length c0_2, .slice A0_3 l0_3.length c0_3, .slice A0_4 l0_4.length c0_4, .slice A0_5 l0_5.length c0_5] 26 (0, 0)) (by exact BK598.out) hb); have n1_ := Aside0.mk (blk_below (g := gb599) (o := .cells #[.int .i64 a1_0, .slice A1_1 l1_1.length c1_1, .slice A1_2 l1_2.length c1_2] 31 (0, 0)) (by exact BK599.out) hb); have n2_ := Aside0.mk (below_step (by exact HB.out) hb); clear BK598; clear BK599; clear HB; have BK598 := n0_; have BK599 := n1_; have HB := n2_; clear n0_ n1_ n2_; (try clear hb); (try clear hb2); (try clear hk); (try clear hi); have hcz25_0 : w24.cell? ⟨gb599, 0, none⟩ = some (.int .i64 a1_0) := (blk_cell BK599.out 0).trans rfl; have hcz25_1 : w24.cell? ⟨gb599, 1, none⟩ = some (.slice A1_1 l1_1.length c1_1) := (blk_cell BK599.out 1).trans rfl; have hcz25_2 : w24.cell? ⟨gb599, 2, none⟩ = some (.slice A1_2 l1_2.length c1_2) := (blk_cell BK599.out 2).trans rfl; have hfz25_0 := blk_frozen BK599.out 0; have hfz25_1 := blk_frozen BK599.out 1; have hfz25_2 := blk_frozen BK599.out 2; have hcz26_0 : w24.cell? ⟨gb598, 0, none⟩ = some (.int .i64 a0_0) := (blk_cell BK598.out 0).trans rfl; have hcz26_1 : w24.cell? ⟨gb598, 1, none⟩ = some (.slice A0_1 l0_1.length c0_1) := (blk_cell BK598.out 1).trans rfl; have hcz26_2 : w24.cell? ⟨gb598, 2, none⟩ = some (.slice A0_2 l0_2.length c0_2) := (blk_cell BK598.out 2).trans rfl; have hcz26_3 : w24.cell? ⟨gb598, 3, none⟩ = some (.slice A0_3 l0_3.length c0_3) := (blk_cell BK598.out 3).trans rfl; have hcz26_4 : w24.cell? ⟨gb598, 4, none⟩ = some (.slice A0_4 l0_4.length c0_4) := (blk_cell BK598.out 4).trans rfl; have hcz26_5 : w24.cell? ⟨gb598, 5, none⟩ = some (.slice A0_5 l0_5.length c0_5) := (blk_cell BK598.out 5).trans rfl; have hfz26_0 := blk_frozen BK598.out 0; have hfz26_1 := blk_frozen BK598.out 1; have hfz26_2 := blk_frozen BK598.out 2; have hfz26_3 := blk_frozen BK598.out 3; have hfz26_4 := blk_frozen BK598.out 4; have hfz26_5 := blk_frozen BK598.out 5) | (go_at_call 108; (with_reducible refine (inquestref03_values.calls k _ _ l1_1 (l0_1.length : Int) true _ ?side1 ?side2 A19.out).mono ?_); (case side1 => exact (Kd.C_below HR1_1.out HB.out)); (case side2 => exact HC1_1.out); rintro e w' ⟨rfl, ⟨nd, rfl⟩⟩; (try first | exact ⟨rfl, _, World.drewN_drewN _ _ _⟩ | exact ⟨rfl, _, Eq.trans (World.drewN_drewN _ _ _) (congrArg (World.drewN _) (Nat.add_assoc _ _ _))⟩)))
       repeat (go_quiet (fail); try go_wp2)
       go_meet
       case rel => exact ⟨_, (true), (by first | rfl | (simp; done) | (simp [*]; done)), H', ⟨by first | omega | exact Nat.le_refl _⟩, ⟨by (with_reducible repeat (first | refine blk_drewN ?_ _ | refine blk_drew ?_ | refine blk_alloc ?_ _)); exact BK598.out⟩, ⟨by (with_reducible repeat (first | refine blk_drewN ?_ _ | refine blk_drew ?_ | refine blk_alloc ?_ _)); exact BK599.out⟩, ⟨by repeat (first | (with_reducible first | exact HB.out | apply below_alloc | apply pw_below_drewN | apply below_drew1 | refine below_set ?_ GE598.out | refine below_set ?_ GE599.out) | exact HB.out)⟩⟩
      ·
       rw [if_neg c21] at H
       have c21b0 : decide ((l1_2.length : Int) < 1) = false := decide_eq_false c21
       have c21b1 : decide (l1_2.length < 1) = false := decide_eq_false (by omega)
       clear c21
       have H' := Aside0.mk H
       clear H
       have hnb27 := NB598_599.out
       have hnc27 := NB599_598.out
       have hcz28_0 : w5.cell? ⟨gb598, 0, none⟩ = some (.int .i64 a0_0) := (blk_cell BK598.out 0).trans rfl
       have hcz28_1 : w5.cell? ⟨gb598, 1, none⟩ = some (.slice A0_1 l0_1.length c0_1) := (blk_cell BK598.out 1).trans rfl
       have hcz28_2 : w5.cell? ⟨gb598, 2, none⟩ = some (.slice A0_2 l0_2.length c0_2) := (blk_cell BK598.out 2).trans rfl
       have hcz28_3 : w5.cell? ⟨gb598, 3, none⟩ = some (.slice A0_3 l0_3.length c0_3) := (blk_cell BK598.out 3).trans rfl
       have hcz28_4 : w5.cell? ⟨gb598, 4, none⟩ = some (.slice A0_4 l0_4.length c0_4) := (blk_cell BK598.out 4).trans rfl
       have hcz28_5 : w5.cell? ⟨gb598, 5, none⟩ = some (.slice A0_5 l0_5.length c0_5) := (blk_cell BK598.out 5).trans rfl
       have hfz28_0 := blk_frozen BK598.out 0
       have hfz28_1 := blk_frozen BK598.out 1
       have hfz28_2 := blk_frozen BK598.out 2
       have hfz28_3 := blk_frozen BK598.out 3
       have hfz28_4 := blk_frozen BK598.out 4
       have hfz28_5 := blk_frozen BK598.out 5
       go_wp2_with (first | (go_at_call 26; (with_reducible refine (inquestref03_May.calls k a0_0 _ _ l0_1 _ _ l0_2 _ _ l0_3 _ _ l0_4 _ _ l0_5 true _ ?side1 ?side2 ?side3 ?side4 ?side5 ?side6 ?side7 ?side8 ?side9 ?side10 A6.out).mono ?_); (case side1 => exact (Kd.C_below HR0_1.out HB.out)); (case side2 => exact HC0_1.out); (case side3 => exact (Kd.C_below HR0_2.out HB.out)); (case side4 => exact HC0_2.out); (case side5 => exact (Kd.C_below HR0_3.out HB.out)); (case side6 => exact HC0_3.out); (case side7 => exact (Kd.C_below HR0_4.out HB.out)); (case side8 => exact HC0_4.out); (case side9 => exact (Kd.C_below HR0_5.out HB.out)); (case side10 => exact HC0_5.out); rintro e w29 ⟨rfl, hb⟩; have n0_ := Aside0.mk (blk_below (g := gb598) (o := .cells #[.int .i64 a0_0, .slice A0_1 l0_1.length c0_1, .slice A0_2 l0_2.length c0_2, .slice A0_3 l0_3.length c0_3, .slice A0_4 l0_4.length c0_4, .slice A0_5 l0_5.length c0_5] 26 (0, 0)) (by exact BK598.out) hb); have n1_ := Aside0.mk (blk_below (g := gb599) (o := .cells #[.int .i64 a1_0, .slice A1_1 l1_1.length c1_1, .slice A1_2 l1_2.length c1_2] 31 (0, 0)) (by exact BK599.out) hb); have n2_ := Aside0.mk (below_step (by exact HB.out) hb); clear BK598; clear BK599; clear HB; have BK598 := n0_; have BK599 := n1_; have HB := n2_; clear n0_ n1_ n2_; (try clear hb); (try clear hb2); (try clear hk); (try clear hi); have hcz30_0 : w29.cell? ⟨gb599, 0, none⟩ = some (.int .i64 a1_0) := (blk_cell BK599.out 0).trans rfl; have hcz30_1 : w29.cell? ⟨gb599, 1, none⟩ = some (.slice A1_1 l1_1.length c1_1) := (blk_cell BK599.out 1).trans rfl; have hcz30_2 : w29.cell? ⟨gb599, 2, none⟩ = some (.slice A1_2 l1_2.length c1_2) := (blk_cell BK599.out 2).trans rfl; have hfz30_0 := blk_frozen BK599.out 0; have hfz30_1 := blk_frozen BK599.out 1; have hfz30_2 := blk_frozen BK599.out 2; have hcz31_0 : w29.cell? ⟨gb598, 0, none⟩ = some (.int .i64 a0_0) := (blk_cell BK598.out 0).trans rfl; have hcz31_1 : w29.cell? ⟨gb598, 1, none⟩ = some (.slice A0_1 l0_1.length c0_1) := (blk_cell BK598.out 1).trans rfl; have hcz31_2 : w29.cell? ⟨gb598, 2, none⟩ = some (.slice A0_2 l0_2.length c0_2) := (blk_cell BK598.out 2).trans rfl; have hcz31_3 : w29.cell? ⟨gb598, 3, none⟩ = some (.slice A0_3 l0_3.length c0_3) := (blk_cell BK598.out 3).trans rfl; have hcz31_4 : w29.cell? ⟨gb598, 4, none⟩ = some (.slice A0_4 l0_4.length c0_4) := (blk_cell BK598.out 4).trans rfl; have hcz31_5 : w29.cell? ⟨gb598, 5, none⟩ = some (.slice A0_5 l0_5.length c0_5) := (blk_cell BK598.out 5).trans rfl; have hfz31_0 := blk_frozen BK598.out 0; have hfz31_1 := blk_frozen BK598.out 1; have hfz31_2 := blk_frozen BK598.out 2; have hfz31_3 := blk_frozen BK598.out 3; have hfz31_4 := blk_frozen BK598.out 4; have hfz31_5 := blk_frozen BK598.out 5) | (go_at_call 108; (with_reducible refine (inquestref03_values.calls k _ _ l1_1 (l0_1.length : Int) true _ ?side1 ?side2 A19.out).mono ?_); (case side1 => exact (Kd.C_below HR1_1.out HB.out)); (case side2 => exact HC1_1.out); rintro e w' ⟨rfl, ⟨nd, rfl⟩⟩; (try first | exact ⟨rfl, _, World.drewN_drewN _ _ _⟩ | exact ⟨rfl, _, Eq.trans (World.drewN_drewN _ _ _) (congrArg (World.drewN _) (Nat.add_assoc _ _ _))⟩)))
       repeat (go_quiet (fail); try go_wp2)
       go_meet
       case rel => exact ⟨_, (decide ((l1_2.length : Int) > 256)), (by first | rfl | (simp; done) | (simp [*]; done)), H', ⟨by first | omega | exact Nat.le_refl _⟩, ⟨by (with_reducible repeat (first | refine blk_drewN ?_ _ | refine blk_drew ?_ | refine blk_alloc ?_ _)); exact BK598.out⟩, ⟨by (with_reducible repeat (first | refine blk_drewN ?_ _ | refine blk_drew ?_ | refine blk_alloc ?_ _)); exact BK599.out⟩, ⟨by repeat (first | (with_reducible first | exact HB.out | apply below_alloc | apply pw_below_drewN | apply below_drew1 | refine below_set ?_ GE598.out | refine below_set ?_ GE599.out) | exact HB.out)⟩⟩
     ·
      replace c20 := Bool.eq_false_iff.mpr c20
      subst c20
      have H1 : (inquestref03_Fits.j0 k true a0_0 l0_1 l0_2 l0_3 l0_4 l0_5 a1_0 l1_1 l1_2) = some r := by rw [if_neg (show ¬ (false = true) by decide)] at H; exact H
      clear H
      have H := H1
      clear H1
      have H' := Aside0.mk H
      clear H
      have hnb32 := NB598_599.out
      have hnc32 := NB599_598.out
      have hcz33_0 : w5.cell? ⟨gb598, 0, none⟩ = some (.int .i64 a0_0) := (blk_cell BK598.out 0).trans rfl
      have hcz33_1 : w5.cell? ⟨gb598, 1, none⟩ = some (.slice A0_1 l0_1.length c0_1) := (blk_cell BK598.out 1).trans rfl
      have hcz33_2 : w5.cell? ⟨gb598, 2, none⟩ = some (.slice A0_2 l0_2.length c0_2) := (blk_cell BK598.out 2).trans rfl
      have hcz33_3 : w5.cell? ⟨gb598, 3, none⟩ = some (.slice A0_3 l0_3.length c0_3) := (blk_cell BK598.out 3).trans rfl
      have hcz33_4 : w5.cell? ⟨gb598, 4, none⟩ = some (.slice A0_4 l0_4.length c0_4) := (blk_cell BK598.out 4).trans rfl
      have hcz33_5 : w5.cell? ⟨gb598, 5, none⟩ = some (.slice A0_5 l0_5.length c0_5) := (blk_cell BK598.out 5).trans rfl
      have hfz33_0 := blk_frozen BK598.out 0
      have hfz33_1 := blk_frozen BK598.out 1
      have hfz33_2 := blk_frozen BK598.out 2
      have hfz33_3 := blk_frozen BK598.out 3
      have hfz33_4 := blk_frozen BK598.out 4
      have hfz33_5 := blk_frozen BK598.out 5
      go_wp2_with (first | (go_at_call 26; (with_reducible refine (inquestref03_May.calls k a0_0 _ _ l0_1 _ _ l0_2 _ _ l0_3 _ _ l0_4 _ _ l0_5 true _ ?side1 ?side2 ?side3 ?side4 ?side5 ?side6 ?side7 ?side8 ?side9 ?side10 A6.out).mono ?_); (case side1 => exact (Kd.C_below HR0_1.out HB.out)); (case side2 => exact HC0_1.out); (case side3 => exact (Kd.C_below HR0_2.out HB.out)); (case side4 => exact HC0_2.out); (case side5 => exact (Kd.C_below HR0_3.out HB.out)); (case side6 => exact HC0_3.out); (case side7 => exact (Kd.C_below HR0_4.out HB.out)); (case side8 => exact HC0_4.out); (case side9 => exact (Kd.C_below HR0_5.out HB.out)); (case side10 => exact HC0_5.out); rintro e w34 ⟨rfl, hb⟩; have n0_ := Aside0.mk (blk_below (g := gb598) (o := .cells #[.int .i64 a0_0, .slice A0_1 l0_1.length c0_1, .slice A0_2 l0_2.length c0_2, .slice A0_3 l0_3.length c0_3, .slice A0_4 l0_4.length c0_4, .slice A0_5 l0_5.length c0_5] 26 (0, 0)) (by exact BK598.out) hb); have n1_ := Aside0.mk (blk_below (g := gb599) (o := .cells #[.int .i64 a1_0, .slice A1_1 l1_1.length c1_1, .slice A1_2 l1_2.length c1_2] 31 (0, 0)) (by exact BK599.out) hb); have n2_ := Aside0.mk (below_step (by exact HB.out) hb); clear BK598; clear BK599; clear HB; have BK598 := n0_; have BK599 := n1_; have HB := n2_; clear n0_ n1_ n2_; (try clear hb); (try clear hb2); (try clear hk); (try clear hi); have hcz35_0 : w34.cell? ⟨gb599, 0, none⟩ = some (.int .i64 a1_0) := (blk_cell BK599.out 0).trans rfl; have hcz35_1 : w34.cell? ⟨gb599, 1, none⟩ = some (.slice A1_1 l1_1.length c1_1) := (blk_cell BK599.out 1).trans rfl; have hcz35_2 : w34.cell? ⟨gb599, 2, none⟩ = some (.slice A1_2 l1_2.length c1_2) := (blk_cell BK599.out 2).trans rfl; have hfz35_0 := blk_frozen BK599.out 0; have hfz35_1 := blk_frozen BK599.out 1; have hfz35_2 := blk_frozen BK599.out 2; have hcz36_0 : w34.cell? ⟨gb598, 0, none⟩ = some (.int .i64 a0_0) := (blk_cell BK598.out 0).trans rfl; have hcz36_1 : w34.cell? ⟨gb598, 1, none⟩ = some (.slice A0_1 l0_1.length c0_1) := (blk_cell BK598.out 1).trans rfl; have hcz36_2 : w34.cell? ⟨gb598, 2, none⟩ = some (.slice A0_2 l0_2.length c0_2) := (blk_cell BK598.out 2).trans rfl; have hcz36_3 : w34.cell? ⟨gb598, 3, none⟩ = some (.slice A0_3 l0_3.length c0_3) := (blk_cell BK598.out 3).trans rfl; have hcz36_4 : w34.cell? ⟨gb598, 4, none⟩ = some (.slice A0_4 l0_4.length c0_4) := (blk_cell BK598.out 4).trans rfl; have hcz36_5 : w34.cell? ⟨gb598, 5, none⟩ = some (.slice A0_5 l0_5.length c0_5) := (blk_cell BK598.out 5).trans rfl; have hfz36_0 := blk_frozen BK598.out 0; have hfz36_1 := blk_frozen BK598.out 1; have hfz36_2 := blk_frozen BK598.out 2; have hfz36_3 := blk_frozen BK598.out 3; have hfz36_4 := blk_frozen BK598.out 4; have hfz36_5 := blk_frozen BK598.out 5) | (go_at_call 108; (with_reducible refine (inquestref03_values.calls k _ _ l1_1 (l0_1.length : Int) false _ ?side1 ?side2 A19.out).mono ?_); (case side1 => exact (Kd.C_below HR1_1.out HB.out)); (case side2 => exact HC1_1.out); rintro e w' ⟨rfl, ⟨nd, rfl⟩⟩; (try first | exact ⟨rfl, _, World.drewN_drewN _ _ _⟩ | exact ⟨rfl, _, Eq.trans (World.drewN_drewN _ _ _) (congrArg (World.drewN _) (Nat.add_assoc _ _ _))⟩)))
      repeat (go_quiet (fail); try go_wp2)
      go_meet
      case rel => exact ⟨_, (true), (by first | rfl | (simp; done) | (simp [*]; done)), H', ⟨by first | omega | exact Nat.le_refl _⟩, ⟨by (with_reducible repeat (first | refine blk_drewN ?_ _ | refine blk_drew ?_ | refine blk_alloc ?_ _)); exact BK598.out⟩, ⟨by (with_reducible repeat (first | refine blk_drewN ?_ _ | refine blk_drew ?_ | refine blk_alloc ?_ _)); exact BK599.out⟩, ⟨by repeat (first | (with_reducible first | exact HB.out | apply below_alloc | apply pw_below_drewN | apply below_drew1 | refine below_set ?_ GE598.out | refine below_set ?_ GE599.out) | exact HB.out)⟩⟩
  ·
   replace c7 := Bool.eq_false_iff.mpr c7
   subst c7
   have H1 : (inquestref03_Fits.j0 k true a0_0 l0_1 l0_2 l0_3 l0_4 l0_5 a1_0 l1_1 l1_2) = some r := by rw [if_neg (show ¬ (false = true) by decide)] at H; exact H
   clear H
   have H := H1
   clear H1
   have H' := Aside0.mk H
   clear H
   have hnb37 := NB598_599.out
   have hnc37 := NB599_598.out
   have hcz38_0 : w5.cell? ⟨gb598, 0, none⟩ = some (.int .i64 a0_0) := (blk_cell BK598.out 0).trans rfl
   have hcz38_1 : w5.cell? ⟨gb598, 1, none⟩ = some (.slice A0_1 l0_1.length c0_1) := (blk_cell BK598.out 1).trans rfl
   have hcz38_2 : w5.cell? ⟨gb598, 2, none⟩ = some (.slice A0_2 l0_2.length c0_2) := (blk_cell BK598.out 2).trans rfl
   have hcz38_3 : w5.cell? ⟨gb598, 3, none⟩ = some (.slice A0_3 l0_3.length c0_3) := (blk_cell BK598.out 3).trans rfl
   have hcz38_4 : w5.cell? ⟨gb598, 4, none⟩ = some (.slice A0_4 l0_4.length c0_4) := (blk_cell BK598.out 4).trans rfl
   have hcz38_5 : w5.cell? ⟨gb598, 5, none⟩ = some (.slice A0_5 l0_5.length c0_5) := (blk_cell BK598.out 5).trans rfl
   have hfz38_0 := blk_frozen BK598.out 0
   have hfz38_1 := blk_frozen BK598.out 1
   have hfz38_2 := blk_frozen BK598.out 2
   have hfz38_3 := blk_frozen BK598.out 3
   have hfz38_4 := blk_frozen BK598.out 4
   have hfz38_5 := blk_frozen BK598.out 5
   go_wp2_with (first | (go_at_call 26; (with_reducible refine (inquestref03_May.calls k a0_0 _ _ l0_1 _ _ l0_2 _ _ l0_3 _ _ l0_4 _ _ l0_5 false _ ?side1 ?side2 ?side3 ?side4 ?side5 ?side6 ?side7 ?side8 ?side9 ?side10 A6.out).mono ?_); (case side1 => exact (Kd.C_below HR0_1.out HB.out)); (case side2 => exact HC0_1.out); (case side3 => exact (Kd.C_below HR0_2.out HB.out)); (case side4 => exact HC0_2.out); (case side5 => exact (Kd.C_below HR0_3.out HB.out)); (case side6 => exact HC0_3.out); (case side7 => exact (Kd.C_below HR0_4.out HB.out)); (case side8 => exact HC0_4.out); (case side9 => exact (Kd.C_below HR0_5.out HB.out)); (case side10 => exact HC0_5.out); rintro e w39 ⟨rfl, hb⟩; have n0_ := Aside0.mk (blk_below (g := gb598) (o := .cells #[.int .i64 a0_0, .slice A0_1 l0_1.length c0_1, .slice A0_2 l0_2.length c0_2, .slice A0_3 l0_3.length c0_3, .slice A0_4 l0_4.length c0_4, .slice A0_5 l0_5.length c0_5] 26 (0, 0)) (by exact BK598.out) hb); have n1_ := Aside0.mk (blk_below (g := gb599) (o := .cells #[.int .i64 a1_0, .slice A1_1 l1_1.length c1_1, .slice A1_2 l1_2.length c1_2] 31 (0, 0)) (by exact BK599.out) hb); have n2_ := Aside0.mk (below_step (by exact HB.out) hb); clear BK598; clear BK599; clear HB; have BK598 := n0_; have BK599 := n1_; have HB := n2_; clear n0_ n1_ n2_; (try clear hb); (try clear hb2); (try clear hk); (try clear hi)))
   repeat (go_quiet (fail); try go_wp2)
   go_meet
   case rel => exact ⟨_, (true), (by first | rfl | (simp; done) | (simp [*]; done)), H', ⟨by first | omega | exact Nat.le_refl _⟩, ⟨by exact BK598.out⟩, ⟨by exact BK599.out⟩, ⟨by exact HB.out⟩⟩
 case rest =>
  clear HC3
  try clear c1
  try clear c2
  try clear p2
  try clear c3
  try clear c4
  try clear c7
  try clear c8
  try clear c8b0
  try clear c9
  try clear c13
  try clear c13b0
  try clear c14
  try clear c20
  try clear c21
  try clear c21b0
  try clear c21b1
  try clear c22
  try clear c27
  try clear c32
  try clear c37
  try clear hcz10_0
  try clear hcz10_1
  try clear hcz10_2
  try clear hcz10_3
  try clear hcz10_4
  try clear hcz10_5
  try clear hcz12_0
  try clear hcz12_1
  try clear hcz12_2
  try clear hcz15_0
  try clear hcz15_1
  try clear hcz15_2
  try clear hcz15_3
  try clear hcz15_4
  try clear hcz15_5
  try clear hcz17_0
  try clear hcz17_1
  try clear hcz17_2
  try clear hcz18_0
  try clear hcz18_1
  try clear hcz18_2
  try clear hcz18_3
  try clear hcz18_4
  try clear hcz18_5
  try clear hcz23_0
  try clear hcz23_1
  try clear hcz23_2
  try clear hcz23_3
  try clear hcz23_4
  try clear hcz23_5
  try clear hcz25_0
  try clear hcz25_1
  try clear hcz25_2
  try clear hcz26_0
  try clear hcz26_1
  try clear hcz26_2
  try clear hcz26_3
  try clear hcz26_4
  try clear hcz26_5
  try clear hcz28_0
  try clear hcz28_1
  try clear hcz28_2
  try clear hcz28_3
  try clear hcz28_4
  try clear hcz28_5
  try clear hcz30_0
  try clear hcz30_1
  try clear hcz30_2
  try clear hcz31_0
  try clear hcz31_1
  try clear hcz31_2
  try clear hcz31_3
  try clear hcz31_4
  try clear hcz31_5
  try clear hcz33_0
  try clear hcz33_1
  try clear hcz33_2
  try clear hcz33_3
  try clear hcz33_4
  try clear hcz33_5
  try clear hcz35_0
  try clear hcz35_1
  try clear hcz35_2
  try clear hcz36_0
  try clear hcz36_1
  try clear hcz36_2
  try clear hcz36_3
  try clear hcz36_4
  try clear hcz36_5
  try clear hcz38_0
  try clear hcz38_1
  try clear hcz38_2
  try clear hcz38_3
  try clear hcz38_4
  try clear hcz38_5
  try clear hfz10_0
  try clear hfz10_1
  try clear hfz10_2
  try clear hfz10_3
  try clear hfz10_4
  try clear hfz10_5
  try clear hfz12_0
  try clear hfz12_1
  try clear hfz12_2
  try clear hfz15_0
  try clear hfz15_1
  try clear hfz15_2
  try clear hfz15_3
  try clear hfz15_4
  try clear hfz15_5
  try clear hfz17_0
  try clear hfz17_1
  try clear hfz17_2
  try clear hfz18_0
  try clear hfz18_1
  try clear hfz18_2
  try clear hfz18_3
  try clear hfz18_4
  try clear hfz18_5
  try clear hfz23_0
  try clear hfz23_1
  try clear hfz23_2
  try clear hfz23_3
  try clear hfz23_4
  try clear hfz23_5
  try clear hfz25_0
  try clear hfz25_1
  try clear hfz25_2
  try clear hfz26_0
  try clear hfz26_1
  try clear hfz26_2
  try clear hfz26_3
  try clear hfz26_4
  try clear hfz26_5
  try clear hfz28_0
  try clear hfz28_1
  try clear hfz28_2
  try clear hfz28_3
  try clear hfz28_4
  try clear hfz28_5
  try clear hfz30_0
  try clear hfz30_1
  try clear hfz30_2
  try clear hfz31_0
  try clear hfz31_1
  try clear hfz31_2
  try clear hfz31_3
  try clear hfz31_4
  try clear hfz31_5
  try clear hfz33_0
  try clear hfz33_1
  try clear hfz33_2
  try clear hfz33_3
  try clear hfz33_4
  try clear hfz33_5
  try clear hfz35_0
  try clear hfz35_1
  try clear hfz35_2
  try clear hfz36_0
  try clear hfz36_1
  try clear hfz36_2
  try clear hfz36_3
  try clear hfz36_4
  try clear hfz36_5
  try clear hfz38_0
  try clear hfz38_1
  try clear hfz38_2
  try clear hfz38_3
  try clear hfz38_4
  try clear hfz38_5
  obtain ⟨kq, x43_2, rfl, HA, HJ2, BK598, BK599, HB⟩ := hcut
  cases kq with
  | zero => exact absurd HA.out (by simp [inquestref03_Fits.j0])
  | succ kj2 =>
   have H := HA.out
   clear HA
   simp only [inquestref03_Fits.j0] at H
   by_cases c40 : x43_2 = true
   ·
    subst c40
    have H1 : (some false) = some r := by rw [if_pos rfl] at H; exact H
    clear H
    have H := H1
    clear H1
    obtain rfl := Option.some.inj H
    go_wp2
    repeat (go_quiet (fail); try go_wp2)
    go_ret
    exact ⟨by first | rfl | (simp [errW_none, errW_some] <;> rfl) | (simp [*, errW_none, errW_some] <;> rfl), by exact HB.out⟩
   ·
    replace c40 := Bool.eq_false_iff.mpr c40
    subst c40
    have H1 : (inquestref03_Fits.l0 kj2 0 a0_0 l0_1 l0_2 l0_3 l0_4 l0_5 a1_0 l1_1 l1_2) = some r := by rw [if_neg (show ¬ (false = true) by decide)] at H; exact H
    clear H
    have H := H1
    clear H1
    have H' := Aside0.mk H
    clear H
    go_wp2
    repeat (go_quiet (fail); try go_wp2)
    go_loopg [5] kj2 (fun kq v5 w' => ∃ (x5_2 : Int), v5 = .int .i64 x5_2 ∧ Aside0 (inquestref03_Fits.l0 kq x5_2 a0_0 l0_1 l0_2 l0_3 l0_4 l0_5 a1_0 l1_1 l1_2 = some r) ∧ Aside0 (kq ≤ kj2) ∧ Aside0 (w'.heap[gb598]? = some (.cells #[.int .i64 a0_0, (.slice A0_1 l0_1.length c0_1), (.slice A0_2 l0_2.length c0_2), (.slice A0_3 l0_3.length c0_3), (.slice A0_4 l0_4.length c0_4), (.slice A0_5 l0_5.length c0_5)] 26 (0, 0))) ∧ Aside0 (w'.heap[gb599]? = some (.cells #[.int .i64 a1_0, (.slice A1_1 l1_1.length c1_1), (.slice A1_2 l1_2.length c1_2)] 31 (0, 0))) ∧ Aside0 (Below w.heap.size w w'))
    case atStart => exact ⟨(0), (by first | rfl | (simp; done) | (simp [*]; done)), H', ⟨Nat.le_refl _⟩, ⟨by exact BK598.out⟩, ⟨by exact BK599.out⟩, ⟨by exact HB.out⟩⟩
    case round =>
     clear H'
     try clear c1
     try clear c2
     try clear p2
     try clear c3
     try clear c4
     try clear c7
     try clear c8
     try clear c8b0
     try clear c9
     try clear c13
     try clear c13b0
     try clear c14
     try clear c20
     try clear c21
     try clear c21b0
     try clear c21b1
     try clear c22
     try clear c27
     try clear c32
     try clear c37
     try clear c40
     try clear hcz10_0
     try clear hcz10_1
     try clear hcz10_2
     try clear hcz10_3
     try clear hcz10_4
     try clear hcz10_5
     try clear hcz12_0
     try clear hcz12_1
     try clear hcz12_2
     try clear hcz15_0
     try clear hcz15_1
     try clear hcz15_2
     try clear hcz15_3
     try clear hcz15_4
     try clear hcz15_5
     try clear hcz17_0
     try clear hcz17_1
     try clear hcz17_2
     try clear hcz18_0
     try clear hcz18_1
     try clear hcz18_2
     try clear hcz18_3
     try clear hcz18_4
     try clear hcz18_5
     try clear hcz23_0
     try clear hcz23_1
     try clear hcz23_2
     try clear hcz23_3
     try clear hcz23_4
     try clear hcz23_5
     try clear hcz25_0
     try clear hcz25_1
     try clear hcz25_2
     try clear hcz26_0
     try clear hcz26_1
     try clear hcz26_2
     try clear hcz26_3
     try clear hcz26_4
     try clear hcz26_5
     try clear hcz28_0
     try clear hcz28_1
     try clear hcz28_2
     try clear hcz28_3
     try clear hcz28_4
     try clear hcz28_5
     try clear hcz30_0
     try clear hcz30_1
     try clear hcz30_2
     try clear hcz31_0
     try clear hcz31_1
     try clear hcz31_2
     try clear hcz31_3
     try clear hcz31_4
     try clear hcz31_5
     try clear hcz33_0
     try clear hcz33_1
     try clear hcz33_2
     try clear hcz33_3
     try clear hcz33_4
     try clear hcz33_5
     try clear hcz35_0
     try clear hcz35_1
     try clear hcz35_2
     try clear hcz36_0
     try clear hcz36_1
     try clear hcz36_2
     try clear hcz36_3
     try clear hcz36_4
     try clear hcz36_5
     try clear hcz38_0
     try clear hcz38_1
     try clear hcz38_2
     try clear hcz38_3
     try clear hcz38_4
     try clear hcz38_5
     try clear hfz10_0
     try clear hfz10_1
     try clear hfz10_2
     try clear hfz10_3
     try clear hfz10_4
     try clear hfz10_5
     try clear hfz12_0
     try clear hfz12_1
     try clear hfz12_2
     try clear hfz15_0
     try clear hfz15_1
     try clear hfz15_2
     try clear hfz15_3
     try clear hfz15_4
     try clear hfz15_5
     try clear hfz17_0
     try clear hfz17_1
     try clear hfz17_2
     try clear hfz18_0
     try clear hfz18_1
     try clear hfz18_2
     try clear hfz18_3
     try clear hfz18_4
     try clear hfz18_5
     try clear hfz23_0
     try clear hfz23_1
     try clear hfz23_2
     try clear hfz23_3
     try clear hfz23_4
     try clear hfz23_5
     try clear hfz25_0
     try clear hfz25_1
     try clear hfz25_2
     try clear hfz26_0
     try clear hfz26_1
     try clear hfz26_2
     try clear hfz26_3
     try clear hfz26_4
     try clear hfz26_5
     try clear hfz28_0
     try clear hfz28_1
     try clear hfz28_2
     try clear hfz28_3
     try clear hfz28_4
     try clear hfz28_5
     try clear hfz30_0
     try clear hfz30_1
     try clear hfz30_2
     try clear hfz31_0
     try clear hfz31_1
     try clear hfz31_2
     try clear hfz31_3
     try clear hfz31_4
     try clear hfz31_5
     try clear hfz33_0
     try clear hfz33_1
     try clear hfz33_2
     try clear hfz33_3
     try clear hfz33_4
     try clear hfz33_5
     try clear hfz35_0
     try clear hfz35_1
     try clear hfz35_2
     try clear hfz36_0
     try clear hfz36_1
     try clear hfz36_2
     try clear hfz36_3
     try clear hfz36_4
     try clear hfz36_5
     try clear hfz38_0
     try clear hfz38_1
     try clear hfz38_2
     try clear hfz38_3
     try clear hfz38_4
     try clear hfz38_5
     try clear p2
     obtain ⟨x5_2, rfl, HA, HK2, BK598, BK599, HB⟩ := hrel
     cases gk with
     | zero => exact absurd HA.out (by simp [inquestref03_Fits.l0])
     | succ k2 =>
      have H := HA.out
      clear HA
      simp only [inquestref03_Fits.l0] at H
      by_cases c41 : x5_2 < (l1_2.length : Int)
      ·
       rw [if_pos c41] at H
       have c41b0 : decide (x5_2 < (l1_2.length : Int)) = true := decide_eq_true c41
       clear c41
       by_cases c42 : 0 ≤ x5_2
       ·
        rw [if_pos c42] at H
        have c42b0 : decide (0 ≤ x5_2) = true := decide_eq_true c42
        clear c42
        replace H := Option.bind_eq_some_iff.mp H
        obtain ⟨t603, A430, H⟩ := H
        replace H : (if t603 = true then (inquestref03_Fits.l0 k2 (wrap64 (x5_2 + 1)) a0_0 l0_1 l0_2 l0_3 l0_4 l0_5 a1_0 l1_1 l1_2) else (some false)) = some r := H
        have A43 := Aside0.mk A430
        clear A430
        by_cases c44 : t603 = true
        ·
         subst c44
         have H1 : (inquestref03_Fits.l0 k2 (wrap64 (x5_2 + 1)) a0_0 l0_1 l0_2 l0_3 l0_4 l0_5 a1_0 l1_1 l1_2) = some r := by rw [if_pos rfl] at H; exact H
         clear H
         have H := H1
         clear H1
         have H' := Aside0.mk H
         clear H
         have hnb45 := NB599_598.out
         have hnc45 := NB598_599.out
         have hcz46_0 : wr.cell? ⟨gb599, 0, none⟩ = some (.int .i64 a1_0) := (blk_cell BK599.out 0).trans rfl
         have hcz46_1 : wr.cell? ⟨gb599, 1, none⟩ = some (.slice A1_1 l1_1.length c1_1) := (blk_cell BK599.out 1).trans rfl
         have hcz46_2 : wr.cell? ⟨gb599, 2, none⟩ = some (.slice A1_2 l1_2.length c1_2) := (blk_cell BK599.out 2).trans rfl
         have hfz46_0 := blk_frozen BK599.out 0
         have hfz46_1 := blk_frozen BK599.out 1
         have hfz46_2 := blk_frozen BK599.out 2
         have p602 : 0 ≤ (x5_2 : Int) := of_decide_eq_true (by first | (with_reducible assumption) | assumption)
         have q602 : x5_2 < (l1_2.length : Int) := of_decide_eq_true (by first | (with_reducible assumption) | assumption)
         obtain ⟨ad602, A602_0, c602_0, e602, hx602_0, hl602_0, hi602_0⟩ := at_L9 HR1_2.out x5_2 p602 q602
         cases e602
         replace hx602_0 := (HB.out.cell (World.block_lt_of_cell? w _ hx602_0)).trans hx602_0
         have HR602_0 := Aside0.mk hi602_0
         have HC602_0 := Aside0.mk hl602_0
         clear hi602_0 hl602_0
         replace p602 := eq_true p602
         replace q602 := eq_true q602
         have hcz47_0 : wr.cell? ⟨gb598, 0, none⟩ = some (.int .i64 a0_0) := (blk_cell BK598.out 0).trans rfl
         have hcz47_1 : wr.cell? ⟨gb598, 1, none⟩ = some (.slice A0_1 l0_1.length c0_1) := (blk_cell BK598.out 1).trans rfl
         have hcz47_2 : wr.cell? ⟨gb598, 2, none⟩ = some (.slice A0_2 l0_2.length c0_2) := (blk_cell BK598.out 2).trans rfl
         have hcz47_3 : wr.cell? ⟨gb598, 3, none⟩ = some (.slice A0_3 l0_3.length c0_3) := (blk_cell BK598.out 3).trans rfl
         have hcz47_4 : wr.cell? ⟨gb598, 4, none⟩ = some (.slice A0_4 l0_4.length c0_4) := (blk_cell BK598.out 4).trans rfl
         have hcz47_5 : wr.cell? ⟨gb598, 5, none⟩ = some (.slice A0_5 l0_5.length c0_5) := (blk_cell BK598.out 5).trans rfl
         have hfz47_0 := blk_frozen BK598.out 0
         have hfz47_1 := blk_frozen BK598.out 1
         have hfz47_2 := blk_frozen BK598.out 2
         have hfz47_3 := blk_frozen BK598.out 3
         have hfz47_4 := blk_frozen BK598.out 4
         have hfz47_5 := blk_frozen BK598.out 5
         go_wp2_with (first | (go_at_call 108; (with_reducible refine (inquestref03_values.calls k2 _ _ (rd_L9 l1_2 x5_2) a0_0 true _ ?side1 ?side2 A43.out).mono ?_); (case side1 => repeat (first | exact (Kd.C_below HR602_0.out HB.out) | (with_reducible refine Kd.C_alloc ?_ _) | (with_reducible refine Kd.C_drewN ?_ _) | (with_reducible refine Kd.C_drew ?_))); (case side2 => exact HC602_0.out); rintro e w' ⟨rfl, ⟨nd, rfl⟩⟩; (try first | exact ⟨rfl, _, World.drewN_drewN _ _ _⟩ | exact ⟨rfl, _, Eq.trans (World.drewN_drewN _ _ _) (congrArg (World.drewN _) (Nat.add_assoc _ _ _))⟩)))
         repeat (go_quiet (first | (go_at_call 108; (with_reducible refine (inquestref03_values.calls k2 _ _ (rd_L9 l1_2 x5_2) a0_0 true _ ?side1 ?side2 A43.out).mono ?_); (case side1 => repeat (first | exact (Kd.C_below HR602_0.out HB.out) | (with_reducible refine Kd.C_alloc ?_ _) | (with_reducible refine Kd.C_drewN ?_ _) | (with_reducible refine Kd.C_drew ?_))); (case side2 => exact HC602_0.out); rintro e w' ⟨rfl, ⟨nd, rfl⟩⟩; (try first | exact ⟨rfl, _, World.drewN_drewN _ _ _⟩ | exact ⟨rfl, _, Eq.trans (World.drewN_drewN _ _ _) (congrArg (World.drewN _) (Nat.add_assoc _ _ _))⟩))); try go_wp2_with (first | (go_at_call 108; (with_reducible refine (inquestref03_values.calls k2 _ _ (rd_L9 l1_2 x5_2) a0_0 true _ ?side1 ?side2 A43.out).mono ?_); (case side1 => repeat (first | exact (Kd.C_below HR602_0.out HB.out) | (with_reducible refine Kd.C_alloc ?_ _) | (with_reducible refine Kd.C_drewN ?_ _) | (with_reducible refine Kd.C_drew ?_))); (case side2 => exact HC602_0.out); rintro e w' ⟨rfl, ⟨nd, rfl⟩⟩; (try first | exact ⟨rfl, _, World.drewN_drewN _ _ _⟩ | exact ⟨rfl, _, Eq.trans (World.drewN_drewN _ _ _) (congrArg (World.drewN _) (Nat.add_assoc _ _ _))⟩))))
         go_roundg k2
         case measure => have := HJ2.out; have := HK2.out; omega
         case rel => exact ⟨(wrap64 (x5_2 + 1)), (by first | rfl | (simp; done) | (simp [*]; done)), H', ⟨by have := HJ2.out; have := HK2.out; omega⟩, ⟨by (with_reducible repeat (first | refine blk_drewN ?_ _ | refine blk_drew ?_ | refine blk_alloc ?_ _)); exact BK598.out⟩, ⟨by (with_reducible repeat (first | refine blk_drewN ?_ _ | refine blk_drew ?_ | refine blk_alloc ?_ _)); exact BK599.out⟩, ⟨by repeat (first | (with_reducible first | exact HB.out | apply below_alloc | apply pw_below_drewN | apply below_drew1 | refine below_set ?_ GE598.out | refine below_set ?_ GE599.out) | exact HB.out)⟩⟩
        ·
         replace c44 := Bool.eq_false_iff.mpr c44
         subst c44
         have H1 : (some false) = some r := by rw [if_neg (show ¬ (false = true) by decide)] at H; exact H
         clear H
         have H := H1
         clear H1
         obtain rfl := Option.some.inj H
         have hnb48 := NB599_598.out
         have hnc48 := NB598_599.out
         have hcz49_0 : wr.cell? ⟨gb599, 0, none⟩ = some (.int .i64 a1_0) := (blk_cell BK599.out 0).trans rfl
         have hcz49_1 : wr.cell? ⟨gb599, 1, none⟩ = some (.slice A1_1 l1_1.length c1_1) := (blk_cell BK599.out 1).trans rfl
         have hcz49_2 : wr.cell? ⟨gb599, 2, none⟩ = some (.slice A1_2 l1_2.length c1_2) := (blk_cell BK599.out 2).trans rfl
         have hfz49_0 := blk_frozen BK599.out 0
         have hfz49_1 := blk_frozen BK599.out 1
         have hfz49_2 := blk_frozen BK599.out 2
         have p602 : 0 ≤ (x5_2 : Int) := of_decide_eq_true (by first | (with_reducible assumption) | assumption)
         have q602 : x5_2 < (l1_2.length : Int) := of_decide_eq_true (by first | (with_reducible assumption) | assumption)
         obtain ⟨ad602, A602_0, c602_0, e602, hx602_0, hl602_0, hi602_0⟩ := at_L9 HR1_2.out x5_2 p602 q602
         cases e602
         replace hx602_0 := (HB.out.cell (World.block_lt_of_cell? w _ hx602_0)).trans hx602_0
         have HR602_0 := Aside0.mk hi602_0
         have HC602_0 := Aside0.mk hl602_0
         clear hi602_0 hl602_0
         replace p602 := eq_true p602
         replace q602 := eq_true q602
         have hcz50_0 : wr.cell? ⟨gb598, 0, none⟩ = some (.int .i64 a0_0) := (blk_cell BK598.out 0).trans rfl
         have hcz50_1 : wr.cell? ⟨gb598, 1, none⟩ = some (.slice A0_1 l0_1.length c0_1) := (blk_cell BK598.out 1).trans rfl
         have hcz50_2 : wr.cell? ⟨gb598, 2, none⟩ = some (.slice A0_2 l0_2.length c0_2) := (blk_cell BK598.out 2).trans rfl
         have hcz50_3 : wr.cell? ⟨gb598, 3, none⟩ = some (.slice A0_3 l0_3.length c0_3) := (blk_cell BK598.out 3).trans rfl
         have hcz50_4 : wr.cell? ⟨gb598, 4, none⟩ = some (.slice A0_4 l0_4.length c0_4) := (blk_cell BK598.out 4).trans rfl
         have hcz50_5 : wr.cell? ⟨gb598, 5, none⟩ = some (.slice A0_5 l0_5.length c0_5) := (blk_cell BK598.out 5).trans rfl
         have hfz50_0 := blk_frozen BK598.out 0
         have hfz50_1 := blk_frozen BK598.out 1
         have hfz50_2 := blk_frozen BK598.out 2
         have hfz50_3 := blk_frozen BK598.out 3
         have hfz50_4 := blk_frozen BK598.out 4
         have hfz50_5 := blk_frozen BK598.out 5
         go_wp2_with (first | (go_at_call 108; (with_reducible refine (inquestref03_values.calls k2 _ _ (rd_L9 l1_2 x5_2) a0_0 false _ ?side1 ?side2 A43.out).mono ?_); (case side1 => repeat (first | exact (Kd.C_below HR602_0.out HB.out) | (with_reducible refine Kd.C_alloc ?_ _) | (with_reducible refine Kd.C_drewN ?_ _) | (with_reducible refine Kd.C_drew ?_))); (case side2 => exact HC602_0.out); rintro e w' ⟨rfl, ⟨nd, rfl⟩⟩; (try first | exact ⟨rfl, _, World.drewN_drewN _ _ _⟩ | exact ⟨rfl, _, Eq.trans (World.drewN_drewN _ _ _) (congrArg (World.drewN _) (Nat.add_assoc _ _ _))⟩)))
         repeat (go_quiet (first | (go_at_call 108; (with_reducible refine (inquestref03_values.calls k2 _ _ (rd_L9 l1_2 x5_2) a0_0 false _ ?side1 ?side2 A43.out).mono ?_); (case side1 => repeat (first | exact (Kd.C_below HR602_0.out HB.out) | (with_reducible refine Kd.C_alloc ?_ _) | (with_reducible refine Kd.C_drewN ?_ _) | (with_reducible refine Kd.C_drew ?_))); (case side2 => exact HC602_0.out); rintro e w' ⟨rfl, ⟨nd, rfl⟩⟩; (try first | exact ⟨rfl, _, World.drewN_drewN _ _ _⟩ | exact ⟨rfl, _, Eq.trans (World.drewN_drewN _ _ _) (congrArg (World.drewN _) (Nat.add_assoc _ _ _))⟩))); try go_wp2_with (first | (go_at_call 108; (with_reducible refine (inquestref03_values.calls k2 _ _ (rd_L9 l1_2 x5_2) a0_0 false _ ?side1 ?side2 A43.out).mono ?_); (case side1 => repeat (first | exact (Kd.C_below HR602_0.out HB.out) | (with_reducible refine Kd.C_alloc ?_ _) | (with_reducible refine Kd.C_drewN ?_ _) | (with_reducible refine Kd.C_drew ?_))); (case side2 => exact HC602_0.out); rintro e w' ⟨rfl, ⟨nd, rfl⟩⟩; (try first | exact ⟨rfl, _, World.drewN_drewN _ _ _⟩ | exact ⟨rfl, _, Eq.trans (World.drewN_drewN _ _ _) (congrArg (World.drewN _) (Nat.add_assoc _ _ _))⟩))))
         go_ret
         exact ⟨by first | rfl | (simp [errW_none, errW_some] <;> rfl) | (simp [*, errW_none, errW_some] <;> rfl), by repeat (first | (with_reducible first | exact HB.out | apply below_alloc | apply pw_below_drewN | apply below_drew1 | refine below_set ?_ GE598.out | refine below_set ?_ GE599.out) | exact HB.out)⟩
       ·
        rw [if_neg c42] at H
        exact absurd H (by simp)
      ·
       rw [if_neg c41] at H
       have c41b0 : decide (x5_2 < (l1_2.length : Int)) = false := decide_eq_false c41
       clear c41
       have H' := Aside0.mk H
       clear H
       have hnb51 := NB599_598.out
       have hnc51 := NB598_599.out
       have hcz52_0 : wr.cell? ⟨gb599, 0, none⟩ = some (.int .i64 a1_0) := (blk_cell BK599.out 0).trans rfl
       have hcz52_1 : wr.cell? ⟨gb599, 1, none⟩ = some (.slice A1_1 l1_1.length c1_1) := (blk_cell BK599.out 1).trans rfl
       have hcz52_2 : wr.cell? ⟨gb599, 2, none⟩ = some (.slice A1_2 l1_2.length c1_2) := (blk_cell BK599.out 2).trans rfl
       have hfz52_0 := blk_frozen BK599.out 0
       have hfz52_1 := blk_frozen BK599.out 1
       have hfz52_2 := blk_frozen BK599.out 2
       go_wp2
       repeat (go_quiet (fail); try go_wp2)
       go_loopg [6] k2 (fun kq v6 w' => ∃ (x6_3 : Int), v6 = .int .i64 x6_3 ∧ Aside0 (inquestref03_Fits.l1 kq x6_3 a0_0 l0_1 l0_2 l0_3 l0_4 l0_5 a1_0 l1_1 l1_2 = some r) ∧ Aside0 (kq ≤ k2) ∧ Aside0 (w'.heap[gb598]? = some (.cells #[.int .i64 a0_0, (.slice A0_1 l0_1.length c0_1), (.slice A0_2 l0_2.length c0_2), (.slice A0_3 l0_3.length c0_3), (.slice A0_4 l0_4.length c0_4), (.slice A0_5 l0_5.length c0_5)] 26 (0, 0))) ∧ Aside0 (w'.heap[gb599]? = some (.cells #[.int .i64 a1_0, (.slice A1_1 l1_1.length c1_1), (.slice A1_2 l1_2.length c1_2)] 31 (0, 0))) ∧ Aside0 (Below w.heap.size w w'))
       case atStart => exact ⟨(0), (by first | rfl | (simp; done) | (simp [*]; done)), H', ⟨Nat.le_refl _⟩, ⟨by exact BK598.out⟩, ⟨by exact BK599.out⟩, ⟨by exact HB.out⟩⟩
       case round =>
        clear H'
        try clear c1
        try clear c2
        try clear p2
        try clear c3
        try clear c4
        try clear c5
        try clear c6
        try clear p6
        try clear q6
        try clear hx6
        try clear c7
        try clear c8
        try clear c8b0
        try clear c9
        try clear c13
        try clear c13b0
        try clear c14
        try clear c20
        try clear c21
        try clear c21b0
        try clear c21b1
        try clear c22
        try clear c27
        try clear c32
        try clear c37
        try clear c40
        try clear c41
        try clear c41b0
        try clear c42
        try clear c42b0
        try clear c44
        try clear c45
        try clear c48
        try clear c51
        try clear hcz10_0
        try clear hcz10_1
        try clear hcz10_2
        try clear hcz10_3
        try clear hcz10_4
        try clear hcz10_5
        try clear hcz12_0
        try clear hcz12_1
        try clear hcz12_2
        try clear hcz15_0
        try clear hcz15_1
        try clear hcz15_2
        try clear hcz15_3
        try clear hcz15_4
        try clear hcz15_5
        try clear hcz17_0
        try clear hcz17_1
        try clear hcz17_2
        try clear hcz18_0
        try clear hcz18_1
        try clear hcz18_2
        try clear hcz18_3
        try clear hcz18_4
        try clear hcz18_5
        try clear hcz23_0
        try clear hcz23_1
        try clear hcz23_2
        try clear hcz23_3
        try clear hcz23_4
        try clear hcz23_5
        try clear hcz25_0
        try clear hcz25_1
        try clear hcz25_2
        try clear hcz26_0
        try clear hcz26_1
        try clear hcz26_2
        try clear hcz26_3
        try clear hcz26_4
        try clear hcz26_5
        try clear hcz28_0
        try clear hcz28_1
        try clear hcz28_2
        try clear hcz28_3
        try clear hcz28_4
        try clear hcz28_5
        try clear hcz30_0
        try clear hcz30_1
        try clear hcz30_2
        try clear hcz31_0
        try clear hcz31_1
        try clear hcz31_2
        try clear hcz31_3
        try clear hcz31_4
        try clear hcz31_5
        try clear hcz33_0
        try clear hcz33_1
        try clear hcz33_2
        try clear hcz33_3
        try clear hcz33_4
        try clear hcz33_5
        try clear hcz35_0
        try clear hcz35_1
        try clear hcz35_2
        try clear hcz36_0
        try clear hcz36_1
        try clear hcz36_2
        try clear hcz36_3
        try clear hcz36_4
        try clear hcz36_5
        try clear hcz38_0
        try clear hcz38_1
        try clear hcz38_2
        try clear hcz38_3
        try clear hcz38_4
        try clear hcz38_5
        try clear hcz46_0
        try clear hcz46_1
        try clear hcz46_2
        try clear hcz47_0
        try clear hcz47_1
        try clear hcz47_2
        try clear hcz47_3
        try clear hcz47_4
        try clear hcz47_5
        try clear hcz49_0
        try clear hcz49_1
        try clear hcz49_2
        try clear hcz50_0
        try clear hcz50_1
        try clear hcz50_2
        try clear hcz50_3
        try clear hcz50_4
        try clear hcz50_5
        try clear hcz52_0
        try clear hcz52_1
        try clear hcz52_2
        try clear hfz10_0
        try clear hfz10_1
        try clear hfz10_2
        try clear hfz10_3
        try clear hfz10_4
        try clear hfz10_5
        try clear hfz12_0
        try clear hfz12_1
        try clear hfz12_2
        try clear hfz15_0
        try clear hfz15_1
        try clear hfz15_2
        try clear hfz15_3
        try clear hfz15_4
        try clear hfz15_5
        try clear hfz17_0
        try clear hfz17_1
        try clear hfz17_2
        try clear hfz18_0
        try clear hfz18_1
        try clear hfz18_2
        try clear hfz18_3
        try clear hfz18_4
        try clear hfz18_5
        try clear hfz23_0
        try clear hfz23_1
        try clear hfz23_2
        try clear hfz23_3
        try clear hfz23_4
        try clear hfz23_5
        try clear hfz25_0
        try clear hfz25_1
        try clear hfz25_2
        try clear hfz26_0
        try clear hfz26_1
        try clear hfz26_2
        try clear hfz26_3
        try clear hfz26_4
        try clear hfz26_5
        try clear hfz28_0
        try clear hfz28_1
        try clear hfz28_2
        try clear hfz28_3
        try clear hfz28_4
        try clear hfz28_5
        try clear hfz30_0
        try clear hfz30_1
        try clear hfz30_2
        try clear hfz31_0
        try clear hfz31_1
        try clear hfz31_2
        try clear hfz31_3
        try clear hfz31_4
        try clear hfz31_5
        try clear hfz33_0
        try clear hfz33_1
        try clear hfz33_2
        try clear hfz33_3
        try clear hfz33_4
        try clear hfz33_5
        try clear hfz35_0
        try clear hfz35_1
        try clear hfz35_2
        try clear hfz36_0
        try clear hfz36_1
        try clear hfz36_2
        try clear hfz36_3
        try clear hfz36_4
        try clear hfz36_5
        try clear hfz38_0
        try clear hfz38_1
        try clear hfz38_2
        try clear hfz38_3
        try clear hfz38_4
        try clear hfz38_5
        try clear hfz46_0
        try clear hfz46_1
        try clear hfz46_2
        try clear hfz47_0
        try clear hfz47_1
        try clear hfz47_2
        try clear hfz47_3
        try clear hfz47_4
        try clear hfz47_5
        try clear hfz49_0
        try clear hfz49_1
        try clear hfz49_2
        try clear hfz50_0
        try clear hfz50_1
        try clear hfz50_2
        try clear hfz50_3
        try clear hfz50_4
        try clear hfz50_5
        try clear hfz52_0
        try clear hfz52_1
        try clear hfz52_2
        try clear hx602_0
        try clear p2
        try clear p602
        try clear q602
        obtain ⟨x6_3, rfl, HA, HK3, BK598, BK599, HB⟩ := hrel
        cases gk with
        | zero => exact absurd HA.out (by simp [inquestref03_Fits.l1])
        | succ k3 =>
         have H := HA.out
         clear HA
         simp only [inquestref03_Fits.l1] at H
         by_cases c53 : x6_3 < (l1_1.length : Int)
         ·
          rw [if_pos c53] at H
          have c53b0 : decide (x6_3 < (l1_1.length : Int)) = true := decide_eq_true c53
          clear c53
          by_cases c54 : 0 ≤ x6_3
          ·
           rw [if_pos c54] at H
           have c54b0 : decide (0 ≤ x6_3) = true := decide_eq_true c54
           clear c54
           by_cases c55 : x6_3 < (l0_1.length : Int)
           ·
            rw [if_pos c55] at H
            have c55b0 : decide (x6_3 < (l0_1.length : Int)) = true := decide_eq_true c55
            clear c55
            by_cases c56 : ((rd_T41 l0_1 x6_3).f1) = 2
            ·
             rw [if_pos c56] at H
             have c56b0 : (((rd_T41 l0_1 x6_3).f1) == 2) = true := beq_iff_eq.mpr c56
             have c56b1 : (((rd_T41 l0_1 x6_3).f1) != 2) = false := bne_eq_false_iff_eq.mpr c56
             clear c56
             have H' := Aside0.mk H
             clear H
             have hnb57 := NB599_598.out
             have hnc57 := NB598_599.out
             have hcz58_0 : wr.cell? ⟨gb599, 0, none⟩ = some (.int .i64 a1_0) := (blk_cell BK599.out 0).trans rfl
             have hcz58_1 : wr.cell? ⟨gb599, 1, none⟩ = some (.slice A1_1 l1_1.length c1_1) := (blk_cell BK599.out 1).trans rfl
             have hcz58_2 : wr.cell? ⟨gb599, 2, none⟩ = some (.slice A1_2 l1_2.length c1_2) := (blk_cell BK599.out 2).trans rfl
             have hfz58_0 := blk_frozen BK599.out 0
             have hfz58_1 := blk_frozen BK599.out 1
             have hfz58_2 := blk_frozen BK599.out 2
             have hcz59_0 : wr.cell? ⟨gb598, 0, none⟩ = some (.int .i64 a0_0) := (blk_cell BK598.out 0).trans rfl
             have hcz59_1 : wr.cell? ⟨gb598, 1, none⟩ = some (.slice A0_1 l0_1.length c0_1) := (blk_cell BK598.out 1).trans rfl
             have hcz59_2 : wr.cell? ⟨gb598, 2, none⟩ = some (.slice A0_2 l0_2.length c0_2) := (blk_cell BK598.out 2).trans rfl
             have hcz59_3 : wr.cell? ⟨gb598, 3, none⟩ = some (.slice A0_3 l0_3.length c0_3) := (blk_cell BK598.out 3).trans rfl
             have hcz59_4 : wr.cell? ⟨gb598, 4, none⟩ = some (.slice A0_4 l0_4.length c0_4) := (blk_cell BK598.out 4).trans rfl
             have hcz59_5 : wr.cell? ⟨gb598, 5, none⟩ = some (.slice A0_5 l0_5.length c0_5) := (blk_cell BK598.out 5).trans rfl
             have hfz59_0 := blk_frozen BK598.out 0
             have hfz59_1 := blk_frozen BK598.out 1
             have hfz59_2 := blk_frozen BK598.out 2
             have hfz59_3 := blk_frozen BK598.out 3
             have hfz59_4 := blk_frozen BK598.out 4
             have hfz59_5 := blk_frozen BK598.out 5
             have p604 : 0 ≤ (x6_3 : Int) := of_decide_eq_true (by first | (with_reducible assumption) | assumption)
             have q604 : x6_3 < (l0_1.length : Int) := of_decide_eq_true (by first | (with_reducible assumption) | assumption)
             obtain ⟨ad604, e604, hx604_0, hx604_1⟩ := at_T41 HR0_1.out x6_3 p604 q604
             cases e604
             replace hx604_0 := (HB.out.cell (World.block_lt_of_cell? w _ hx604_0)).trans hx604_0
             replace hx604_1 := (HB.out.cell (World.block_lt_of_cell? w _ hx604_1)).trans hx604_1
             replace p604 := eq_true p604
             replace q604 := eq_true q604
             go_wp2
             repeat (go_quiet (fail); try go_wp2)
             go_roundg k3
             case measure => have := HJ2.out; have := HK2.out; have := HK3.out; omega
             case rel => exact ⟨(wrap64 (x6_3 + 1)), (by first | rfl | (simp; done) | (simp [*]; done)), H', ⟨by have := HJ2.out; have := HK2.out; have := HK3.out; omega⟩, ⟨by (with_reducible repeat (first | refine blk_drewN ?_ _ | refine blk_drew ?_ | refine blk_alloc ?_ _)); exact BK598.out⟩, ⟨by (with_reducible repeat (first | refine blk_drewN ?_ _ | refine blk_drew ?_ | refine blk_alloc ?_ _)); exact BK599.out⟩, ⟨by repeat (first | (with_reducible first | exact HB.out | apply below_alloc | apply pw_below_drewN | apply below_drew1 | refine below_set ?_ GE598.out | refine below_set ?_ GE599.out) | exact HB.out)⟩⟩
            ·
             rw [if_neg c56] at H
             have c56b0 : (((rd_T41 l0_1 x6_3).f1) == 2) = false := beq_eq_false_iff_ne.mpr c56
             have c56b1 : (((rd_T41 l0_1 x6_3).f1) != 2) = true := bne_iff_ne.mpr c56
             by_cases c60 : ((rd_T41 l0_1 x6_3).f1) = (rd l1_1 x6_3)
             ·
              rw [if_pos c60] at H
              have c60b0 : (((rd_T41 l0_1 x6_3).f1) == (rd l1_1 x6_3)) = true := beq_iff_eq.mpr c60
              have c60b1 : (((rd_T41 l0_1 x6_3).f1) != (rd l1_1 x6_3)) = false := bne_eq_false_iff_eq.mpr c60
              clear c60
              have H' := Aside0.mk H
              clear H
              have hnb61 := NB599_598.out
              have hnc61 := NB598_599.out
              have hcz62_0 : wr.cell? ⟨gb599, 0, none⟩ = some (.int .i64 a1_0) := (blk_cell BK599.out 0).trans rfl
              have hcz62_1 : wr.cell? ⟨gb599, 1, none⟩ = some (.slice A1_1 l1_1.length c1_1) := (blk_cell BK599.out 1).trans rfl
              have hcz62_2 : wr.cell? ⟨gb599, 2, none⟩ = some (.slice A1_2 l1_2.length c1_2) := (blk_cell BK599.out 2).trans rfl
              have hfz62_0 := blk_frozen BK599.out 0
              have hfz62_1 := blk_frozen BK599.out 1
              have hfz62_2 := blk_frozen BK599.out 2
              have hcz63_0 : wr.cell? ⟨gb598, 0, none⟩ = some (.int .i64 a0_0) := (blk_cell BK598.out 0).trans rfl
              have hcz63_1 : wr.cell? ⟨gb598, 1, none⟩ = some (.slice A0_1 l0_1.length c0_1) := (blk_cell BK598.out 1).trans rfl
              have hcz63_2 : wr.cell? ⟨gb598, 2, none⟩ = some (.slice A0_2 l0_2.length c0_2) := (blk_cell BK598.out 2).trans rfl
              have hcz63_3 : wr.cell? ⟨gb598, 3, none⟩ = some (.slice A0_3 l0_3.length c0_3) := (blk_cell BK598.out 3).trans rfl
              have hcz63_4 : wr.cell? ⟨gb598, 4, none⟩ = some (.slice A0_4 l0_4.length c0_4) := (blk_cell BK598.out 4).trans rfl
              have hcz63_5 : wr.cell? ⟨gb598, 5, none⟩ = some (.slice A0_5 l0_5.length c0_5) := (blk_cell BK598.out 5).trans rfl
              have hfz63_0 := blk_frozen BK598.out 0
              have hfz63_1 := blk_frozen BK598.out 1
              have hfz63_2 := blk_frozen BK598.out 2
              have hfz63_3 := blk_frozen BK598.out 3
              have hfz63_4 := blk_frozen BK598.out 4
              have hfz63_5 := blk_frozen BK598.out 5
              have p604 : 0 ≤ (x6_3 : Int) := of_decide_eq_true (by first | (with_reducible assumption) | assumption)
              have q604 : x6_3 < (l0_1.length : Int) := of_decide_eq_true (by first | (with_reducible assumption) | assumption)
              obtain ⟨ad604, e604, hx604_0, hx604_1⟩ := at_T41 HR0_1.out x6_3 p604 q604
              cases e604
              replace hx604_0 := (HB.out.cell (World.block_lt_of_cell? w _ hx604_0)).trans hx604_0
              replace hx604_1 := (HB.out.cell (World.block_lt_of_cell? w _ hx604_1)).trans hx604_1
              replace p604 := eq_true p604
              replace q604 := eq_true q604
              have p605 : 0 ≤ (x6_3 : Int) := of_decide_eq_true (by first | (with_reducible assumption) | assumption)
              have q605 : x6_3 < (l0_1.length : Int) := of_decide_eq_true (by first | (with_reducible assumption) | assumption)
              obtain ⟨ad605, e605, hx605_0, hx605_1⟩ := at_T41 HR0_1.out x6_3 p605 q605
              obtain rfl : ad604 = ad605 := (by injection e605)
              replace hx605_0 := (HB.out.cell (World.block_lt_of_cell? w _ hx605_0)).trans hx605_0
              replace hx605_1 := (HB.out.cell (World.block_lt_of_cell? w _ hx605_1)).trans hx605_1
              replace p605 := eq_true p605
              replace q605 := eq_true q605
              have p606 : 0 ≤ (x6_3 : Int) := of_decide_eq_true (by first | (with_reducible assumption) | assumption)
              have q606 : x6_3 < (l1_1.length : Int) := of_decide_eq_true (by first | (with_reducible assumption) | assumption)
              obtain ⟨ad606, e606, hx606_0⟩ := Kd.at_int HR1_1.out x6_3 p606 q606
              cases e606
              replace hx606_0 := (HB.out.cell (World.block_lt_of_cell? w _ hx606_0)).trans hx606_0
              replace p606 := eq_true p606
              replace q606 := eq_true q606
              go_wp2
              repeat (go_quiet (fail); try go_wp2)
              go_roundg k3
              case measure => have := HJ2.out; have := HK2.out; have := HK3.out; omega
              case rel => exact ⟨(wrap64 (x6_3 + 1)), (by first | rfl | (simp; done) | (simp [*]; done)), H', ⟨by have := HJ2.out; have := HK2.out; have := HK3.out; omega⟩, ⟨by (with_reducible repeat (first | refine blk_drewN ?_ _ | refine blk_drew ?_ | refine blk_alloc ?_ _)); exact BK598.out⟩, ⟨by (with_reducible repeat (first | refine blk_drewN ?_ _ | refine blk_drew ?_ | refine blk_alloc ?_ _)); exact BK599.out⟩, ⟨by repeat (first | (with_reducible first | exact HB.out | apply below_alloc | apply pw_below_drewN | apply below_drew1 | refine below_set ?_ GE598.out | refine below_set ?_ GE599.out) | exact HB.out)⟩⟩
             ·
              rw [if_neg c60] at H
              have c60b0 : (((rd_T41 l0_1 x6_3).f1) == (rd l1_1 x6_3)) = false := beq_eq_false_iff_ne.mpr c60
              have c60b1 : (((rd_T41 l0_1 x6_3).f1) != (rd l1_1 x6_3)) = true := bne_iff_ne.mpr c60
              obtain rfl := Option.some.inj H
              have hnb64 := NB599_598.out
              have hnc64 := NB598_599.out
              have hcz65_0 : wr.cell? ⟨gb599, 0, none⟩ = some (.int .i64 a1_0) := (blk_cell BK599.out 0).trans rfl
              have hcz65_1 : wr.cell? ⟨gb599, 1, none⟩ = some (.slice A1_1 l1_1.length c1_1) := (blk_cell BK599.out 1).trans rfl
              have hcz65_2 : wr.cell? ⟨gb599, 2, none⟩ = some (.slice A1_2 l1_2.length c1_2) := (blk_cell BK599.out 2).trans rfl
              have hfz65_0 := blk_frozen BK599.out 0
              have hfz65_1 := blk_frozen BK599.out 1
              have hfz65_2 := blk_frozen BK599.out 2
              have hcz66_0 : wr.cell? ⟨gb598, 0, none⟩ = some (.int .i64 a0_0) := (blk_cell BK598.out 0).trans rfl
              have hcz66_1 : wr.cell? ⟨gb598, 1, none⟩ = some (.slice A0_1 l0_1.length c0_1) := (blk_cell BK598.out 1).trans rfl
              have hcz66_2 : wr.cell? ⟨gb598, 2, none⟩ = some (.slice A0_2 l0_2.length c0_2) := (blk_cell BK598.out 2).trans rfl
              have hcz66_3 : wr.cell? ⟨gb598, 3, none⟩ = some (.slice A0_3 l0_3.length c0_3) := (blk_cell BK598.out 3).trans rfl
              have hcz66_4 : wr.cell? ⟨gb598, 4, none⟩ = some (.slice A0_4 l0_4.length c0_4) := (blk_cell BK598.out 4).trans rfl
              have hcz66_5 : wr.cell? ⟨gb598, 5, none⟩ = some (.slice A0_5 l0_5.length c0_5) := (blk_cell BK598.out 5).trans rfl
              have hfz66_0 := blk_frozen BK598.out 0
              have hfz66_1 := blk_frozen BK598.out 1
              have hfz66_2 := blk_frozen BK598.out 2
              have hfz66_3 := blk_frozen BK598.out 3
              have hfz66_4 := blk_frozen BK598.out 4
              have hfz66_5 := blk_frozen BK598.out 5
              have p604 : 0 ≤ (x6_3 : Int) := of_decide_eq_true (by first | (with_reducible assumption) | assumption)
              have q604 : x6_3 < (l0_1.length : Int) := of_decide_eq_true (by first | (with_reducible assumption) | assumption)
              obtain ⟨ad604, e604, hx604_0, hx604_1⟩ := at_T41 HR0_1.out x6_3 p604 q604
              cases e604
              replace hx604_0 := (HB.out.cell (World.block_lt_of_cell? w _ hx604_0)).trans hx604_0
              replace hx604_1 := (HB.out.cell (World.block_lt_of_cell? w _ hx604_1)).trans hx604_1
              replace p604 := eq_true p604
              replace q604 := eq_true q604
              have p605 : 0 ≤ (x6_3 : Int) := of_decide_eq_true (by first | (with_reducible assumption) | assumption)
              have q605 : x6_3 < (l0_1.length : Int) := of_decide_eq_true (by first | (with_reducible assumption) | assumption)
              obtain ⟨ad605, e605, hx605_0, hx605_1⟩ := at_T41 HR0_1.out x6_3 p605 q605
              obtain rfl : ad604 = ad605 := (by injection e605)
              replace hx605_0 := (HB.out.cell (World.block_lt_of_cell? w _ hx605_0)).trans hx605_0
              replace hx605_1 := (HB.out.cell (World.block_lt_of_cell? w _ hx605_1)).trans hx605_1
              replace p605 := eq_true p605
              replace q605 := eq_true q605
              have p606 : 0 ≤ (x6_3 : Int) := of_decide_eq_true (by first | (with_reducible assumption) | assumption)
              have q606 : x6_3 < (l1_1.length : Int) := of_decide_eq_true (by first | (with_reducible assumption) | assumption)
              obtain ⟨ad606, e606, hx606_0⟩ := Kd.at_int HR1_1.out x6_3 p606 q606
              cases e606
              replace hx606_0 := (HB.out.cell (World.block_lt_of_cell? w _ hx606_0)).trans hx606_0
              replace p606 := eq_true p606
              replace q606 := eq_true q606
              go_wp2
              repeat (go_quiet (fail); try go_wp2)
              go_ret
              exact ⟨by first | rfl | (simp [errW_none, errW_some] <;> rfl) | (simp [*, errW_none, errW_some] <;> rfl), by repeat (first | (with_reducible first | exact HB.out | apply below_alloc | apply pw_below_drewN | apply below_drew1 | refine below_set ?_ GE598.out | refine below_set ?_ GE599.out) | exact HB.out)⟩
           ·
            rw [if_neg c55] at H
            exact absurd H (by simp)
          ·
           rw [if_neg c54] at H
           exact absurd H (by simp)
         ·
          rw [if_neg c53] at H
          have c53b0 : decide (x6_3 < (l1_1.length : Int)) = false := decide_eq_false c53
          clear c53
          obtain rfl := Option.some.inj H
          have hnb67 := NB599_598.out
          have hnc67 := NB598_599.out
          have hcz68_0 : wr.cell? ⟨gb599, 0, none⟩ = some (.int .i64 a1_0) := (blk_cell BK599.out 0).trans rfl
          have hcz68_1 : wr.cell? ⟨gb599, 1, none⟩ = some (.slice A1_1 l1_1.length c1_1) := (blk_cell BK599.out 1).trans rfl
          have hcz68_2 : wr.cell? ⟨gb599, 2, none⟩ = some (.slice A1_2 l1_2.length c1_2) := (blk_cell BK599.out 2).trans rfl
          have hfz68_0 := blk_frozen BK599.out 0
          have hfz68_1 := blk_frozen BK599.out 1
          have hfz68_2 := blk_frozen BK599.out 2
          go_wp2
          repeat (go_quiet (fail); try go_wp2)
          go_ret
          exact ⟨by first | rfl | (simp [errW_none, errW_some] <;> rfl) | (simp [*, errW_none, errW_some] <;> rfl), by exact HB.out⟩
end Go.Proofs.Yteiiodlgdbiimaa.F
end
section
namespace Go.Proofs.Yteiiodlgdbiimaa.F
open Go.RowKit Go.Proofs.YteiiodlgdbiimaaW.PrintWords Go.Proofs.YteiiodlgdbiimaaW.PrintLast Go.Proofs.YteiiodlgdbiimaaW.PrintMore
attribute [local go_sem] max2_int min2_int max_two min_two max_three min_three max_four min_four
set_option linter.unusedVariables false
set_option linter.unusedSimpArgs false
def inquestref06_Not1.f (a0 : Int) : Option (Int) := if a0 = 0 then (some 1) else (if a0 = 1 then (some 0) else (some 2))
set_option maxHeartbeats 8000000 in
set_option maxRecDepth 100000 in
theorem inquestref06_Not1.calls (a0 : Int) (r : Int) (w : World) (h : inquestref06_Not1.f a0 = some r) :
    Calls Try.prog 109 #[.int .u8 a0] w fun e w' => e = .returned (.int .u8 r) ∧ Drawn0 w w' := by
  have H : (if a0 = 0 then (some 1) else (if a0 = 1 then (some 0) else (some 2))) = some r := h
  clear h
  by_cases c2 : a0 = 0
  · rw [if_pos c2] at H
    have c2b0 : (a0 == 0) = true := beq_iff_eq.mpr c2
    have c2b1 : (a0 != 0) = false := bne_eq_false_iff_eq.mpr c2
    clear c2
    obtain rfl := Option.some.inj H
    go_enter Try.func109, Try.ntmps109
    go_wp2
    go_ret
    exact ⟨by first | rfl | (simp; done) | (simp [*]; done), by repeat (first | exact Drawn0.refl _ | apply Drawn0.step)⟩
  · rw [if_neg c2] at H
    have c2b0 : (a0 == 0) = false := beq_eq_false_iff_ne.mpr c2
    have c2b1 : (a0 != 0) = true := bne_iff_ne.mpr c2
    by_cases c3 : a0 = 1
    · rw [if_pos c3] at H
      have c3b0 : (a0 == 1) = true := beq_iff_eq.mpr c3
      have c3b1 : (a0 != 1) = false := bne_eq_false_iff_eq.mpr c3
      clear c3
      obtain rfl := Option.some.inj H
      go_enter Try.func109, Try.ntmps109
      go_wp2
      go_ret
      exact ⟨by first | rfl | (simp; done) | (simp [*]; done), by repeat (first | exact Drawn0.refl _ | apply Drawn0.step)⟩
    · rw [if_neg c3] at H
      have c3b0 : (a0 == 1) = false := beq_eq_false_iff_ne.mpr c3
      have c3b1 : (a0 != 1) = true := bne_iff_ne.mpr c3
      obtain rfl := Option.some.inj H
      go_enter Try.func109, Try.ntmps109
      go_wp2
      go_ret
      exact ⟨by first | rfl | (simp; done) | (simp [*]; done), by repeat (first | exact Drawn0.refl _ | apply Drawn0.step)⟩
end Go.Proofs.Yteiiodlgdbiimaa.F
end
