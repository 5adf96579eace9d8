/- The walk of function 3, out of the printed text. -/
-- OUT OF what was printed by print.py (a twelfth state) out of the translation. Not trusted: Lean checks it.
import Derived.Test.YteiiodlgdbiimaaF0
import Derived.Test.YteiiodlgdbiimaaFn23
import Derived.Test.YteiiodlgdbiimaaFn25
import Derived.Test.YteiiodlgdbiimaaFn28
import Derived.Test.YteiiodlgdbiimaaFn29
import Derived.Test.YteiiodlgdbiimaaFc24
import Derived.Test.YteiiodlgdbiimaaFn26
import Derived.Test.YteiiodlgdbiimaaFn27
import Derived.Test.YteiiodlgdbiimaaXFrames
import Derived.Test.YteiiodlgdbiimaaFd3
namespace Go.Proofs.Yteiiodlgdbiimaa.F
open Go.RowKit Go.Proofs.YteiiodlgdbiimaaW.PrintWords Go.Proofs.YteiiodlgdbiimaaW.PrintLast Go.Proofs.YteiiodlgdbiimaaW.PrintMore
attribute [local go_sem] max2_int min2_int max_two min_two max_three min_three max_four min_four   -- for this text's walks alone
set_option linter.unusedVariables false
set_option linter.unusedSimpArgs false

def inquestlaw09_ConeGrows.T17 : Bool × List (List Nat × List Nat) := (true, [([], []), ([], []), ([], []), ([1, 2], [1, 2]), ([0, 3, 3], [0, 3]), ([4], [4]), ([5], [5]), ([5], [5]), ([6, 4, 0, 1, 2, 3, 4, 5, 6], [6]), ([7, 8, 0, 1, 2, 3, 4, 5, 6, 7, 8], [7])])
def inquestlaw09_ConeGrows.B17 : List Nat := [0, 0, 0, 6, 15, 31, 63, 63, 127, 511]
theorem inquestlaw09_ConeGrows.tab17 : rtab .any (opsOf Try.f3 17) = inquestlaw09_ConeGrows.T17 := by kernel_rfl
theorem inquestlaw09_ConeGrows.bits17 : waitsOk inquestlaw09_ConeGrows.T17.2 inquestlaw09_ConeGrows.B17 = true := by kernel_rfl
def inquestlaw09_ConeGrows.T31 : Bool × List (List Nat × List Nat) := (true, [([], []), ([], []), ([], []), ([2], [2]), ([], []), ([3, 4], [3, 4]), ([5], [5]), ([6], [6]), ([1, 7], [1, 7]), ([0, 8, 8], [0, 8]), ([9], [9]), ([10], [10]), ([10], [10]), ([11, 9, 0, 1, 2, 3, 4, 5, 6, 7, 8, 9, 10, 11], [11]), ([12, 13, 0, 1, 2, 3, 4, 5, 6, 7, 8, 9, 10, 11, 12, 13], [12])])
def inquestlaw09_ConeGrows.B31 : List Nat := [0, 0, 0, 4, 0, 28, 60, 124, 254, 511, 1023, 2047, 2047, 4095, 16383]
theorem inquestlaw09_ConeGrows.tab31 : rtab .any (opsOf Try.f3 31) = inquestlaw09_ConeGrows.T31 := by kernel_rfl
theorem inquestlaw09_ConeGrows.bits31 : waitsOk inquestlaw09_ConeGrows.T31.2 inquestlaw09_ConeGrows.B31 = true := by kernel_rfl
set_option maxHeartbeats 8000000 in
set_option maxRecDepth 100000 in
theorem inquestlaw09_ConeGrows.calls (k : Nat) (a0_0 : Int) (A0_1 : Option Addr) (c0_1 : Nat) (l0_1 : List (S41)) (A0_2 : Option Addr) (c0_2 : Nat) (l0_2 : List (S68)) (A0_3 : Option Addr) (c0_3 : Nat) (l0_3 : List Int) (A0_4 : Option Addr) (c0_4 : Nat) (l0_4 : List Int) (A0_5 : Option Addr) (c0_5 : Nat) (l0_5 : List Int) (A1 : Option Addr) (c1 : Nat) (l1 : List Int) (A2 : Option Addr) (c2 : Nat) (l2 : List Int) (a3 : Int) (a4 : Int) (r : Bool) (hrt : Aside0 (r = true)) (w : World) (hr0_1 : Kd.C k41 w A0_1 l0_1.length l0_1) (hc0_1 : l0_1.length ≤ c0_1) (hr0_2 : Kd.C k68 w A0_2 l0_2.length l0_2) (hc0_2 : l0_2.length ≤ c0_2) (hr0_3 : Kd.C (Kd.int .u32) w A0_3 l0_3.length l0_3) (hc0_3 : l0_3.length ≤ c0_3) (hr0_4 : Kd.C (Kd.int .u32) w A0_4 l0_4.length l0_4) (hc0_4 : l0_4.length ≤ c0_4) (hr0_5 : Kd.C (Kd.int .u32) w A0_5 l0_5.length l0_5) (hc0_5 : l0_5.length ≤ c0_5) (hr1 : Kd.C (Kd.int .u32) w A1 l1.length l1) (hc1 : l1.length ≤ c1) (hr2 : Kd.C (Kd.int .u32) w A2 l2.length l2) (hc2 : l2.length ≤ c2) (h : inquestlaw09_ConeGrows.f k a0_0 l0_1 l0_2 l0_3 l0_4 l0_5 l1 l2 a3 a4 = some r) :
  Calls Try.prog 3 #[.agg #[.int .i64 a0_0, .slice A0_1 l0_1.length c0_1, .slice A0_2 l0_2.length c0_2, .slice A0_3 l0_3.length c0_3, .slice A0_4 l0_4.length c0_4, .slice A0_5 l0_5.length c0_5], .slice A1 l1.length c1, .slice A2 l2.length c2, .int .i64 a3, .int .i64 a4] w fun e w' => e = .returned (.bool r) ∧ Below w.heap.size w w' := by
 have hu26 := Try.underlying26
 have hu31 := Try.underlying31
 have HR0_1 := Aside0.mk hr0_1
 have HC0_1 := Aside0.mk hc0_1
 clear hr0_1 hc0_1
 have HR0_2 := Aside0.mk hr0_2
 have HC0_2 := Aside0.mk hc0_2
 clear hr0_2 hc0_2
 have HR0_3 := Aside0.mk hr0_3
 have HC0_3 := Aside0.mk hc0_3
 clear hr0_3 hc0_3
 have HR0_4 := Aside0.mk hr0_4
 have HC0_4 := Aside0.mk hc0_4
 clear hr0_4 hc0_4
 have HR0_5 := Aside0.mk hr0_5
 have HC0_5 := Aside0.mk hc0_5
 clear hr0_5 hc0_5
 have HR1 := Aside0.mk hr1
 have HC1 := Aside0.mk hc1
 clear hr1 hc1
 have HR2 := Aside0.mk hr2
 have HC2 := Aside0.mk hc2
 clear hr2 hc2
 have HB := Aside0.mk (Below.refl w.heap.size w)
 have H : ((inquestlaw09_great.f a0_0 l0_1 l0_2 l0_3 l0_4 l0_5 0 ([] : List Int) ([] : List (List Int))).bind fun t172 => (if t172 = true then (inquestlaw09_ConeGrows.j0 k l1 l2 a3 a4 true a0_0 l0_1 l0_2 l0_3 l0_4 l0_5) else (if (l1.length : Int) > 300 then (inquestlaw09_ConeGrows.j0 k l1 l2 a3 a4 true a0_0 l0_1 l0_2 l0_3 l0_4 l0_5) else (inquestlaw09_ConeGrows.j0 k l1 l2 a3 a4 (decide ((l2.length : Int) > 300)) a0_0 l0_1 l0_2 l0_3 l0_4 l0_5)))) = some r := h
 clear h
 have HC6 := Aside0.mk H
 clear H
 go_enter Try.func3, Try.ntmps3
 go_upto_region 1 with (first | ((with_reducible refine gate_dst (N := 5) rfl ?_); (try (refine gate_guard (by rfl) ?_; dsimp only)); refine box_event ?hg (N := 5) ?hd (cs := #[.int .i64 a0_0, .slice A0_1 l0_1.length c0_1, .slice A0_2 l0_2.length c0_2, .slice A0_3 l0_3.length c0_3, .slice A0_4 l0_4.length c0_4, .slice A0_5 l0_5.length c0_5]) (t := 26) ?hr ?_; (case hd => rfl); (case hg => rfl); (case hr => first | (go_simp; done) | (go_simp; rfl)); intro gb171 hg w7 hbox hb; have n0_ := Aside0.mk (below_step (by repeat (first | (with_reducible first | exact HB.out | apply below_alloc | apply pw_below_drewN | apply below_drew1) | exact HB.out)) hb); have n1_ := Aside0.mk (hbox); have n2_ := Aside0.mk ((by rw [hg]; exact (below_size (by repeat (first | (with_reducible first | exact HB.out | apply below_alloc | apply pw_below_drewN | apply below_drew1) | exact HB.out))) : w.heap.size ≤ gb171)); have n3_ := Aside0.mk ((by rw [hg]; exact (below_size (by repeat (first | (with_reducible first | exact HB.out | apply below_alloc | apply pw_below_drewN | apply below_drew1) | exact HB.out))) : w.heap.size ≤ gb171)); clear HB; have HB := n0_; have BK171 := n1_; have GW171 := n2_; have GE171 := n3_; clear n0_ n1_ n2_ n3_; clear hb hbox hg))
 (try simp only [Act.put, List.setIfInBounds_toArray, List.set_cons_zero, List.set_cons_succ])
 go_cut [39] (fun v39 wc => ∃ (kq : Nat) (x39_5 : Bool), v39 = .bool x39_5 ∧ Aside0 (inquestlaw09_ConeGrows.j0 kq l1 l2 a3 a4 x39_5 a0_0 l0_1 l0_2 l0_3 l0_4 l0_5 = some r) ∧ Aside0 (kq ≤ k) ∧ Aside0 (wc.heap[gb171]? = some (.cells #[.int .i64 a0_0, (.slice A0_1 l0_1.length c0_1), (.slice A0_2 l0_2.length c0_2), (.slice A0_3 l0_3.length c0_3), (.slice A0_4 l0_4.length c0_4), (.slice A0_5 l0_5.length c0_5)] 26 (0, 0))) ∧ Aside0 (Below w.heap.size w wc))
 case first =>
  have H := HC6.out
  clear HC6
  replace H := Option.bind_eq_some_iff.mp H
  obtain ⟨t172, A80, H⟩ := H
  replace H : (if t172 = true then (inquestlaw09_ConeGrows.j0 k l1 l2 a3 a4 true a0_0 l0_1 l0_2 l0_3 l0_4 l0_5) else (if (l1.length : Int) > 300 then (inquestlaw09_ConeGrows.j0 k l1 l2 a3 a4 true a0_0 l0_1 l0_2 l0_3 l0_4 l0_5) else (inquestlaw09_ConeGrows.j0 k l1 l2 a3 a4 (decide ((l2.length : Int) > 300)) a0_0 l0_1 l0_2 l0_3 l0_4 l0_5))) = some r := H
  have A8 := Aside0.mk A80
  clear A80
  by_cases c9 : t172 = true
  ·
   subst c9
   have H1 : (inquestlaw09_ConeGrows.j0 k l1 l2 a3 a4 true a0_0 l0_1 l0_2 l0_3 l0_4 l0_5) = some r := by rw [if_pos rfl] at H; exact H
   clear H
   have H := H1
   clear H1
   have H' := Aside0.mk H
   clear H
   have hcz10_0 : w7.cell? ⟨gb171, 0, none⟩ = some (.int .i64 a0_0) := (blk_cell BK171.out 0).trans rfl
   have hcz10_1 : w7.cell? ⟨gb171, 1, none⟩ = some (.slice A0_1 l0_1.length c0_1) := (blk_cell BK171.out 1).trans rfl
   have hcz10_2 : w7.cell? ⟨gb171, 2, none⟩ = some (.slice A0_2 l0_2.length c0_2) := (blk_cell BK171.out 2).trans rfl
   have hcz10_3 : w7.cell? ⟨gb171, 3, none⟩ = some (.slice A0_3 l0_3.length c0_3) := (blk_cell BK171.out 3).trans rfl
   have hcz10_4 : w7.cell? ⟨gb171, 4, none⟩ = some (.slice A0_4 l0_4.length c0_4) := (blk_cell BK171.out 4).trans rfl
   have hcz10_5 : w7.cell? ⟨gb171, 5, none⟩ = some (.slice A0_5 l0_5.length c0_5) := (blk_cell BK171.out 5).trans rfl
   have hfz10_0 := blk_frozen BK171.out 0
   have hfz10_1 := blk_frozen BK171.out 1
   have hfz10_2 := blk_frozen BK171.out 2
   have hfz10_3 := blk_frozen BK171.out 3
   have hfz10_4 := blk_frozen BK171.out 4
   have hfz10_5 := blk_frozen BK171.out 5
   go_wp2_with (first | ((with_reducible refine gate_callee (f := 23) rfl ?_); refine goesL_ (some 29) rfl rfl Try.func23 (by kernel_rfl) rfl #[.agg #[.int .i64 a0_0, .slice A0_1 l0_1.length c0_1, .slice A0_2 l0_2.length c0_2, .slice A0_3 l0_3.length c0_3, .slice A0_4 l0_4.length c0_4, .slice A0_5 l0_5.length c0_5], .agg #[.int .i64 0, .slice none 0 0, .slice none 0 0]] rfl (by (try simp only [List.map_toArray, List.map_cons, List.map_nil]); first | done | rfl | (simp only [List.length_drop, List.length_take]; rfl)) ?_; (refine (inquestlaw09_great.calls a0_0 _ _ l0_1 _ _ l0_2 _ _ l0_3 _ _ l0_4 _ _ l0_5 0 _ _ ([] : List Int) _ _ ([] : List (List Int)) true _ ?side1 ?side2 ?side3 ?side4 ?side5 ?side6 ?side7 ?side8 ?side9 ?side10 ?side11 ?side12 ?side13 ?side14 A8.out).mono ?_); (case side1 => repeat (first | exact (Kd.C_below HR0_1.out HB.out) | (with_reducible refine Kd.C_alloc ?_ _) | (with_reducible refine Kd.C_drewN ?_ _) | (with_reducible refine Kd.C_drew ?_))); (case side2 => exact HC0_1.out); (case side3 => repeat (first | exact (Kd.C_below HR0_2.out HB.out) | (with_reducible refine Kd.C_alloc ?_ _) | (with_reducible refine Kd.C_drewN ?_ _) | (with_reducible refine Kd.C_drew ?_))); (case side4 => exact HC0_2.out); (case side5 => repeat (first | exact (Kd.C_below HR0_3.out HB.out) | (with_reducible refine Kd.C_alloc ?_ _) | (with_reducible refine Kd.C_drewN ?_ _) | (with_reducible refine Kd.C_drew ?_))); (case side6 => exact HC0_3.out); (case side7 => repeat (first | exact (Kd.C_below HR0_4.out HB.out) | (with_reducible refine Kd.C_alloc ?_ _) | (with_reducible refine Kd.C_drewN ?_ _) | (with_reducible refine Kd.C_drew ?_))); (case side8 => exact HC0_4.out); (case side9 => repeat (first | exact (Kd.C_below HR0_5.out HB.out) | (with_reducible refine Kd.C_alloc ?_ _) | (with_reducible refine Kd.C_drewN ?_ _) | (with_reducible refine Kd.C_drew ?_))); (case side10 => exact HC0_5.out); (case side11 => exact Kd.C_nil _ _); (case side12 => exact Nat.le_refl _); (case side13 => exact Kd.C_nil _ _); (case side14 => exact Nat.le_refl _); rintro e w11 ⟨rfl, hb⟩; refine ⟨_, rfl, ?_⟩; have n0_ := Aside0.mk (blk_below (g := gb171) (o := .cells #[.int .i64 a0_0, .slice A0_1 l0_1.length c0_1, .slice A0_2 l0_2.length c0_2, .slice A0_3 l0_3.length c0_3, .slice A0_4 l0_4.length c0_4, .slice A0_5 l0_5.length c0_5] 26 (0, 0)) (by (with_reducible repeat (first | refine blk_drewN ?_ _ | refine blk_drew ?_ | refine blk_alloc ?_ _)); exact BK171.out) hb); have n1_ := Aside0.mk (below_step (by repeat (first | (with_reducible first | exact HB.out | apply below_alloc | apply pw_below_drewN | apply below_drew1 | refine below_set ?_ GE171.out) | exact HB.out)) hb); clear BK171; clear HB; have BK171 := n0_; have HB := n1_; clear n0_ n1_; (try clear hb); (try clear hb2); (try clear hk); (try clear hi)))
   go_meet
   case rel => exact ⟨_, (true), (by first | rfl | (simp; done) | (simp [*]; done)), H', ⟨by first | omega | exact Nat.le_refl _⟩, ⟨by (with_reducible repeat (first | refine blk_drewN ?_ _ | refine blk_drew ?_ | refine blk_alloc ?_ _)); exact BK171.out⟩, ⟨by repeat (first | (with_reducible first | exact HB.out | apply below_alloc | apply pw_below_drewN | apply below_drew1 | refine below_set ?_ GE171.out) | exact HB.out)⟩⟩
  ·
   replace c9 := Bool.eq_false_iff.mpr c9
   subst c9
   have H1 : (if (l1.length : Int) > 300 then (inquestlaw09_ConeGrows.j0 k l1 l2 a3 a4 true a0_0 l0_1 l0_2 l0_3 l0_4 l0_5) else (inquestlaw09_ConeGrows.j0 k l1 l2 a3 a4 (decide ((l2.length : Int) > 300)) a0_0 l0_1 l0_2 l0_3 l0_4 l0_5)) = some r := by rw [if_neg (show ¬ (false = true) by decide)] at H; exact H
   clear H
   have H := H1
   clear H1
   by_cases c12 : (l1.length : Int) > 300
   ·
    rw [if_pos c12] at H
    have c12b0 : decide (300 < (l1.length : Int)) = true := decide_eq_true c12
    have c12b1 : decide (300 < l1.length) = true := decide_eq_true (by omega)
    clear c12
    (first | rw [c12b0] | (simp only [i64_w, i32_w]; rw [c12b0]) | skip)
    have H' := Aside0.mk H
    clear H
    have hcz13_0 : w7.cell? ⟨gb171, 0, none⟩ = some (.int .i64 a0_0) := (blk_cell BK171.out 0).trans rfl
    have hcz13_1 : w7.cell? ⟨gb171, 1, none⟩ = some (.slice A0_1 l0_1.length c0_1) := (blk_cell BK171.out 1).trans rfl
    have hcz13_2 : w7.cell? ⟨gb171, 2, none⟩ = some (.slice A0_2 l0_2.length c0_2) := (blk_cell BK171.out 2).trans rfl
    have hcz13_3 : w7.cell? ⟨gb171, 3, none⟩ = some (.slice A0_3 l0_3.length c0_3) := (blk_cell BK171.out 3).trans rfl
    have hcz13_4 : w7.cell? ⟨gb171, 4, none⟩ = some (.slice A0_4 l0_4.length c0_4) := (blk_cell BK171.out 4).trans rfl
    have hcz13_5 : w7.cell? ⟨gb171, 5, none⟩ = some (.slice A0_5 l0_5.length c0_5) := (blk_cell BK171.out 5).trans rfl
    have hfz13_0 := blk_frozen BK171.out 0
    have hfz13_1 := blk_frozen BK171.out 1
    have hfz13_2 := blk_frozen BK171.out 2
    have hfz13_3 := blk_frozen BK171.out 3
    have hfz13_4 := blk_frozen BK171.out 4
    have hfz13_5 := blk_frozen BK171.out 5
    go_wp2_with (first | ((with_reducible refine gate_callee (f := 23) rfl ?_); refine goesL_ (some 29) rfl rfl Try.func23 (by kernel_rfl) rfl #[.agg #[.int .i64 a0_0, .slice A0_1 l0_1.length c0_1, .slice A0_2 l0_2.length c0_2, .slice A0_3 l0_3.length c0_3, .slice A0_4 l0_4.length c0_4, .slice A0_5 l0_5.length c0_5], .agg #[.int .i64 0, .slice none 0 0, .slice none 0 0]] rfl (by (try simp only [List.map_toArray, List.map_cons, List.map_nil]); first | done | rfl | (simp only [List.length_drop, List.length_take]; rfl)) ?_; (refine (inquestlaw09_great.calls a0_0 _ _ l0_1 _ _ l0_2 _ _ l0_3 _ _ l0_4 _ _ l0_5 0 _ _ ([] : List Int) _ _ ([] : List (List Int)) false _ ?side1 ?side2 ?side3 ?side4 ?side5 ?side6 ?side7 ?side8 ?side9 ?side10 ?side11 ?side12 ?side13 ?side14 A8.out).mono ?_); (case side1 => repeat (first | exact (Kd.C_below HR0_1.out HB.out) | (with_reducible refine Kd.C_alloc ?_ _) | (with_reducible refine Kd.C_drewN ?_ _) | (with_reducible refine Kd.C_drew ?_))); (case side2 => exact HC0_1.out); (case side3 => repeat (first | exact (Kd.C_below HR0_2.out HB.out) | (with_reducible refine Kd.C_alloc ?_ _) | (with_reducible refine Kd.C_drewN ?_ _) | (with_reducible refine Kd.C_drew ?_))); (case side4 => exact HC0_2.out); (case side5 => repeat (first | exact (Kd.C_below HR0_3.out HB.out) | (with_reducible refine Kd.C_alloc ?_ _) | (with_reducible refine Kd.C_drewN ?_ _) | (with_reducible refine Kd.C_drew ?_))); (case side6 => exact HC0_3.out); (case side7 => repeat (first | exact (Kd.C_below HR0_4.out HB.out) | (with_reducible refine Kd.C_alloc ?_ _) | (with_reducible refine Kd.C_drewN ?_ _) | (with_reducible refine Kd.C_drew ?_))); (case side8 => exact HC0_4.out); (case side9 => repeat (first | exact (Kd.C_below HR0_5.out HB.out) | (with_reducible refine Kd.C_alloc ?_ _) | (with_reducible refine Kd.C_drewN ?_ _) | (with_reducible refine Kd.C_drew ?_))); (case side10 => exact HC0_5.out); (case side11 => exact Kd.C_nil _ _); (case side12 => exact Nat.le_refl _); (case side13 => exact Kd.C_nil _ _); (case side14 => exact Nat.le_refl _); rintro e w14 ⟨rfl, hb⟩; refine ⟨_, rfl, ?_⟩; have n0_ := Aside0.mk (blk_below (g := gb171) (o := .cells #[.int .i64 a0_0, .slice A0_1 l0_1.length c0_1, .slice A0_2 l0_2.length c0_2, .slice A0_3 l0_3.length c0_3, .slice A0_4 l0_4.length c0_4, .slice A0_5 l0_5.length c0_5] 26 (0, 0)) (by (with_reducible repeat (first | refine blk_drewN ?_ _ | refine blk_drew ?_ | refine blk_alloc ?_ _)); exact BK171.out) hb); have n1_ := Aside0.mk (below_step (by repeat (first | (with_reducible first | exact HB.out | apply below_alloc | apply pw_below_drewN | apply below_drew1 | refine below_set ?_ GE171.out) | exact HB.out)) hb); clear BK171; clear HB; have BK171 := n0_; have HB := n1_; clear n0_ n1_; (try clear hb); (try clear hb2); (try clear hk); (try clear hi)))
    go_meet
    case rel => exact ⟨_, (true), (by first | rfl | (simp; done) | (simp [*]; done)), H', ⟨by first | omega | exact Nat.le_refl _⟩, ⟨by (with_reducible repeat (first | refine blk_drewN ?_ _ | refine blk_drew ?_ | refine blk_alloc ?_ _)); exact BK171.out⟩, ⟨by repeat (first | (with_reducible first | exact HB.out | apply below_alloc | apply pw_below_drewN | apply below_drew1 | refine below_set ?_ GE171.out) | exact HB.out)⟩⟩
   ·
    rw [if_neg c12] at H
    have c12b0 : decide (300 < (l1.length : Int)) = false := decide_eq_false c12
    have c12b1 : decide (300 < l1.length) = false := decide_eq_false (by omega)
    clear c12
    (first | rw [c12b0] | (simp only [i64_w, i32_w]; rw [c12b0]) | skip)
    have H' := Aside0.mk H
    clear H
    have hcz15_0 : w7.cell? ⟨gb171, 0, none⟩ = some (.int .i64 a0_0) := (blk_cell BK171.out 0).trans rfl
    have hcz15_1 : w7.cell? ⟨gb171, 1, none⟩ = some (.slice A0_1 l0_1.length c0_1) := (blk_cell BK171.out 1).trans rfl
    have hcz15_2 : w7.cell? ⟨gb171, 2, none⟩ = some (.slice A0_2 l0_2.length c0_2) := (blk_cell BK171.out 2).trans rfl
    have hcz15_3 : w7.cell? ⟨gb171, 3, none⟩ = some (.slice A0_3 l0_3.length c0_3) := (blk_cell BK171.out 3).trans rfl
    have hcz15_4 : w7.cell? ⟨gb171, 4, none⟩ = some (.slice A0_4 l0_4.length c0_4) := (blk_cell BK171.out 4).trans rfl
    have hcz15_5 : w7.cell? ⟨gb171, 5, none⟩ = some (.slice A0_5 l0_5.length c0_5) := (blk_cell BK171.out 5).trans rfl
    have hfz15_0 := blk_frozen BK171.out 0
    have hfz15_1 := blk_frozen BK171.out 1
    have hfz15_2 := blk_frozen BK171.out 2
    have hfz15_3 := blk_frozen BK171.out 3
    have hfz15_4 := blk_frozen BK171.out 4
    have hfz15_5 := blk_frozen BK171.out 5
    go_wp2_with (first | ((with_reducible refine gate_callee (f := 23) rfl ?_); refine goesL_ (some 29) rfl rfl Try.func23 (by kernel_rfl) rfl #[.agg #[.int .i64 a0_0, .slice A0_1 l0_1.length c0_1, .slice A0_2 l0_2.length c0_2, .slice A0_3 l0_3.length c0_3, .slice A0_4 l0_4.length c0_4, .slice A0_5 l0_5.length c0_5], .agg #[.int .i64 0, .slice none 0 0, .slice none 0 0]] rfl (by (try simp only [List.map_toArray, List.map_cons, List.map_nil]); first | done | rfl | (simp only [List.length_drop, List.length_take]; rfl)) ?_; (refine (inquestlaw09_great.calls a0_0 _ _ l0_1 _ _ l0_2 _ _ l0_3 _ _ l0_4 _ _ l0_5 0 _ _ ([] : List Int) _ _ ([] : List (List Int)) false _ ?side1 ?side2 ?side3 ?side4 ?side5 ?side6 ?side7 ?side8 ?side9 ?side10 ?side11 ?side12 ?side13 ?side14 A8.out).mono ?_); (case side1 => repeat (first | exact (Kd.C_below HR0_1.out HB.out) | (with_reducible refine Kd.C_alloc ?_ _) | (with_reducible refine Kd.C_drewN ?_ _) | (with_reducible refine Kd.C_drew ?_))); (case side2 => exact HC0_1.out); (case side3 => repeat (first | exact (Kd.C_below HR0_2.out HB.out) | (with_reducible refine Kd.C_alloc ?_ _) | (with_reducible refine Kd.C_drewN ?_ _) | (with_reducible refine Kd.C_drew ?_))); (case side4 => exact HC0_2.out); (case side5 => repeat (first | exact (Kd.C_below HR0_3.out HB.out) | (with_reducible refine Kd.C_alloc ?_ _) | (with_reducible refine Kd.C_drewN ?_ _) | (with_reducible refine Kd.C_drew ?_))); (case side6 => exact HC0_3.out); (case side7 => repeat (first | exact (Kd.C_below HR0_4.out HB.out) | (with_reducible refine Kd.C_alloc ?_ _) | (with_reducible refine Kd.C_drewN ?_ _) | (with_reducible refine Kd.C_drew ?_))); (case side8 => exact HC0_4.out); (case side9 => repeat (first | exact (Kd.C_below HR0_5.out HB.out) | (with_reducible refine Kd.C_alloc ?_ _) | (with_reducible refine Kd.C_drewN ?_ _) | (with_reducible refine Kd.C_drew ?_))); (case side10 => exact HC0_5.out); (case side11 => exact Kd.C_nil _ _); (case side12 => exact Nat.le_refl _); (case side13 => exact Kd.C_nil _ _); (case side14 => exact Nat.le_refl _); rintro e w16 ⟨rfl, hb⟩; refine ⟨_, rfl, ?_⟩; have n0_ := Aside0.mk (blk_below (g := gb171) (o := .cells #[.int .i64 a0_0, .slice A0_1 l0_1.length c0_1, .slice A0_2 l0_2.length c0_2, .slice A0_3 l0_3.length c0_3, .slice A0_4 l0_4.length c0_4, .slice A0_5 l0_5.length c0_5] 26 (0, 0)) (by (with_reducible repeat (first | refine blk_drewN ?_ _ | refine blk_drew ?_ | refine blk_alloc ?_ _)); exact BK171.out) hb); have n1_ := Aside0.mk (below_step (by repeat (first | (with_reducible first | exact HB.out | apply below_alloc | apply pw_below_drewN | apply below_drew1 | refine below_set ?_ GE171.out) | exact HB.out)) hb); clear BK171; clear HB; have BK171 := n0_; have HB := n1_; clear n0_ n1_; (try clear hb); (try clear hb2); (try clear hk); (try clear hi)))
    go_meet
    case rel => exact ⟨_, (decide ((l2.length : Int) > 300)), (by first | rfl | (simp; done) | (simp [*]; done)), H', ⟨by first | omega | exact Nat.le_refl _⟩, ⟨by (with_reducible repeat (first | refine blk_drewN ?_ _ | refine blk_drew ?_ | refine blk_alloc ?_ _)); exact BK171.out⟩, ⟨by repeat (first | (with_reducible first | exact HB.out | apply below_alloc | apply pw_below_drewN | apply below_drew1 | refine below_set ?_ GE171.out) | exact HB.out)⟩⟩
 case rest =>
  as_aux_lemma =>
   clear HC6
   try clear c1
   try clear c2
   try clear p2
   try clear c3
   try clear c9
   try clear c12
   try clear c12b0
   try clear c12b1
   try clear hcz10_0
   try clear hcz10_1
   try clear hcz10_2
   try clear hcz10_3
   try clear hcz10_4
   try clear hcz10_5
   try clear hcz13_0
   try clear hcz13_1
   try clear hcz13_2
   try clear hcz13_3
   try clear hcz13_4
   try clear hcz13_5
   try clear hcz15_0
   try clear hcz15_1
   try clear hcz15_2
   try clear hcz15_3
   try clear hcz15_4
   try clear hcz15_5
   try clear hfz10_0
   try clear hfz10_1
   try clear hfz10_2
   try clear hfz10_3
   try clear hfz10_4
   try clear hfz10_5
   try clear hfz13_0
   try clear hfz13_1
   try clear hfz13_2
   try clear hfz13_3
   try clear hfz13_4
   try clear hfz13_5
   try clear hfz15_0
   try clear hfz15_1
   try clear hfz15_2
   try clear hfz15_3
   try clear hfz15_4
   try clear hfz15_5
   obtain ⟨kq, x39_5, rfl, HA, HJ5, BK171, HB⟩ := hcut
   cases kq with
   | zero => exact absurd HA.out (by simp [inquestlaw09_ConeGrows.j0])
   | succ kj5 =>
    have H := HA.out
    clear HA
    simp only [inquestlaw09_ConeGrows.j0] at H
    by_cases c17 : x39_5 = true
    ·
     subst c17
     have H1 : ((inquestlaw09_lives.f kj5).bind fun t173 => (some t173)) = some r := by rw [if_pos rfl] at H; exact H
     clear H
     have H := H1
     clear H1
     replace H := Option.bind_eq_some_iff.mp H
     obtain ⟨t173, A180, H⟩ := H
     replace H : (some t173) = some r := H
     have A18 := Aside0.mk A180
     clear A180
     obtain rfl := Option.some.inj H
     go_wp2_with (first | ((with_reducible refine gate_callee (f := 24) rfl ?_); refine goesL_ (some 40) rfl rfl Try.func24 (by kernel_rfl) rfl #[] rfl (by (try simp only [List.map_toArray, List.map_cons, List.map_nil]); first | done | rfl | (simp only [List.length_drop, List.length_take]; rfl)) ?_; (with_reducible refine (inquestlaw09_lives.calls kj5  t173 hrt _ A18.out).mono ?_); rintro e w19 ⟨rfl, hb⟩; refine ⟨_, rfl, ?_⟩; have n0_ := Aside0.mk (blk_below (g := gb171) (o := .cells #[.int .i64 a0_0, .slice A0_1 l0_1.length c0_1, .slice A0_2 l0_2.length c0_2, .slice A0_3 l0_3.length c0_3, .slice A0_4 l0_4.length c0_4, .slice A0_5 l0_5.length c0_5] 26 (0, 0)) (by (with_reducible repeat (first | refine blk_drewN ?_ _ | refine blk_drew ?_ | refine blk_alloc ?_ _)); exact BK171.out) hb); have n1_ := Aside0.mk (below_step (by repeat (first | (with_reducible first | exact HB.out | apply below_alloc | apply pw_below_drewN | apply below_drew1 | refine below_set ?_ GE171.out) | exact HB.out)) hb); clear BK171; clear HB; have BK171 := n0_; have HB := n1_; clear n0_ n1_; (try clear hb); (try clear hb2); (try clear hk); (try clear hi)))
     go_ret
     exact ⟨by first | rfl | (simp [errW_none, errW_some] <;> rfl) | (simp [*, errW_none, errW_some] <;> rfl), by repeat (first | (with_reducible first | exact HB.out | apply below_alloc | apply pw_below_drewN | apply below_drew1 | refine below_set ?_ GE171.out) | exact HB.out)⟩
    ·
     replace c17 := Bool.eq_false_iff.mpr c17
     subst c17
     have H1 : ((cone_Ever.f a0_0 l0_1 l0_2 l0_3 l0_4 l0_5 l1).bind fun bt174 => (if bt174.2 = 0 then ((inquestref03_May.f kj5 a0_0 l0_1 l0_2 l0_3 l0_4 l0_5).bind fun t179 => (if t179 = true then ((inquestref03_Vars.f kj5 a0_0 l0_1 l0_2 l0_3 l0_4 l0_5).bind fun t180 => (inquestlaw09_ConeGrows.j1 kj5 l1 l2 a3 a4 bt174.1 ((bt174.1.length : Int) != (wrap64 (t180 + 1))) a0_0 l0_1 l0_2 l0_3 l0_4 l0_5)) else (inquestlaw09_ConeGrows.j1 kj5 l1 l2 a3 a4 bt174.1 true a0_0 l0_1 l0_2 l0_3 l0_4 l0_5))) else (if (bt174.1.length : Int) = 0 then ((inquestlaw09_lives.f kj5).bind fun t178 => (some t178)) else (some false)))) = some r := by rw [if_neg (show ¬ (false = true) by decide)] at H; exact H
     clear H
     have H := H1
     clear H1
     replace H := Option.bind_eq_some_iff.mp H
     obtain ⟨⟨t174, t177⟩, A200, H⟩ := H
     replace H : (if t177 = 0 then ((inquestref03_May.f kj5 a0_0 l0_1 l0_2 l0_3 l0_4 l0_5).bind fun t179 => (if t179 = true then ((inquestref03_Vars.f kj5 a0_0 l0_1 l0_2 l0_3 l0_4 l0_5).bind fun t180 => (inquestlaw09_ConeGrows.j1 kj5 l1 l2 a3 a4 t174 ((t174.length : Int) != (wrap64 (t180 + 1))) a0_0 l0_1 l0_2 l0_3 l0_4 l0_5)) else (inquestlaw09_ConeGrows.j1 kj5 l1 l2 a3 a4 t174 true a0_0 l0_1 l0_2 l0_3 l0_4 l0_5))) else (if (t174.length : Int) = 0 then ((inquestlaw09_lives.f kj5).bind fun t178 => (some t178)) else (some false))) = some r := H
     have A20 := Aside0.mk A200
     clear A200
     by_cases c21 : t177 = 0
     ·
      rw [if_pos c21] at H
      have c21b0 : (t177 == 0) = true := beq_iff_eq.mpr c21
      have c21b1 : (t177 != 0) = false := bne_eq_false_iff_eq.mpr c21
      clear c21
      have HC22 := Aside0.mk H
      clear H
      have hcz23_0 : wc.cell? ⟨gb171, 0, none⟩ = some (.int .i64 a0_0) := (blk_cell BK171.out 0).trans rfl
      have hcz23_1 : wc.cell? ⟨gb171, 1, none⟩ = some (.slice A0_1 l0_1.length c0_1) := (blk_cell BK171.out 1).trans rfl
      have hcz23_2 : wc.cell? ⟨gb171, 2, none⟩ = some (.slice A0_2 l0_2.length c0_2) := (blk_cell BK171.out 2).trans rfl
      have hcz23_3 : wc.cell? ⟨gb171, 3, none⟩ = some (.slice A0_3 l0_3.length c0_3) := (blk_cell BK171.out 3).trans rfl
      have hcz23_4 : wc.cell? ⟨gb171, 4, none⟩ = some (.slice A0_4 l0_4.length c0_4) := (blk_cell BK171.out 4).trans rfl
      have hcz23_5 : wc.cell? ⟨gb171, 5, none⟩ = some (.slice A0_5 l0_5.length c0_5) := (blk_cell BK171.out 5).trans rfl
      have hfz23_0 := blk_frozen BK171.out 0
      have hfz23_1 := blk_frozen BK171.out 1
      have hfz23_2 := blk_frozen BK171.out 2
      have hfz23_3 := blk_frozen BK171.out 3
      have hfz23_4 := blk_frozen BK171.out 4
      have hfz23_5 := blk_frozen BK171.out 5
      go_upto_region 6 with (first | ((with_reducible refine gate_callee (f := 25) rfl ?_); refine goesL_ (some 44) rfl rfl Try.func25 (by kernel_rfl) rfl #[.agg #[.int .i64 a0_0, .slice A0_1 l0_1.length c0_1, .slice A0_2 l0_2.length c0_2, .slice A0_3 l0_3.length c0_3, .slice A0_4 l0_4.length c0_4, .slice A0_5 l0_5.length c0_5], .slice A1 l1.length c1] rfl (by (try simp only [List.map_toArray, List.map_cons, List.map_nil]); first | done | rfl | (simp only [List.length_drop, List.length_take]; rfl)) ?_; (with_reducible refine (cone_Ever.calls a0_0 _ _ l0_1 _ _ l0_2 _ _ l0_3 _ _ l0_4 _ _ l0_5 _ _ l1 t174 t177 _ ?side1 ?side2 ?side3 ?side4 ?side5 ?side6 ?side7 ?side8 ?side9 ?side10 ?side11 ?side12 A20.out).mono ?_); (case side1 => repeat (first | exact (Kd.C_below HR0_1.out HB.out) | (with_reducible refine Kd.C_alloc ?_ _) | (with_reducible refine Kd.C_drewN ?_ _) | (with_reducible refine Kd.C_drew ?_))); (case side2 => exact HC0_1.out); (case side3 => repeat (first | exact (Kd.C_below HR0_2.out HB.out) | (with_reducible refine Kd.C_alloc ?_ _) | (with_reducible refine Kd.C_drewN ?_ _) | (with_reducible refine Kd.C_drew ?_))); (case side4 => exact HC0_2.out); (case side5 => repeat (first | exact (Kd.C_below HR0_3.out HB.out) | (with_reducible refine Kd.C_alloc ?_ _) | (with_reducible refine Kd.C_drewN ?_ _) | (with_reducible refine Kd.C_drew ?_))); (case side6 => exact HC0_3.out); (case side7 => repeat (first | exact (Kd.C_below HR0_4.out HB.out) | (with_reducible refine Kd.C_alloc ?_ _) | (with_reducible refine Kd.C_drewN ?_ _) | (with_reducible refine Kd.C_drew ?_))); (case side8 => exact HC0_4.out); (case side9 => repeat (first | exact (Kd.C_below HR0_5.out HB.out) | (with_reducible refine Kd.C_alloc ?_ _) | (with_reducible refine Kd.C_drewN ?_ _) | (with_reducible refine Kd.C_drew ?_))); (case side10 => exact HC0_5.out); (case side11 => repeat (first | exact (Kd.C_below HR1.out HB.out) | (with_reducible refine Kd.C_alloc ?_ _) | (with_reducible refine Kd.C_drewN ?_ _) | (with_reducible refine Kd.C_drew ?_))); (case side12 => exact HC1.out); rintro e w24 ⟨v175, rfl, ho0, hb⟩; refine ⟨_, rfl, ?_⟩; have n0_ := Aside0.mk (Kd.R_lower ho0 (below_size (by repeat (first | (with_reducible first | exact HB.out | apply below_alloc | apply pw_below_drewN | apply below_drew1 | refine below_set ?_ GE171.out) | exact HB.out)))); have n1_ := Aside0.mk (blk_below (g := gb171) (o := .cells #[.int .i64 a0_0, .slice A0_1 l0_1.length c0_1, .slice A0_2 l0_2.length c0_2, .slice A0_3 l0_3.length c0_3, .slice A0_4 l0_4.length c0_4, .slice A0_5 l0_5.length c0_5] 26 (0, 0)) (by (with_reducible repeat (first | refine blk_drewN ?_ _ | refine blk_drew ?_ | refine blk_alloc ?_ _)); exact BK171.out) hb); have n2_ := Aside0.mk (below_step (by repeat (first | (with_reducible first | exact HB.out | apply below_alloc | apply pw_below_drewN | apply below_drew1 | refine below_set ?_ GE171.out) | exact HB.out)) hb); clear BK171; clear HB; have HO176 := n0_; have BK171 := n1_; have HB := n2_; clear n0_ n1_ n2_; (try clear hb); (try clear hb2); (try clear hk); (try clear hi); (try clear ho0)))
      (try simp only [Act.put, List.setIfInBounds_toArray, List.set_cons_zero, List.set_cons_succ])
      go_cut [65] (fun v65 wc => ∃ (kq : Nat) (x65_21 : Bool), v65 = .bool x65_21 ∧ Aside0 (inquestlaw09_ConeGrows.j1 kq l1 l2 a3 a4 t174 x65_21 a0_0 l0_1 l0_2 l0_3 l0_4 l0_5 = some r) ∧ Aside0 (kq ≤ kj5) ∧ Aside0 (Kd.R Kd.bool 4 wc w.heap.size (fun _ => True) v175 t174) ∧ Aside0 (wc.heap[gb171]? = some (.cells #[.int .i64 a0_0, (.slice A0_1 l0_1.length c0_1), (.slice A0_2 l0_2.length c0_2), (.slice A0_3 l0_3.length c0_3), (.slice A0_4 l0_4.length c0_4), (.slice A0_5 l0_5.length c0_5)] 26 (0, 0))) ∧ Aside0 (Below w.heap.size w wc))
      case first =>
       have H := HC22.out
       clear HC22
       replace H := Option.bind_eq_some_iff.mp H
       obtain ⟨t179, A250, H⟩ := H
       replace H : (if t179 = true then ((inquestref03_Vars.f kj5 a0_0 l0_1 l0_2 l0_3 l0_4 l0_5).bind fun t180 => (inquestlaw09_ConeGrows.j1 kj5 l1 l2 a3 a4 t174 ((t174.length : Int) != (wrap64 (t180 + 1))) a0_0 l0_1 l0_2 l0_3 l0_4 l0_5)) else (inquestlaw09_ConeGrows.j1 kj5 l1 l2 a3 a4 t174 true a0_0 l0_1 l0_2 l0_3 l0_4 l0_5)) = some r := H
       have A25 := Aside0.mk A250
       clear A250
       by_cases c26 : t179 = true
       ·
        subst c26
        have H1 : ((inquestref03_Vars.f kj5 a0_0 l0_1 l0_2 l0_3 l0_4 l0_5).bind fun t180 => (inquestlaw09_ConeGrows.j1 kj5 l1 l2 a3 a4 t174 ((t174.length : Int) != (wrap64 (t180 + 1))) a0_0 l0_1 l0_2 l0_3 l0_4 l0_5)) = some r := by rw [if_pos rfl] at H; exact H
        clear H
        have H := H1
        clear H1
        replace H := Option.bind_eq_some_iff.mp H
        obtain ⟨t180, A270, H⟩ := H
        replace H : (inquestlaw09_ConeGrows.j1 kj5 l1 l2 a3 a4 t174 ((t174.length : Int) != (wrap64 (t180 + 1))) a0_0 l0_1 l0_2 l0_3 l0_4 l0_5) = some r := H
        have A27 := Aside0.mk A270
        clear A270
        have H' := Aside0.mk H
        clear H
        have hcz28_0 : w24.cell? ⟨gb171, 0, none⟩ = some (.int .i64 a0_0) := (blk_cell BK171.out 0).trans rfl
        have hcz28_1 : w24.cell? ⟨gb171, 1, none⟩ = some (.slice A0_1 l0_1.length c0_1) := (blk_cell BK171.out 1).trans rfl
        have hcz28_2 : w24.cell? ⟨gb171, 2, none⟩ = some (.slice A0_2 l0_2.length c0_2) := (blk_cell BK171.out 2).trans rfl
        have hcz28_3 : w24.cell? ⟨gb171, 3, none⟩ = some (.slice A0_3 l0_3.length c0_3) := (blk_cell BK171.out 3).trans rfl
        have hcz28_4 : w24.cell? ⟨gb171, 4, none⟩ = some (.slice A0_4 l0_4.length c0_4) := (blk_cell BK171.out 4).trans rfl
        have hcz28_5 : w24.cell? ⟨gb171, 5, none⟩ = some (.slice A0_5 l0_5.length c0_5) := (blk_cell BK171.out 5).trans rfl
        have hfz28_0 := blk_frozen BK171.out 0
        have hfz28_1 := blk_frozen BK171.out 1
        have hfz28_2 := blk_frozen BK171.out 2
        have hfz28_3 := blk_frozen BK171.out 3
        have hfz28_4 := blk_frozen BK171.out 4
        have hfz28_5 := blk_frozen BK171.out 5
        go_wp2_with (first | ((with_reducible refine gate_callee (f := 26) rfl ?_); refine goesL_ (some 56) rfl rfl Try.func26 (by kernel_rfl) rfl #[.agg #[.int .i64 a0_0, .slice A0_1 l0_1.length c0_1, .slice A0_2 l0_2.length c0_2, .slice A0_3 l0_3.length c0_3, .slice A0_4 l0_4.length c0_4, .slice A0_5 l0_5.length c0_5]] rfl (by (try simp only [List.map_toArray, List.map_cons, List.map_nil]); first | done | rfl | (simp only [List.length_drop, List.length_take]; rfl)) ?_; (with_reducible refine (inquestref03_May.calls kj5 a0_0 _ _ l0_1 _ _ l0_2 _ _ l0_3 _ _ l0_4 _ _ l0_5 true _ ?side1 ?side2 ?side3 ?side4 ?side5 ?side6 ?side7 ?side8 ?side9 ?side10 A25.out).mono ?_); (case side1 => repeat (first | exact (Kd.C_below HR0_1.out HB.out) | (with_reducible refine Kd.C_alloc ?_ _) | (with_reducible refine Kd.C_drewN ?_ _) | (with_reducible refine Kd.C_drew ?_))); (case side2 => exact HC0_1.out); (case side3 => repeat (first | exact (Kd.C_below HR0_2.out HB.out) | (with_reducible refine Kd.C_alloc ?_ _) | (with_reducible refine Kd.C_drewN ?_ _) | (with_reducible refine Kd.C_drew ?_))); (case side4 => exact HC0_2.out); (case side5 => repeat (first | exact (Kd.C_below HR0_3.out HB.out) | (with_reducible refine Kd.C_alloc ?_ _) | (with_reducible refine Kd.C_drewN ?_ _) | (with_reducible refine Kd.C_drew ?_))); (case side6 => exact HC0_3.out); (case side7 => repeat (first | exact (Kd.C_below HR0_4.out HB.out) | (with_reducible refine Kd.C_alloc ?_ _) | (with_reducible refine Kd.C_drewN ?_ _) | (with_reducible refine Kd.C_drew ?_))); (case side8 => exact HC0_4.out); (case side9 => repeat (first | exact (Kd.C_below HR0_5.out HB.out) | (with_reducible refine Kd.C_alloc ?_ _) | (with_reducible refine Kd.C_drewN ?_ _) | (with_reducible refine Kd.C_drew ?_))); (case side10 => exact HC0_5.out); rintro e w29 ⟨rfl, hb⟩; refine ⟨_, rfl, ?_⟩; have n0_ := Aside0.mk (Kd.R_below (by (with_reducible repeat (first | apply Kd.R_alloc | apply Kd.R_drewN | apply Kd.R_drew)); exact HO176.out) hb); have n1_ := Aside0.mk (blk_below (g := gb171) (o := .cells #[.int .i64 a0_0, .slice A0_1 l0_1.length c0_1, .slice A0_2 l0_2.length c0_2, .slice A0_3 l0_3.length c0_3, .slice A0_4 l0_4.length c0_4, .slice A0_5 l0_5.length c0_5] 26 (0, 0)) (by (with_reducible repeat (first | refine blk_drewN ?_ _ | refine blk_drew ?_ | refine blk_alloc ?_ _)); exact BK171.out) hb); have n2_ := Aside0.mk (below_step (by repeat (first | (with_reducible first | exact HB.out | apply below_alloc | apply pw_below_drewN | apply below_drew1 | refine below_set ?_ GE171.out) | exact HB.out)) hb); clear HO176; clear BK171; clear HB; have HO176 := n0_; have BK171 := n1_; have HB := n2_; clear n0_ n1_ n2_; (try clear hb); (try clear hb2); (try clear hk); (try clear hi); obtain ⟨Ao30, co30, eo30⟩ := Kd.R_slice HO176.out; subst eo30; have hcz31_0 : w29.cell? ⟨gb171, 0, none⟩ = some (.int .i64 a0_0) := (blk_cell BK171.out 0).trans rfl; have hcz31_1 : w29.cell? ⟨gb171, 1, none⟩ = some (.slice A0_1 l0_1.length c0_1) := (blk_cell BK171.out 1).trans rfl; have hcz31_2 : w29.cell? ⟨gb171, 2, none⟩ = some (.slice A0_2 l0_2.length c0_2) := (blk_cell BK171.out 2).trans rfl; have hcz31_3 : w29.cell? ⟨gb171, 3, none⟩ = some (.slice A0_3 l0_3.length c0_3) := (blk_cell BK171.out 3).trans rfl; have hcz31_4 : w29.cell? ⟨gb171, 4, none⟩ = some (.slice A0_4 l0_4.length c0_4) := (blk_cell BK171.out 4).trans rfl; have hcz31_5 : w29.cell? ⟨gb171, 5, none⟩ = some (.slice A0_5 l0_5.length c0_5) := (blk_cell BK171.out 5).trans rfl; have hfz31_0 := blk_frozen BK171.out 0; have hfz31_1 := blk_frozen BK171.out 1; have hfz31_2 := blk_frozen BK171.out 2; have hfz31_3 := blk_frozen BK171.out 3; have hfz31_4 := blk_frozen BK171.out 4; have hfz31_5 := blk_frozen BK171.out 5) | (go_at_call 27; (with_reducible refine (inquestref03_Vars.calls kj5 a0_0 _ _ l0_1 _ _ l0_2 _ _ l0_3 _ _ l0_4 _ _ l0_5 t180 _ ?side1 ?side2 ?side3 ?side4 ?side5 ?side6 ?side7 ?side8 ?side9 ?side10 A27.out).mono ?_); (case side1 => repeat (first | exact (Kd.C_below HR0_1.out HB.out) | (with_reducible refine Kd.C_alloc ?_ _) | (with_reducible refine Kd.C_drewN ?_ _) | (with_reducible refine Kd.C_drew ?_))); (case side2 => exact HC0_1.out); (case side3 => repeat (first | exact (Kd.C_below HR0_2.out HB.out) | (with_reducible refine Kd.C_alloc ?_ _) | (with_reducible refine Kd.C_drewN ?_ _) | (with_reducible refine Kd.C_drew ?_))); (case side4 => exact HC0_2.out); (case side5 => repeat (first | exact (Kd.C_below HR0_3.out HB.out) | (with_reducible refine Kd.C_alloc ?_ _) | (with_reducible refine Kd.C_drewN ?_ _) | (with_reducible refine Kd.C_drew ?_))); (case side6 => exact HC0_3.out); (case side7 => repeat (first | exact (Kd.C_below HR0_4.out HB.out) | (with_reducible refine Kd.C_alloc ?_ _) | (with_reducible refine Kd.C_drewN ?_ _) | (with_reducible refine Kd.C_drew ?_))); (case side8 => exact HC0_4.out); (case side9 => repeat (first | exact (Kd.C_below HR0_5.out HB.out) | (with_reducible refine Kd.C_alloc ?_ _) | (with_reducible refine Kd.C_drewN ?_ _) | (with_reducible refine Kd.C_drew ?_))); (case side10 => exact HC0_5.out); rintro e w32 ⟨rfl, hb⟩; have n0_ := Aside0.mk (Kd.R_below (by (with_reducible repeat (first | apply Kd.R_alloc | apply Kd.R_drewN | apply Kd.R_drew)); exact HO176.out) hb); have n1_ := Aside0.mk (blk_below (g := gb171) (o := .cells #[.int .i64 a0_0, .slice A0_1 l0_1.length c0_1, .slice A0_2 l0_2.length c0_2, .slice A0_3 l0_3.length c0_3, .slice A0_4 l0_4.length c0_4, .slice A0_5 l0_5.length c0_5] 26 (0, 0)) (by (with_reducible repeat (first | refine blk_drewN ?_ _ | refine blk_drew ?_ | refine blk_alloc ?_ _)); exact BK171.out) hb); have n2_ := Aside0.mk (below_step (by repeat (first | (with_reducible first | exact HB.out | apply below_alloc | apply pw_below_drewN | apply below_drew1 | refine below_set ?_ GE171.out) | exact HB.out)) hb); clear HO176; clear BK171; clear HB; have HO176 := n0_; have BK171 := n1_; have HB := n2_; clear n0_ n1_ n2_; (try clear hb); (try clear hb2); (try clear hk); (try clear hi)))
        go_meet
        case rel => exact ⟨_, (((t174.length : Int) != (wrap64 (t180 + 1)))), (by first | rfl | (simp; done) | (simp [*]; done)), H', ⟨by have := HJ5.out; first | omega | exact Nat.le_refl _⟩, ⟨by (with_reducible repeat (first | apply Kd.R_alloc | apply Kd.R_drewN | apply Kd.R_drew)); exact HO176.out⟩, ⟨by (with_reducible repeat (first | refine blk_drewN ?_ _ | refine blk_drew ?_ | refine blk_alloc ?_ _)); exact BK171.out⟩, ⟨by repeat (first | (with_reducible first | exact HB.out | apply below_alloc | apply pw_below_drewN | apply below_drew1 | refine below_set ?_ GE171.out) | exact HB.out)⟩⟩
       ·
        replace c26 := Bool.eq_false_iff.mpr c26
        subst c26
        have H1 : (inquestlaw09_ConeGrows.j1 kj5 l1 l2 a3 a4 t174 true a0_0 l0_1 l0_2 l0_3 l0_4 l0_5) = some r := by rw [if_neg (show ¬ (false = true) by decide)] at H; exact H
        clear H
        have H := H1
        clear H1
        have H' := Aside0.mk H
        clear H
        have hcz33_0 : w24.cell? ⟨gb171, 0, none⟩ = some (.int .i64 a0_0) := (blk_cell BK171.out 0).trans rfl
        have hcz33_1 : w24.cell? ⟨gb171, 1, none⟩ = some (.slice A0_1 l0_1.length c0_1) := (blk_cell BK171.out 1).trans rfl
        have hcz33_2 : w24.cell? ⟨gb171, 2, none⟩ = some (.slice A0_2 l0_2.length c0_2) := (blk_cell BK171.out 2).trans rfl
        have hcz33_3 : w24.cell? ⟨gb171, 3, none⟩ = some (.slice A0_3 l0_3.length c0_3) := (blk_cell BK171.out 3).trans rfl
        have hcz33_4 : w24.cell? ⟨gb171, 4, none⟩ = some (.slice A0_4 l0_4.length c0_4) := (blk_cell BK171.out 4).trans rfl
        have hcz33_5 : w24.cell? ⟨gb171, 5, none⟩ = some (.slice A0_5 l0_5.length c0_5) := (blk_cell BK171.out 5).trans rfl
        have hfz33_0 := blk_frozen BK171.out 0
        have hfz33_1 := blk_frozen BK171.out 1
        have hfz33_2 := blk_frozen BK171.out 2
        have hfz33_3 := blk_frozen BK171.out 3
        have hfz33_4 := blk_frozen BK171.out 4
        have hfz33_5 := blk_frozen BK171.out 5
        go_wp2_with (first | ((with_reducible refine gate_callee (f := 26) rfl ?_); refine goesL_ (some 56) rfl rfl Try.func26 (by kernel_rfl) rfl #[.agg #[.int .i64 a0_0, .slice A0_1 l0_1.length c0_1, .slice A0_2 l0_2.length c0_2, .slice A0_3 l0_3.length c0_3, .slice A0_4 l0_4.length c0_4, .slice A0_5 l0_5.length c0_5]] rfl (by (try simp only [List.map_toArray, List.map_cons, List.map_nil]); first | done | rfl | (simp only [List.length_drop, List.length_take]; rfl)) ?_; (with_reducible refine (inquestref03_May.calls kj5 a0_0 _ _ l0_1 _ _ l0_2 _ _ l0_3 _ _ l0_4 _ _ l0_5 false _ ?side1 ?side2 ?side3 ?side4 ?side5 ?side6 ?side7 ?side8 ?side9 ?side10 A25.out).mono ?_); (case side1 => repeat (first | exact (Kd.C_below HR0_1.out HB.out) | (with_reducible refine Kd.C_alloc ?_ _) | (with_reducible refine Kd.C_drewN ?_ _) | (with_reducible refine Kd.C_drew ?_))); (case side2 => exact HC0_1.out); (case side3 => repeat (first | exact (Kd.C_below HR0_2.out HB.out) | (with_reducible refine Kd.C_alloc ?_ _) | (with_reducible refine Kd.C_drewN ?_ _) | (with_reducible refine Kd.C_drew ?_))); (case side4 => exact HC0_2.out); (case side5 => repeat (first | exact (Kd.C_below HR0_3.out HB.out) | (with_reducible refine Kd.C_alloc ?_ _) | (with_reducible refine Kd.C_drewN ?_ _) | (with_reducible refine Kd.C_drew ?_))); (case side6 => exact HC0_3.out); (case side7 => repeat (first | exact (Kd.C_below HR0_4.out HB.out) | (with_reducible refine Kd.C_alloc ?_ _) | (with_reducible refine Kd.C_drewN ?_ _) | (with_reducible refine Kd.C_drew ?_))); (case side8 => exact HC0_4.out); (case side9 => repeat (first | exact (Kd.C_below HR0_5.out HB.out) | (with_reducible refine Kd.C_alloc ?_ _) | (with_reducible refine Kd.C_drewN ?_ _) | (with_reducible refine Kd.C_drew ?_))); (case side10 => exact HC0_5.out); rintro e w34 ⟨rfl, hb⟩; refine ⟨_, rfl, ?_⟩; have n0_ := Aside0.mk (Kd.R_below (by (with_reducible repeat (first | apply Kd.R_alloc | apply Kd.R_drewN | apply Kd.R_drew)); exact HO176.out) hb); have n1_ := Aside0.mk (blk_below (g := gb171) (o := .cells #[.int .i64 a0_0, .slice A0_1 l0_1.length c0_1, .slice A0_2 l0_2.length c0_2, .slice A0_3 l0_3.length c0_3, .slice A0_4 l0_4.length c0_4, .slice A0_5 l0_5.length c0_5] 26 (0, 0)) (by (with_reducible repeat (first | refine blk_drewN ?_ _ | refine blk_drew ?_ | refine blk_alloc ?_ _)); exact BK171.out) hb); have n2_ := Aside0.mk (below_step (by repeat (first | (with_reducible first | exact HB.out | apply below_alloc | apply pw_below_drewN | apply below_drew1 | refine below_set ?_ GE171.out) | exact HB.out)) hb); clear HO176; clear BK171; clear HB; have HO176 := n0_; have BK171 := n1_; have HB := n2_; clear n0_ n1_ n2_; (try clear hb); (try clear hb2); (try clear hk); (try clear hi)))
        go_meet
        case rel => exact ⟨_, (true), (by first | rfl | (simp; done) | (simp [*]; done)), H', ⟨by have := HJ5.out; first | omega | exact Nat.le_refl _⟩, ⟨by (with_reducible repeat (first | apply Kd.R_alloc | apply Kd.R_drewN | apply Kd.R_drew)); exact HO176.out⟩, ⟨by (with_reducible repeat (first | refine blk_drewN ?_ _ | refine blk_drew ?_ | refine blk_alloc ?_ _)); exact BK171.out⟩, ⟨by repeat (first | (with_reducible first | exact HB.out | apply below_alloc | apply pw_below_drewN | apply below_drew1 | refine below_set ?_ GE171.out) | exact HB.out)⟩⟩
      case rest =>
       as_aux_lemma =>
        clear HC22
        try clear c1
        try clear c2
        try clear p2
        try clear c3
        try clear p6
        try clear c9
        try clear c12
        try clear c12b0
        try clear c12b1
        try clear c17
        try clear c21
        try clear c21b0
        try clear c21b1
        try clear c23
        try clear c24
        try clear c25
        try clear c26
        try clear hcz10_0
        try clear hcz10_1
        try clear hcz10_2
        try clear hcz10_3
        try clear hcz10_4
        try clear hcz10_5
        try clear hcz13_0
        try clear hcz13_1
        try clear hcz13_2
        try clear hcz13_3
        try clear hcz13_4
        try clear hcz13_5
        try clear hcz15_0
        try clear hcz15_1
        try clear hcz15_2
        try clear hcz15_3
        try clear hcz15_4
        try clear hcz15_5
        try clear hcz23_0
        try clear hcz23_1
        try clear hcz23_2
        try clear hcz23_3
        try clear hcz23_4
        try clear hcz23_5
        try clear hcz28_0
        try clear hcz28_1
        try clear hcz28_2
        try clear hcz28_3
        try clear hcz28_4
        try clear hcz28_5
        try clear hcz31_0
        try clear hcz31_1
        try clear hcz31_2
        try clear hcz31_3
        try clear hcz31_4
        try clear hcz31_5
        try clear hcz33_0
        try clear hcz33_1
        try clear hcz33_2
        try clear hcz33_3
        try clear hcz33_4
        try clear hcz33_5
        try clear hfz10_0
        try clear hfz10_1
        try clear hfz10_2
        try clear hfz10_3
        try clear hfz10_4
        try clear hfz10_5
        try clear hfz13_0
        try clear hfz13_1
        try clear hfz13_2
        try clear hfz13_3
        try clear hfz13_4
        try clear hfz13_5
        try clear hfz15_0
        try clear hfz15_1
        try clear hfz15_2
        try clear hfz15_3
        try clear hfz15_4
        try clear hfz15_5
        try clear hfz23_0
        try clear hfz23_1
        try clear hfz23_2
        try clear hfz23_3
        try clear hfz23_4
        try clear hfz23_5
        try clear hfz28_0
        try clear hfz28_1
        try clear hfz28_2
        try clear hfz28_3
        try clear hfz28_4
        try clear hfz28_5
        try clear hfz31_0
        try clear hfz31_1
        try clear hfz31_2
        try clear hfz31_3
        try clear hfz31_4
        try clear hfz31_5
        try clear hfz33_0
        try clear hfz33_1
        try clear hfz33_2
        try clear hfz33_3
        try clear hfz33_4
        try clear hfz33_5
        try clear p2
        obtain ⟨kq, x65_21, rfl, HA, HJ21, HO_11, BK171, HB⟩ := hcut
        cases kq with
        | zero => exact absurd HA.out (by simp [inquestlaw09_ConeGrows.j1])
        | succ kj21 =>
         have H := HA.out
         clear HA
         simp only [inquestlaw09_ConeGrows.j1] at H
         by_cases c35 : x65_21 = true
         ·
          subst c35
          have H1 : (some false) = some r := by rw [if_pos rfl] at H; exact H
          clear H
          have H := H1
          clear H1
          exact absurd (hrt.out.symm.trans (Option.some.inj H).symm) (by decide)
         ·
          replace c35 := Bool.eq_false_iff.mpr c35
          subst c35
          have H1 : (if ([] : List Int).length + l1.length < 35184372088832 then (inquestlaw09_ConeGrows.l0 kj21 l2 a3 a4 t174 (([] : List Int) ++ l1) (l0_1.length : Int) 0 a0_0 l0_1 l0_2 l0_3 l0_4 l0_5) else (none)) = some r := by rw [if_neg (show ¬ (false = true) by decide)] at H; exact H
          clear H
          have H := H1
          clear H1
          by_cases c36 : ([] : List Int).length + l1.length < 35184372088832
          ·
           rw [if_pos c36] at H
           have LMc36 := Aside0.mk c36
           clear c36
           obtain ⟨y181, hy181⟩ : ∃ y_ : List Int, y_ = (([] : List Int) ++ l1) := ⟨_, rfl⟩
           replace H : (inquestlaw09_ConeGrows.l0 kj21 l2 a3 a4 t174 y181 (l0_1.length : Int) 0 a0_0 l0_1 l0_2 l0_3 l0_4 l0_5) = some r := by first | (rw [hy181]; with_reducible exact H) | (have H2_ := (Option.bind_some _ _).symm.trans H; rw [hy181]; with_reducible exact H2_) | (have H2_ := (Option.bind_some _ _).symm.trans H; with_reducible exact H2_) | with_reducible exact H | (rw [hy181]; exact H) | exact H
           have Ny181 := Aside0.mk hy181
           clear hy181
           have H' := Aside0.mk H
           clear H
           go_wp2_with (first | ((with_reducible refine gate_builtin (b := .append) (xs := #[.tmp 66, .tmp 67]) rfl ?_); (try (refine gate_guard (by rfl) ?_; dsimp only)); at_builtin; refine Kd.R_append_rows (Kd.int .u32) (w0 := w) w.heap.size rfl (.tmp 66) (.tmp 67) 24 39 (.int .u32 0) 4 rfl Try.underlying24 info39 rfl (by decide) (by omega) (.slice none 0 0) ([] : List Int) l1 _ _ _ (fun _ => True) (fun _ => False) rfl rfl ?aO ?aR (fun _ _ h => h) (fun _ h => h.elim) ?aF ?aB ?aS ?aL ?_; (case aR => repeat (first | exact (Kd.C_below HR1.out HB.out) | (with_reducible refine Kd.C_alloc ?_ _) | (with_reducible refine Kd.C_drewN ?_ _) | (with_reducible refine Kd.C_drew ?_))); (case aB => exact (by repeat (first | (with_reducible first | exact HB.out | apply below_alloc | apply pw_below_drewN | apply below_drew1 | refine below_set ?_ GE171.out) | exact HB.out))); (case aF => exact (fun _ _ => trivial)); (case aO => exact ((Kd.R_nil _ _ _ _ (fun _ => True)))); (case aS => exact (below_size (by repeat (first | (with_reducible first | exact HB.out | apply below_alloc | apply pw_below_drewN | apply below_drew1 | refine below_set ?_ GE171.out) | exact HB.out)))); (case aL => have := LMc36.out; omega); intro v182 w37 ho hb hg hat; rw [← Ny181.out] at ho; have n0_ := Aside0.mk (Kd.R_grown (by (with_reducible repeat (first | apply Kd.R_alloc | apply Kd.R_drewN | apply Kd.R_drew)); exact HO_11.out) hg (fun _ _ => by simp [Value.ownBlock])); have n1_ := Aside0.mk (blk_grown (g := gb171) (o := .cells #[.int .i64 a0_0, .slice A0_1 l0_1.length c0_1, .slice A0_2 l0_2.length c0_2, .slice A0_3 l0_3.length c0_3, .slice A0_4 l0_4.length c0_4, .slice A0_5 l0_5.length c0_5] 26 (0, 0)) (by (with_reducible repeat (first | refine blk_drewN ?_ _ | refine blk_drew ?_ | refine blk_alloc ?_ _)); exact BK171.out) hg (by simp [Value.ownBlock])); have n2_ := Aside0.mk (hb); have n3_ := Aside0.mk (ho); clear HO_11; clear BK171; clear HB; have HO_11 := n0_; have BK171 := n1_; have HB := n2_; have HO183 := n3_; clear n0_ n1_ n2_ n3_; clear ho hb hg hat; have hcz38_0 : w37.cell? ⟨gb171, 0, none⟩ = some (.int .i64 a0_0) := (blk_cell BK171.out 0).trans rfl; have hcz38_1 : w37.cell? ⟨gb171, 1, none⟩ = some (.slice A0_1 l0_1.length c0_1) := (blk_cell BK171.out 1).trans rfl; have hcz38_2 : w37.cell? ⟨gb171, 2, none⟩ = some (.slice A0_2 l0_2.length c0_2) := (blk_cell BK171.out 2).trans rfl; have hcz38_3 : w37.cell? ⟨gb171, 3, none⟩ = some (.slice A0_3 l0_3.length c0_3) := (blk_cell BK171.out 3).trans rfl; have hcz38_4 : w37.cell? ⟨gb171, 4, none⟩ = some (.slice A0_4 l0_4.length c0_4) := (blk_cell BK171.out 4).trans rfl; have hcz38_5 : w37.cell? ⟨gb171, 5, none⟩ = some (.slice A0_5 l0_5.length c0_5) := (blk_cell BK171.out 5).trans rfl; have hfz38_0 := blk_frozen BK171.out 0; have hfz38_1 := blk_frozen BK171.out 1; have hfz38_2 := blk_frozen BK171.out 2; have hfz38_3 := blk_frozen BK171.out 3; have hfz38_4 := blk_frozen BK171.out 4; have hfz38_5 := blk_frozen BK171.out 5))
           go_loopg [13, 72] kj21 (fun kq v13 v72 w' => ∃ (x13_3 : List Int) (x72_3 : Int), v72 = .int .i64 x72_3 ∧ Aside0 (inquestlaw09_ConeGrows.l0 kq l2 a3 a4 t174 x13_3 (l0_1.length : Int) x72_3 a0_0 l0_1 l0_2 l0_3 l0_4 l0_5 = some r) ∧ Aside0 (kq ≤ kj21) ∧ Aside0 (Kd.R Kd.bool 4 w' w.heap.size (fun _ => True) v175 t174) ∧ Aside0 (Kd.R (Kd.int .u32) 39 w' w.heap.size (fun _ => True) v13 x13_3) ∧ Aside0 (w'.heap[gb171]? = some (.cells #[.int .i64 a0_0, (.slice A0_1 l0_1.length c0_1), (.slice A0_2 l0_2.length c0_2), (.slice A0_3 l0_3.length c0_3), (.slice A0_4 l0_4.length c0_4), (.slice A0_5 l0_5.length c0_5)] 26 (0, 0))) ∧ Aside0 (Below w.heap.size w w'))
           case atStart => exact ⟨(y181), (0), (by first | rfl | (simp; done) | (simp [*]; done)), H', ⟨Nat.le_refl _⟩, ⟨by (with_reducible repeat (first | apply Kd.R_alloc | apply Kd.R_drewN | apply Kd.R_drew)); exact HO_11.out⟩, ⟨by (with_reducible repeat (first | apply Kd.R_alloc | apply Kd.R_drewN | apply Kd.R_drew)); exact HO183.out⟩, ⟨by (with_reducible repeat (first | refine blk_drewN ?_ _ | refine blk_drew ?_ | refine blk_alloc ?_ _)); exact BK171.out⟩, ⟨by repeat (first | (with_reducible first | exact HB.out | apply below_alloc | apply pw_below_drewN | apply below_drew1 | refine below_set ?_ GE171.out) | exact HB.out)⟩⟩
           case round =>
            as_aux_lemma =>
             clear H'
             try clear c1
             try clear c2
             try clear p2
             try clear c3
             try clear p6
             try clear c9
             try clear c12
             try clear c12b0
             try clear c12b1
             try clear c17
             try clear c21
             try clear c21b0
             try clear c21b1
             try clear c23
             try clear c24
             try clear c25
             try clear c26
             try clear c35
             try clear c36
             try clear hcz10_0
             try clear hcz10_1
             try clear hcz10_2
             try clear hcz10_3
             try clear hcz10_4
             try clear hcz10_5
             try clear hcz13_0
             try clear hcz13_1
             try clear hcz13_2
             try clear hcz13_3
             try clear hcz13_4
             try clear hcz13_5
             try clear hcz15_0
             try clear hcz15_1
             try clear hcz15_2
             try clear hcz15_3
             try clear hcz15_4
             try clear hcz15_5
             try clear hcz23_0
             try clear hcz23_1
             try clear hcz23_2
             try clear hcz23_3
             try clear hcz23_4
             try clear hcz23_5
             try clear hcz28_0
             try clear hcz28_1
             try clear hcz28_2
             try clear hcz28_3
             try clear hcz28_4
             try clear hcz28_5
             try clear hcz31_0
             try clear hcz31_1
             try clear hcz31_2
             try clear hcz31_3
             try clear hcz31_4
             try clear hcz31_5
             try clear hcz33_0
             try clear hcz33_1
             try clear hcz33_2
             try clear hcz33_3
             try clear hcz33_4
             try clear hcz33_5
             try clear hcz38_0
             try clear hcz38_1
             try clear hcz38_2
             try clear hcz38_3
             try clear hcz38_4
             try clear hcz38_5
             try clear hfz10_0
             try clear hfz10_1
             try clear hfz10_2
             try clear hfz10_3
             try clear hfz10_4
             try clear hfz10_5
             try clear hfz13_0
             try clear hfz13_1
             try clear hfz13_2
             try clear hfz13_3
             try clear hfz13_4
             try clear hfz13_5
             try clear hfz15_0
             try clear hfz15_1
             try clear hfz15_2
             try clear hfz15_3
             try clear hfz15_4
             try clear hfz15_5
             try clear hfz23_0
             try clear hfz23_1
             try clear hfz23_2
             try clear hfz23_3
             try clear hfz23_4
             try clear hfz23_5
             try clear hfz28_0
             try clear hfz28_1
             try clear hfz28_2
             try clear hfz28_3
             try clear hfz28_4
             try clear hfz28_5
             try clear hfz31_0
             try clear hfz31_1
             try clear hfz31_2
             try clear hfz31_3
             try clear hfz31_4
             try clear hfz31_5
             try clear hfz33_0
             try clear hfz33_1
             try clear hfz33_2
             try clear hfz33_3
             try clear hfz33_4
             try clear hfz33_5
             try clear hfz38_0
             try clear hfz38_1
             try clear hfz38_2
             try clear hfz38_3
             try clear hfz38_4
             try clear hfz38_5
             try clear p2
             try clear p6
             obtain ⟨x13_3, x72_3, rfl, HA, HK3, HO_11, HO_13, BK171, HB⟩ := hrel
             cases gk with
             | zero => exact absurd HA.out (by simp [inquestlaw09_ConeGrows.l0])
             | succ k3 =>
              have H := HA.out
              clear HA
              simp only [inquestlaw09_ConeGrows.l0] at H
              by_cases c39 : x72_3 < (l0_1.length : Int)
              ·
               rw [if_pos c39] at H
               have c39b0 : decide (x72_3 < (l0_1.length : Int)) = true := decide_eq_true c39
               clear c39
               obtain ⟨ji40, hji40⟩ : ∃ j_ : Int, (wrap64 ((wrap64 (1 + a0_0)) + x72_3)) = j_ := ⟨_, rfl⟩
               replace H : (if 0 ≤ (ji40) then (if (ji40) < (t174.length : Int) then (if rdOf false t174 (ji40) = true then (if 0 ≤ x72_3 then (if x72_3 < (l0_1.length : Int) then (if x13_3.length < 35184372088832 then (inquestlaw09_ConeGrows.l0 k3 l2 a3 a4 t174 (x13_3 ++ [(rd_T41 l0_1 x72_3).f0]) (l0_1.length : Int) (wrap64 (x72_3 + 1)) a0_0 l0_1 l0_2 l0_3 l0_4 l0_5) else (none)) else (none)) else (none)) else (inquestlaw09_ConeGrows.l0 k3 l2 a3 a4 t174 x13_3 (l0_1.length : Int) (wrap64 (x72_3 + 1)) a0_0 l0_1 l0_2 l0_3 l0_4 l0_5)) else (none)) else (none)) = some r := by first | (rw [hji40] at H; exact H) | (simp only [hji40] at H ⊢; exact H)
               have hji40w : (IntKind.i64.wrap ((wrap64 (1 + a0_0)) + x72_3)) = ji40 := (i64_w _).trans hji40
               by_cases c41 : 0 ≤ (ji40)
               ·
                rw [if_pos c41] at H
                have c41b0 : decide (0 ≤ (ji40)) = true := decide_eq_true c41
                clear c41
                by_cases c42 : (ji40) < (t174.length : Int)
                ·
                 rw [if_pos c42] at H
                 have c42b0 : decide ((ji40) < (t174.length : Int)) = true := decide_eq_true c42
                 clear c42
                 obtain ⟨bq43, hbq43⟩ : ∃ b_ : Bool, b_ = (rdOf false t174 (ji40)) := ⟨_, rfl⟩
                 replace H : (if bq43 = true then (if 0 ≤ x72_3 then (if x72_3 < (l0_1.length : Int) then (if x13_3.length < 35184372088832 then (inquestlaw09_ConeGrows.l0 k3 l2 a3 a4 t174 (x13_3 ++ [(rd_T41 l0_1 x72_3).f0]) (l0_1.length : Int) (wrap64 (x72_3 + 1)) a0_0 l0_1 l0_2 l0_3 l0_4 l0_5) else (none)) else (none)) else (none)) else (inquestlaw09_ConeGrows.l0 k3 l2 a3 a4 t174 x13_3 (l0_1.length : Int) (wrap64 (x72_3 + 1)) a0_0 l0_1 l0_2 l0_3 l0_4 l0_5)) = some r := by rw [← hbq43] at H; exact H
                 have Nbq43 := Aside0.mk hbq43
                 clear hbq43
                 by_cases c44 : bq43 = true
                 ·
                  subst c44
                  have H1 : (if 0 ≤ x72_3 then (if x72_3 < (l0_1.length : Int) then (if x13_3.length < 35184372088832 then (inquestlaw09_ConeGrows.l0 k3 l2 a3 a4 t174 (x13_3 ++ [(rd_T41 l0_1 x72_3).f0]) (l0_1.length : Int) (wrap64 (x72_3 + 1)) a0_0 l0_1 l0_2 l0_3 l0_4 l0_5) else (none)) else (none)) else (none)) = some r := by rw [if_pos rfl] at H; exact H
                  clear H
                  have H := H1
                  clear H1
                  by_cases c45 : 0 ≤ x72_3
                  ·
                   rw [if_pos c45] at H
                   have c45b0 : decide (0 ≤ x72_3) = true := decide_eq_true c45
                   clear c45
                   by_cases c46 : x72_3 < (l0_1.length : Int)
                   ·
                    rw [if_pos c46] at H
                    have c46b0 : decide (x72_3 < (l0_1.length : Int)) = true := decide_eq_true c46
                    clear c46
                    by_cases c47 : x13_3.length < 35184372088832
                    ·
                     rw [if_pos c47] at H
                     have LMc47 := Aside0.mk c47
                     clear c47
                     obtain ⟨y186, hy186⟩ : ∃ y_ : List Int, y_ = (x13_3 ++ [(rd_T41 l0_1 x72_3).f0]) := ⟨_, rfl⟩
                     replace H : (inquestlaw09_ConeGrows.l0 k3 l2 a3 a4 t174 y186 (l0_1.length : Int) (wrap64 (x72_3 + 1)) a0_0 l0_1 l0_2 l0_3 l0_4 l0_5) = some r := by first | (rw [hy186]; with_reducible exact H) | (have H2_ := (Option.bind_some _ _).symm.trans H; rw [hy186]; with_reducible exact H2_) | (have H2_ := (Option.bind_some _ _).symm.trans H; with_reducible exact H2_) | with_reducible exact H | (rw [hy186]; exact H) | exact H
                     have Ny186 := Aside0.mk hy186
                     clear hy186
                     have H' := Aside0.mk H
                     clear H
                     have hcz48_0 : wr.cell? ⟨gb171, 0, none⟩ = some (.int .i64 a0_0) := (blk_cell BK171.out 0).trans rfl
                     have hcz48_1 : wr.cell? ⟨gb171, 1, none⟩ = some (.slice A0_1 l0_1.length c0_1) := (blk_cell BK171.out 1).trans rfl
                     have hcz48_2 : wr.cell? ⟨gb171, 2, none⟩ = some (.slice A0_2 l0_2.length c0_2) := (blk_cell BK171.out 2).trans rfl
                     have hcz48_3 : wr.cell? ⟨gb171, 3, none⟩ = some (.slice A0_3 l0_3.length c0_3) := (blk_cell BK171.out 3).trans rfl
                     have hcz48_4 : wr.cell? ⟨gb171, 4, none⟩ = some (.slice A0_4 l0_4.length c0_4) := (blk_cell BK171.out 4).trans rfl
                     have hcz48_5 : wr.cell? ⟨gb171, 5, none⟩ = some (.slice A0_5 l0_5.length c0_5) := (blk_cell BK171.out 5).trans rfl
                     have hfz48_0 := blk_frozen BK171.out 0
                     have hfz48_1 := blk_frozen BK171.out 1
                     have hfz48_2 := blk_frozen BK171.out 2
                     have hfz48_3 := blk_frozen BK171.out 3
                     have hfz48_4 := blk_frozen BK171.out 4
                     have hfz48_5 := blk_frozen BK171.out 5
                     obtain ⟨Ao49, co49, eo49⟩ := Kd.R_slice HO_11.out
                     subst eo49
                     have p184 : 0 ≤ ((ji40) : Int) := of_decide_eq_true (by first | (with_reducible assumption) | assumption)
                     have q184 : (ji40) < (t174.length : Int) := of_decide_eq_true (by first | (with_reducible assumption) | assumption)
                     obtain ⟨ad184, e184, hx184_0⟩ := Kd.at_bool (Kd.R_reads' HO_11.out).2.2 (ji40) p184 q184
                     (try rw [← Nbq43.out] at hx184_0)
                     cases e184
                     replace p184 := eq_true p184
                     replace q184 := eq_true q184
                     have p185 : 0 ≤ (x72_3 : Int) := of_decide_eq_true (by first | (with_reducible assumption) | assumption)
                     have q185 : x72_3 < (l0_1.length : Int) := of_decide_eq_true (by first | (with_reducible assumption) | assumption)
                     obtain ⟨ad185, e185, hx185_0, hx185_1⟩ := at_T41 HR0_1.out x72_3 p185 q185
                     cases e185
                     replace hx185_0 := (HB.out.cell (World.block_lt_of_cell? w _ hx185_0)).trans hx185_0
                     replace hx185_1 := (HB.out.cell (World.block_lt_of_cell? w _ hx185_1)).trans hx185_1
                     replace p185 := eq_true p185
                     replace q185 := eq_true q185
                     go_wp2_with (first | ((with_reducible refine gate_builtin (b := .append) (xs := #[.tmp 83, .tmp 90]) rfl ?_); (try (refine gate_guard (by rfl) ?_; dsimp only)); at_builtin; refine Kd.R_append (Kd.int .u32) (w0 := w) w.heap.size rfl (.tmp 83) (.tmp 90) 24 39 (.int .u32 0) 4 rfl Try.underlying24 info39 rfl (by decide) (by omega) u13 x13_3 ((rd_T41 l0_1 x72_3).f0) [.int .u32 ((rd_T41 l0_1 x72_3).f0)] (fun _ => True) (fun _ => False) rfl rfl ?aP (fun _ hk => hk.elim) ?aF ?aO ?aB ?aS ?aL ?_; (case aP => exact rfl); (case aB => exact (by repeat (first | (with_reducible first | exact HB.out | apply below_alloc | apply pw_below_drewN | apply below_drew1 | refine below_set ?_ GE171.out) | exact HB.out))); (case aF => exact (fun _ _ => trivial)); (case aO => exact (by (with_reducible repeat (first | apply Kd.R_alloc | apply Kd.R_drewN | apply Kd.R_drew)); exact HO_13.out)); (case aS => exact (below_size (by repeat (first | (with_reducible first | exact HB.out | apply below_alloc | apply pw_below_drewN | apply below_drew1 | refine below_set ?_ GE171.out) | exact HB.out)))); (case aL => have := LMc47.out; omega); intro v187 w50 ho hb hg hat; rw [← Ny186.out] at ho; have n0_ := Aside0.mk (Kd.R_over' (by (with_reducible repeat (first | apply Kd.R_alloc | apply Kd.R_drewN | apply Kd.R_drew)); exact HO_11.out) (Kd.R_typed (by (with_reducible repeat (first | apply Kd.R_alloc | apply Kd.R_drewN | apply Kd.R_drew)); exact HO_13.out)) (by decide) hg); have n1_ := Aside0.mk (blk_grown (g := gb171) (o := .cells #[.int .i64 a0_0, .slice (some ad185) l0_1.length c0_1, .slice A0_2 l0_2.length c0_2, .slice A0_3 l0_3.length c0_3, .slice A0_4 l0_4.length c0_4, .slice A0_5 l0_5.length c0_5] 26 (0, 0)) (by (with_reducible repeat (first | refine blk_drewN ?_ _ | refine blk_drew ?_ | refine blk_alloc ?_ _)); exact BK171.out) hg (Kd.R_ne HO_13.out BK171.out (by decide))); have n2_ := Aside0.mk (hb); have n3_ := Aside0.mk (ho); clear HO_11; clear BK171; clear HB; clear HO_13; have HO_11 := n0_; have BK171 := n1_; have HB := n2_; have HO188 := n3_; clear n0_ n1_ n2_ n3_; clear ho hb hg hat))
                     go_roundg k3
                     case measure => have := HJ5.out; have := HJ21.out; have := HK3.out; omega
                     case rel => exact ⟨(y186), (wrap64 (x72_3 + 1)), (by first | rfl | (simp; done) | (simp [*]; done)), H', ⟨by have := HJ5.out; have := HJ21.out; have := HK3.out; omega⟩, ⟨by (with_reducible repeat (first | apply Kd.R_alloc | apply Kd.R_drewN | apply Kd.R_drew)); exact HO_11.out⟩, ⟨by (with_reducible repeat (first | apply Kd.R_alloc | apply Kd.R_drewN | apply Kd.R_drew)); exact HO188.out⟩, ⟨by (with_reducible repeat (first | refine blk_drewN ?_ _ | refine blk_drew ?_ | refine blk_alloc ?_ _)); exact BK171.out⟩, ⟨by repeat (first | (with_reducible first | exact HB.out | apply below_alloc | apply pw_below_drewN | apply below_drew1 | refine below_set ?_ GE171.out) | exact HB.out)⟩⟩
                    ·
                     rw [if_neg c47] at H
                     exact absurd H (by simp)
                   ·
                    rw [if_neg c46] at H
                    exact absurd H (by simp)
                  ·
                   rw [if_neg c45] at H
                   exact absurd H (by simp)
                 ·
                  replace c44 := Bool.eq_false_iff.mpr c44
                  subst c44
                  have H1 : (inquestlaw09_ConeGrows.l0 k3 l2 a3 a4 t174 x13_3 (l0_1.length : Int) (wrap64 (x72_3 + 1)) a0_0 l0_1 l0_2 l0_3 l0_4 l0_5) = some r := by rw [if_neg (show ¬ (false = true) by decide)] at H; exact H
                  clear H
                  have H := H1
                  clear H1
                  have H' := Aside0.mk H
                  clear H
                  have hcz51_0 : wr.cell? ⟨gb171, 0, none⟩ = some (.int .i64 a0_0) := (blk_cell BK171.out 0).trans rfl
                  have hcz51_1 : wr.cell? ⟨gb171, 1, none⟩ = some (.slice A0_1 l0_1.length c0_1) := (blk_cell BK171.out 1).trans rfl
                  have hcz51_2 : wr.cell? ⟨gb171, 2, none⟩ = some (.slice A0_2 l0_2.length c0_2) := (blk_cell BK171.out 2).trans rfl
                  have hcz51_3 : wr.cell? ⟨gb171, 3, none⟩ = some (.slice A0_3 l0_3.length c0_3) := (blk_cell BK171.out 3).trans rfl
                  have hcz51_4 : wr.cell? ⟨gb171, 4, none⟩ = some (.slice A0_4 l0_4.length c0_4) := (blk_cell BK171.out 4).trans rfl
                  have hcz51_5 : wr.cell? ⟨gb171, 5, none⟩ = some (.slice A0_5 l0_5.length c0_5) := (blk_cell BK171.out 5).trans rfl
                  have hfz51_0 := blk_frozen BK171.out 0
                  have hfz51_1 := blk_frozen BK171.out 1
                  have hfz51_2 := blk_frozen BK171.out 2
                  have hfz51_3 := blk_frozen BK171.out 3
                  have hfz51_4 := blk_frozen BK171.out 4
                  have hfz51_5 := blk_frozen BK171.out 5
                  obtain ⟨Ao52, co52, eo52⟩ := Kd.R_slice HO_11.out
                  subst eo52
                  have p184 : 0 ≤ ((ji40) : Int) := of_decide_eq_true (by first | (with_reducible assumption) | assumption)
                  have q184 : (ji40) < (t174.length : Int) := of_decide_eq_true (by first | (with_reducible assumption) | assumption)
                  obtain ⟨ad184, e184, hx184_0⟩ := Kd.at_bool (Kd.R_reads' HO_11.out).2.2 (ji40) p184 q184
                  (try rw [← Nbq43.out] at hx184_0)
                  cases e184
                  replace p184 := eq_true p184
                  replace q184 := eq_true q184
                  go_wp2
                  go_roundg k3
                  case measure => have := HJ5.out; have := HJ21.out; have := HK3.out; omega
                  case rel => exact ⟨(x13_3), (wrap64 (x72_3 + 1)), (by first | rfl | (simp; done) | (simp [*]; done)), H', ⟨by have := HJ5.out; have := HJ21.out; have := HK3.out; omega⟩, ⟨by (with_reducible repeat (first | apply Kd.R_alloc | apply Kd.R_drewN | apply Kd.R_drew)); exact HO_11.out⟩, ⟨by (with_reducible repeat (first | apply Kd.R_alloc | apply Kd.R_drewN | apply Kd.R_drew)); exact HO_13.out⟩, ⟨by (with_reducible repeat (first | refine blk_drewN ?_ _ | refine blk_drew ?_ | refine blk_alloc ?_ _)); exact BK171.out⟩, ⟨by repeat (first | (with_reducible first | exact HB.out | apply below_alloc | apply pw_below_drewN | apply below_drew1 | refine below_set ?_ GE171.out) | exact HB.out)⟩⟩
                ·
                 rw [if_neg c42] at H
                 exact absurd H (by simp)
               ·
                rw [if_neg c41] at H
                exact absurd H (by simp)
              ·
               rw [if_neg c39] at H
               have c39b0 : decide (x72_3 < (l0_1.length : Int)) = false := decide_eq_false c39
               clear c39
               replace H := Option.bind_eq_some_iff.mp H
               obtain ⟨⟨t189, t192⟩, A530, H⟩ := H
               replace H : (if x13_3.length + l2.length < 35184372088832 then ((cone_Ever.f a0_0 l0_1 l0_2 l0_3 l0_4 l0_5 (x13_3 ++ l2)).bind fun bt196 => (if t192 = 0 then ((inquestref00_Bools.f k3 t189 t174).bind fun t200 => (inquestlaw09_ConeGrows.j3 k3 a3 a4 t174 bt196.1 bt196.2 (!t200) a0_0 l0_1 l0_2 l0_3 l0_4 l0_5)) else (inquestlaw09_ConeGrows.j3 k3 a3 a4 t174 bt196.1 bt196.2 true a0_0 l0_1 l0_2 l0_3 l0_4 l0_5))) else (none)) = some r := H
               have A53 := Aside0.mk A530
               clear A530
               by_cases c54 : x13_3.length + l2.length < 35184372088832
               ·
                rw [if_pos c54] at H
                have LMc54 := Aside0.mk c54
                clear c54
                obtain ⟨y193, hy193⟩ : ∃ y_ : List Int, y_ = (x13_3 ++ l2) := ⟨_, rfl⟩
                replace H : ((cone_Ever.f a0_0 l0_1 l0_2 l0_3 l0_4 l0_5 y193).bind fun bt196 => (if t192 = 0 then ((inquestref00_Bools.f k3 t189 t174).bind fun t200 => (inquestlaw09_ConeGrows.j3 k3 a3 a4 t174 bt196.1 bt196.2 (!t200) a0_0 l0_1 l0_2 l0_3 l0_4 l0_5)) else (inquestlaw09_ConeGrows.j3 k3 a3 a4 t174 bt196.1 bt196.2 true a0_0 l0_1 l0_2 l0_3 l0_4 l0_5))) = some r := by first | (rw [hy193]; with_reducible exact H) | (have H2_ := (Option.bind_some _ _).symm.trans H; rw [hy193]; with_reducible exact H2_) | (have H2_ := (Option.bind_some _ _).symm.trans H; with_reducible exact H2_) | with_reducible exact H | (rw [hy193]; exact H) | exact H
                have Ny193 := Aside0.mk hy193
                clear hy193
                replace H := Option.bind_eq_some_iff.mp H
                obtain ⟨⟨t196, t199⟩, A550, H⟩ := H
                replace H : (if t192 = 0 then ((inquestref00_Bools.f k3 t189 t174).bind fun t200 => (inquestlaw09_ConeGrows.j3 k3 a3 a4 t174 t196 t199 (!t200) a0_0 l0_1 l0_2 l0_3 l0_4 l0_5)) else (inquestlaw09_ConeGrows.j3 k3 a3 a4 t174 t196 t199 true a0_0 l0_1 l0_2 l0_3 l0_4 l0_5)) = some r := H
                have A55 := Aside0.mk A550
                clear A550
                have HC56 := Aside0.mk H
                clear H
                have hcz57_0 : wr.cell? ⟨gb171, 0, none⟩ = some (.int .i64 a0_0) := (blk_cell BK171.out 0).trans rfl
                have hcz57_1 : wr.cell? ⟨gb171, 1, none⟩ = some (.slice A0_1 l0_1.length c0_1) := (blk_cell BK171.out 1).trans rfl
                have hcz57_2 : wr.cell? ⟨gb171, 2, none⟩ = some (.slice A0_2 l0_2.length c0_2) := (blk_cell BK171.out 2).trans rfl
                have hcz57_3 : wr.cell? ⟨gb171, 3, none⟩ = some (.slice A0_3 l0_3.length c0_3) := (blk_cell BK171.out 3).trans rfl
                have hcz57_4 : wr.cell? ⟨gb171, 4, none⟩ = some (.slice A0_4 l0_4.length c0_4) := (blk_cell BK171.out 4).trans rfl
                have hcz57_5 : wr.cell? ⟨gb171, 5, none⟩ = some (.slice A0_5 l0_5.length c0_5) := (blk_cell BK171.out 5).trans rfl
                have hfz57_0 := blk_frozen BK171.out 0
                have hfz57_1 := blk_frozen BK171.out 1
                have hfz57_2 := blk_frozen BK171.out 2
                have hfz57_3 := blk_frozen BK171.out 3
                have hfz57_4 := blk_frozen BK171.out 4
                have hfz57_5 := blk_frozen BK171.out 5
                obtain ⟨Ao58, co58, eo58⟩ := Kd.R_slice HO_13.out
                subst eo58
                try go_wp2_with (first | ((with_reducible refine gate_callee (f := 28) rfl ?_); refine goesL_ (some 96) rfl rfl Try.func28 (by kernel_rfl) rfl #[.agg #[.int .i64 a0_0, .slice A0_1 l0_1.length c0_1, .slice A0_2 l0_2.length c0_2, .slice A0_3 l0_3.length c0_3, .slice A0_4 l0_4.length c0_4, .slice A0_5 l0_5.length c0_5], .slice Ao58 x13_3.length co58] rfl (by (try simp only [List.map_toArray, List.map_cons, List.map_nil]); first | done | rfl | (simp only [List.length_drop, List.length_take]; rfl)) ?_; (with_reducible refine (cone_Of.calls a0_0 _ _ l0_1 _ _ l0_2 _ _ l0_3 _ _ l0_4 _ _ l0_5 _ _ x13_3 t189 t192 _ ?side1 ?side2 ?side3 ?side4 ?side5 ?side6 ?side7 ?side8 ?side9 ?side10 ?side11 ?side12 A53.out).mono ?_); (case side1 => repeat (first | exact (Kd.C_below HR0_1.out HB.out) | (with_reducible refine Kd.C_alloc ?_ _) | (with_reducible refine Kd.C_drewN ?_ _) | (with_reducible refine Kd.C_drew ?_))); (case side2 => exact HC0_1.out); (case side3 => repeat (first | exact (Kd.C_below HR0_2.out HB.out) | (with_reducible refine Kd.C_alloc ?_ _) | (with_reducible refine Kd.C_drewN ?_ _) | (with_reducible refine Kd.C_drew ?_))); (case side4 => exact HC0_2.out); (case side5 => repeat (first | exact (Kd.C_below HR0_3.out HB.out) | (with_reducible refine Kd.C_alloc ?_ _) | (with_reducible refine Kd.C_drewN ?_ _) | (with_reducible refine Kd.C_drew ?_))); (case side6 => exact HC0_3.out); (case side7 => repeat (first | exact (Kd.C_below HR0_4.out HB.out) | (with_reducible refine Kd.C_alloc ?_ _) | (with_reducible refine Kd.C_drewN ?_ _) | (with_reducible refine Kd.C_drew ?_))); (case side8 => exact HC0_4.out); (case side9 => repeat (first | exact (Kd.C_below HR0_5.out HB.out) | (with_reducible refine Kd.C_alloc ?_ _) | (with_reducible refine Kd.C_drewN ?_ _) | (with_reducible refine Kd.C_drew ?_))); (case side10 => exact HC0_5.out); (case side11 => repeat (first | exact (Kd.R_reads' HO_13.out).2.2 | (with_reducible refine Kd.C_alloc ?_ _) | (with_reducible refine Kd.C_drewN ?_ _) | (with_reducible refine Kd.C_drew ?_))); (case side12 => exact (Kd.R_reads' HO_13.out).2.1); rintro e w59 ⟨v190, rfl, ho0, hb⟩; refine ⟨_, rfl, ?_⟩; have n0_ := Aside0.mk (Kd.R_elder' (by (with_reducible repeat (first | apply Kd.R_alloc | apply Kd.R_drewN | apply Kd.R_drew)); exact HO_11.out) (Kd.R_base ho0) hb); have n1_ := Aside0.mk (Kd.R_below (by (with_reducible repeat (first | apply Kd.R_alloc | apply Kd.R_drewN | apply Kd.R_drew)); exact HO_13.out) hb); have n2_ := Aside0.mk (Kd.R_lower (Kd.R_new' ho0 (Kd.R_lt (by (with_reducible repeat (first | apply Kd.R_alloc | apply Kd.R_drewN | apply Kd.R_drew)); exact HO_11.out))) (below_size (by repeat (first | (with_reducible first | exact HB.out | apply below_alloc | apply pw_below_drewN | apply below_drew1 | refine below_set ?_ GE171.out) | exact HB.out)))); have n3_ := Aside0.mk (blk_below (g := gb171) (o := .cells #[.int .i64 a0_0, .slice A0_1 l0_1.length c0_1, .slice A0_2 l0_2.length c0_2, .slice A0_3 l0_3.length c0_3, .slice A0_4 l0_4.length c0_4, .slice A0_5 l0_5.length c0_5] 26 (0, 0)) (by (with_reducible repeat (first | refine blk_drewN ?_ _ | refine blk_drew ?_ | refine blk_alloc ?_ _)); exact BK171.out) hb); have n4_ := Aside0.mk (below_step (by repeat (first | (with_reducible first | exact HB.out | apply below_alloc | apply pw_below_drewN | apply below_drew1 | refine below_set ?_ GE171.out) | exact HB.out)) hb); clear HO_11; clear HO_13; clear BK171; clear HB; have HO_11 := n0_; have HO_13 := n1_; have HO191 := n2_; have BK171 := n3_; have HB := n4_; clear n0_ n1_ n2_ n3_ n4_; (try clear hb); (try clear hb2); (try clear hk); (try clear hi); (try clear ho0)))
                have n0_ := Aside0.mk (Kd.R_drew HO_11.out)
                have n1_ := Aside0.mk (Kd.R_drew HO_13.out)
                have n2_ := Aside0.mk (Kd.R_drew HO191.out)
                have n3_ := Aside0.mk (blk_drew BK171.out)
                have n4_ := Aside0.mk (below_drew1 HB.out)
                clear HO_11
                clear HO_13
                clear HO191
                clear BK171
                clear HB
                have HO_11 := n0_
                have HO_13 := n1_
                have HO191 := n2_
                have BK171 := n3_
                have HB := n4_
                clear n0_ n1_ n2_ n3_ n4_
                refine start_ (n := 10) (S := fun w' => w'.cell? ⟨gb171, 0, none⟩ = some (.int .i64 a0_0) ∧ w'.cell? ⟨gb171, 1, none⟩ = some (.slice A0_1 l0_1.length c0_1) ∧ w'.cell? ⟨gb171, 2, none⟩ = some (.slice A0_2 l0_2.length c0_2) ∧ w'.cell? ⟨gb171, 3, none⟩ = some (.slice A0_3 l0_3.length c0_3) ∧ w'.cell? ⟨gb171, 4, none⟩ = some (.slice A0_4 l0_4.length c0_4) ∧ w'.cell? ⟨gb171, 5, none⟩ = some (.slice A0_5 l0_5.length c0_5)) (ds := []) #[false, false, false, false, false, false, false, false, false, false] (by kernel_rfl) rfl rfl ⟨(blk_cell BK171.out 0).trans rfl, (blk_cell BK171.out 1).trans rfl, (blk_cell BK171.out 2).trans rfl, (blk_cell BK171.out 3).trans rfl, (blk_cell BK171.out 4).trans rfl, (blk_cell BK171.out 5).trans rfl⟩ (fun hHeld => ?_); refine with_tabW inquestlaw09_ConeGrows.tab17 inquestlaw09_ConeGrows.bits17 (fun HT_ HW_ => ?_)
                generalize w59.drew = w60 at HO_11 HO_13 HO191 BK171 HB hHeld ⊢
                refine pure_ (i := 1) (N := some 101) (v := ?_) (a' := ?_) #[false, true, false, false, false, false, false, false, false, false] rfl rfl (any_of HT_.out (by kernel_rfl)) (fun _ _ _ h => h) (Or.inl ⟨by rfl, ?_⟩) ?_ ?_
                rotate_left
                ·
                 intro w'
                 go_simp
                 with_reducible rfl
                rotate_left
                ·
                 simp only [Act.put, List.setIfInBounds_toArray, List.set_cons_zero, List.set_cons_succ, i64_w, i32_w]
                 rfl
                refine pure_ (i := 2) (N := some 102) (v := ?_) (a' := ?_) #[false, true, true, false, false, false, false, false, false, false] rfl rfl (any_of HT_.out (by kernel_rfl)) (fun _ _ _ h => h) (Or.inl ⟨by rfl, ?_⟩) ?_ ?_
                rotate_left
                ·
                 intro w'
                 go_simp
                 with_reducible rfl
                rotate_left
                ·
                 simp only [Act.put, List.setIfInBounds_toArray, List.set_cons_zero, List.set_cons_succ, i64_w, i32_w]
                 rfl
                refine take_ (i := 0) (N := some 100) (v := ?_) (a' := ?_) #[true, true, true, false, false, false, false, false, false, false] rfl rfl (take_ofW HT_.out HW_.out (by kernel_rfl)) (fun _ _ _ h => h) (Or.inl ⟨by rfl, ?_⟩) hHeld ?_ ?_
                rotate_left
                ·
                 rintro w' ⟨s0, s1, s2, s3, s4, s5⟩
                 go_simp
                 with_reducible rfl
                rotate_left
                ·
                 simp only [Act.put, List.setIfInBounds_toArray, List.set_cons_zero, List.set_cons_succ, i64_w, i32_w]
                 rfl
                refine one_ (i := 3) (N := some 103) #[true, true, true, true, false, false, false, false, false, false] rfl rfl (one_of HT_.out (by kernel_rfl)) (by decide) (fun K hK => ?_)
                refine Kd.R_append_rows_step (Kd.int .u32) (w0 := w) w.heap.size (by rfl) (.tmp 101) (.tmp 102) 24 39 (.int .u32 0) 4 rfl Try.underlying24 info39 rfl (by decide) (by omega) (.slice Ao58 x13_3.length co58) x13_3 l2 _ _ _ (fun _ => True) (fun _ => False) rfl rfl ?aO ?aR (fun _ _ h => h) (fun _ h => h.elim) ?aF ?aB ?aS ?aL ?_
                (case aR => repeat (first | exact (Kd.C_below HR2.out HB.out) | (with_reducible refine Kd.C_alloc ?_ _) | (with_reducible refine Kd.C_drewN ?_ _) | (with_reducible refine Kd.C_drew ?_)))
                (case aB => exact (by repeat (first | (with_reducible first | exact HB.out | apply below_alloc | apply pw_below_drewN | apply below_drew1 | refine below_set ?_ GE171.out) | exact HB.out)))
                (case aF => exact (fun _ _ => trivial))
                (case aO => exact (by (with_reducible repeat (first | apply Kd.R_alloc | apply Kd.R_drewN | apply Kd.R_drew)); exact HO_13.out))
                (case aS => exact (below_size (by repeat (first | (with_reducible first | exact HB.out | apply below_alloc | apply pw_below_drewN | apply below_drew1 | refine below_set ?_ GE171.out) | exact HB.out))))
                (case aL => have := LMc54.out; omega)
                intro v194 w61 ho hb hg hat
                rw [← Ny193.out] at ho
                have n0_ := Aside0.mk (Kd.R_over' (by (with_reducible repeat (first | apply Kd.R_alloc | apply Kd.R_drewN | apply Kd.R_drew)); exact HO_11.out) (Kd.R_typed (by (with_reducible repeat (first | apply Kd.R_alloc | apply Kd.R_drewN | apply Kd.R_drew)); exact HO_13.out)) (by decide) hg)
                have n1_ := Aside0.mk (blk_grown (g := gb171) (o := .cells #[.int .i64 a0_0, .slice A0_1 l0_1.length c0_1, .slice A0_2 l0_2.length c0_2, .slice A0_3 l0_3.length c0_3, .slice A0_4 l0_4.length c0_4, .slice A0_5 l0_5.length c0_5] 26 (0, 0)) (by (with_reducible repeat (first | refine blk_drewN ?_ _ | refine blk_drew ?_ | refine blk_alloc ?_ _)); exact BK171.out) hg (Kd.R_ne HO_13.out BK171.out (by decide)))
                have n2_ := Aside0.mk (Kd.R_over' (by (with_reducible repeat (first | apply Kd.R_alloc | apply Kd.R_drewN | apply Kd.R_drew)); exact HO191.out) (Kd.R_typed (by (with_reducible repeat (first | apply Kd.R_alloc | apply Kd.R_drewN | apply Kd.R_drew)); exact HO_13.out)) (by decide) hg)
                have n3_ := Aside0.mk (hb)
                have n4_ := Aside0.mk (ho)
                clear HO_11
                clear BK171
                clear HO191
                clear HB
                clear HO_13
                have HO_11 := n0_
                have BK171 := n1_
                have HO191 := n2_
                have HB := n3_
                have HO195 := n4_
                clear n0_ n1_ n2_ n3_ n4_
                clear ho hb hg hat
                obtain ⟨Ao62, co62, eo62⟩ := Kd.R_slice HO195.out
                (first | subst eo62 | (injection eo62 with f1_ f2_ f3_; have f4_ := f1_.symm; have f5_ := f3_.symm; clear f1_ f2_ f3_; subst f4_; subst f5_))
                refine hK.out _ _ ⟨(blk_cell BK171.out 0).trans rfl, (blk_cell BK171.out 1).trans rfl, (blk_cell BK171.out 2).trans rfl, (blk_cell BK171.out 3).trans rfl, (blk_cell BK171.out 4).trans rfl, (blk_cell BK171.out 5).trans rfl⟩ (fun hHeld => ?_)
                clear hK K
                refine norm_ (a' := ?_) ?_ ?_
                rotate_left
                ·
                 show Act.put _ (some 103) _ = _
                 simp only [Act.put, List.setIfInBounds_toArray, List.set_cons_zero, List.set_cons_succ, i64_w, i32_w]
                 rfl
                refine one_ (i := 4) (N := some 104) #[true, true, true, true, true, false, false, false, false, false] rfl rfl (one_of HT_.out (by kernel_rfl)) (by decide) (fun K hK => ?_)
                refine goes_ Try.func25 (by kernel_rfl) rfl #[.agg #[.int .i64 a0_0, .slice A0_1 l0_1.length c0_1, .slice A0_2 l0_2.length c0_2, .slice A0_3 l0_3.length c0_3, .slice A0_4 l0_4.length c0_4, .slice A0_5 l0_5.length c0_5], .slice Ao62 y193.length co62] (by rfl) rfl rfl (by (try simp only [List.map_toArray, List.map_cons, List.map_nil]); first | done | rfl | (simp only [List.length_drop, List.length_take]; rfl)) ?_
                with_reducible refine (cone_Ever.calls a0_0 _ _ l0_1 _ _ l0_2 _ _ l0_3 _ _ l0_4 _ _ l0_5 _ _ y193 t196 t199 _ ?side1 ?side2 ?side3 ?side4 ?side5 ?side6 ?side7 ?side8 ?side9 ?side10 ?side11 ?side12 A55.out).mono ?_
                (case side1 => repeat (first | exact (Kd.C_below HR0_1.out HB.out) | (with_reducible refine Kd.C_alloc ?_ _) | (with_reducible refine Kd.C_drewN ?_ _) | (with_reducible refine Kd.C_drew ?_)))
                (case side2 => exact HC0_1.out)
                (case side3 => repeat (first | exact (Kd.C_below HR0_2.out HB.out) | (with_reducible refine Kd.C_alloc ?_ _) | (with_reducible refine Kd.C_drewN ?_ _) | (with_reducible refine Kd.C_drew ?_)))
                (case side4 => exact HC0_2.out)
                (case side5 => repeat (first | exact (Kd.C_below HR0_3.out HB.out) | (with_reducible refine Kd.C_alloc ?_ _) | (with_reducible refine Kd.C_drewN ?_ _) | (with_reducible refine Kd.C_drew ?_)))
                (case side6 => exact HC0_3.out)
                (case side7 => repeat (first | exact (Kd.C_below HR0_4.out HB.out) | (with_reducible refine Kd.C_alloc ?_ _) | (with_reducible refine Kd.C_drewN ?_ _) | (with_reducible refine Kd.C_drew ?_)))
                (case side8 => exact HC0_4.out)
                (case side9 => repeat (first | exact (Kd.C_below HR0_5.out HB.out) | (with_reducible refine Kd.C_alloc ?_ _) | (with_reducible refine Kd.C_drewN ?_ _) | (with_reducible refine Kd.C_drew ?_)))
                (case side10 => exact HC0_5.out)
                (case side11 => repeat (first | exact (Kd.R_reads' HO195.out).2.2 | (with_reducible refine Kd.C_alloc ?_ _) | (with_reducible refine Kd.C_drewN ?_ _) | (with_reducible refine Kd.C_drew ?_)))
                (case side12 => exact (Kd.R_reads' HO195.out).2.1)
                rintro e w63 ⟨v197, rfl, ho0, hb⟩
                refine ⟨_, rfl, ?_⟩
                have n0_ := Aside0.mk (Kd.R_elder' (by (with_reducible repeat (first | apply Kd.R_alloc | apply Kd.R_drewN | apply Kd.R_drew)); exact HO_11.out) (Kd.R_base ho0) hb)
                have n1_ := Aside0.mk (Kd.R_elder' (by (with_reducible repeat (first | apply Kd.R_alloc | apply Kd.R_drewN | apply Kd.R_drew)); exact HO191.out) (Kd.R_base ho0) hb)
                have n2_ := Aside0.mk (Kd.R_below (by (with_reducible repeat (first | apply Kd.R_alloc | apply Kd.R_drewN | apply Kd.R_drew)); exact HO195.out) hb)
                have n3_ := Aside0.mk (Kd.R_lower (Kd.R_new' (Kd.R_new' ho0 (Kd.R_lt (by (with_reducible repeat (first | apply Kd.R_alloc | apply Kd.R_drewN | apply Kd.R_drew)); exact HO_11.out))) (Kd.R_lt (by (with_reducible repeat (first | apply Kd.R_alloc | apply Kd.R_drewN | apply Kd.R_drew)); exact HO191.out))) (below_size (by repeat (first | (with_reducible first | exact HB.out | apply below_alloc | apply pw_below_drewN | apply below_drew1 | refine below_set ?_ GE171.out) | exact HB.out))))
                have n4_ := Aside0.mk (blk_below (g := gb171) (o := .cells #[.int .i64 a0_0, .slice A0_1 l0_1.length c0_1, .slice A0_2 l0_2.length c0_2, .slice A0_3 l0_3.length c0_3, .slice A0_4 l0_4.length c0_4, .slice A0_5 l0_5.length c0_5] 26 (0, 0)) (by (with_reducible repeat (first | refine blk_drewN ?_ _ | refine blk_drew ?_ | refine blk_alloc ?_ _)); exact BK171.out) hb)
                have n5_ := Aside0.mk (below_step (by repeat (first | (with_reducible first | exact HB.out | apply below_alloc | apply pw_below_drewN | apply below_drew1 | refine below_set ?_ GE171.out) | exact HB.out)) hb)
                clear HO_11
                clear HO191
                clear HO195
                clear BK171
                clear HB
                have HO_11 := n0_
                have HO191 := n1_
                have HO195 := n2_
                have HO198 := n3_
                have BK171 := n4_
                have HB := n5_
                clear n0_ n1_ n2_ n3_ n4_ n5_
                (try clear hb)
                (try clear hb2)
                (try clear hk)
                (try clear hi)
                (try clear ho0)
                refine hK.out _ _ ⟨(blk_cell BK171.out 0).trans rfl, (blk_cell BK171.out 1).trans rfl, (blk_cell BK171.out 2).trans rfl, (blk_cell BK171.out 3).trans rfl, (blk_cell BK171.out 4).trans rfl, (blk_cell BK171.out 5).trans rfl⟩ (fun hHeld => ?_)
                clear hK K
                refine norm_ (a' := ?_) ?_ ?_
                rotate_left
                ·
                 show Act.put _ (some 104) _ = _
                 simp only [Act.put, List.setIfInBounds_toArray, List.set_cons_zero, List.set_cons_succ, i64_w, i32_w]
                 rfl
                refine pure_ (i := 5) (N := some 99) (v := ?_) (a' := ?_) #[true, true, true, true, true, true, false, false, false, false] rfl rfl (any_of HT_.out (by kernel_rfl)) (fun _ _ _ h => h) (Or.inl ⟨by rfl, ?_⟩) ?_ ?_
                rotate_left
                ·
                 intro w'
                 go_simp
                 with_reducible rfl
                rotate_left
                ·
                 simp only [Act.put, List.setIfInBounds_toArray, List.set_cons_zero, List.set_cons_succ, i64_w, i32_w]
                 rfl
                refine pure_ (i := 6) (N := some 105) (v := ?_) (a' := ?_) #[true, true, true, true, true, true, true, false, false, false] rfl rfl (any_of HT_.out (by kernel_rfl)) (fun _ _ _ h => h) (Or.inl ⟨by rfl, ?_⟩) ?_ ?_
                rotate_left
                ·
                 intro w'
                 go_simp
                 with_reducible rfl
                rotate_left
                ·
                 simp only [Act.put, List.setIfInBounds_toArray, List.set_cons_zero, List.set_cons_succ, i64_w, i32_w]
                 rfl
                refine pure_ (i := 7) (N := some 106) (v := ?_) (a' := ?_) #[true, true, true, true, true, true, true, true, false, false] rfl rfl (any_of HT_.out (by kernel_rfl)) (fun _ _ _ h => h) (Or.inl ⟨by rfl, ?_⟩) ?_ ?_
                rotate_left
                ·
                 intro w'
                 go_simp
                 with_reducible rfl
                rotate_left
                ·
                 simp only [Act.put, List.setIfInBounds_toArray, List.set_cons_zero, List.set_cons_succ, i64_w, i32_w]
                 rfl
                refine pure_ (i := 8) (N := some 17) (v := ?_) (a' := ?_) #[true, true, true, true, true, true, true, true, true, false] rfl rfl (any_of HT_.out (by kernel_rfl)) (fun _ _ _ h => h) (Or.inl ⟨by rfl, ?_⟩) ?_ ?_
                rotate_left
                ·
                 intro w'
                 go_simp
                 with_reducible rfl
                rotate_left
                ·
                 simp only [Act.put, List.setIfInBounds_toArray, List.set_cons_zero, List.set_cons_succ, i64_w, i32_w]
                 rfl
                refine pure_ (i := 9) (N := some 18) (v := ?_) (a' := ?_) #[true, true, true, true, true, true, true, true, true, true] rfl rfl (any_of HT_.out (by kernel_rfl)) (fun _ _ _ h => h) (Or.inl ⟨by rfl, ?_⟩) ?_ ?_
                rotate_left
                ·
                 intro w'
                 go_simp
                 with_reducible rfl
                rotate_left
                ·
                 simp only [Act.put, List.setIfInBounds_toArray, List.set_cons_zero, List.set_cons_succ, i64_w, i32_w]
                 rfl
                refine done_ (done_of HT_.out (by kernel_rfl)) ?_
                go_upto_region 18 with (fail)
                go_cut [114] (fun v114 wc => ∃ (kq : Nat) (x114_55 : Bool), v114 = .bool x114_55 ∧ Aside0 (inquestlaw09_ConeGrows.j3 kq a3 a4 t174 t196 t199 x114_55 a0_0 l0_1 l0_2 l0_3 l0_4 l0_5 = some r) ∧ Aside0 (kq ≤ k3) ∧ Aside0 (Kd.R Kd.bool 4 wc w.heap.size (fun k_ => some k_ ≠ (v197 : Value).ownBlock) v175 t174) ∧ Aside0 (Kd.R Kd.bool 4 wc w.heap.size (fun k_ => some k_ ≠ (v175 : Value).ownBlock) v197 t196) ∧ Aside0 (wc.heap[gb171]? = some (.cells #[.int .i64 a0_0, (.slice A0_1 l0_1.length c0_1), (.slice A0_2 l0_2.length c0_2), (.slice A0_3 l0_3.length c0_3), (.slice A0_4 l0_4.length c0_4), (.slice A0_5 l0_5.length c0_5)] 26 (0, 0))) ∧ Aside0 (Below w.heap.size w wc))
                case first =>
                 have H := HC56.out
                 clear HC56
                 by_cases c64 : t192 = 0
                 ·
                  rw [if_pos c64] at H
                  have c64b0 : (t192 == 0) = true := beq_iff_eq.mpr c64
                  have c64b1 : (t192 != 0) = false := bne_eq_false_iff_eq.mpr c64
                  clear c64
                  (first | rw [c64b0] | (simp only [i64_w, i32_w]; rw [c64b0]) | skip)
                  replace H := Option.bind_eq_some_iff.mp H
                  obtain ⟨t200, A650, H⟩ := H
                  replace H : (inquestlaw09_ConeGrows.j3 k3 a3 a4 t174 t196 t199 (!t200) a0_0 l0_1 l0_2 l0_3 l0_4 l0_5) = some r := H
                  have A65 := Aside0.mk A650
                  clear A650
                  have H' := Aside0.mk H
                  clear H
                  obtain ⟨Ao66, co66, eo66⟩ := Kd.R_slice HO191.out
                  subst eo66
                  obtain ⟨Ao67, co67, eo67⟩ := Kd.R_slice HO_11.out
                  subst eo67
                  go_wp2_with (first | (go_at_call 29; (with_reducible refine (inquestref00_Bools.calls k3 _ _ t189 _ _ t174 t200 _ ?side1 ?side2 ?side3 ?side4 A65.out).mono ?_); (case side1 => repeat (first | exact (Kd.R_reads' HO191.out).2.2 | (with_reducible refine Kd.C_alloc ?_ _) | (with_reducible refine Kd.C_drewN ?_ _) | (with_reducible refine Kd.C_drew ?_))); (case side2 => exact (Kd.R_reads' HO191.out).2.1); (case side3 => repeat (first | exact (Kd.R_reads' HO_11.out).2.2 | (with_reducible refine Kd.C_alloc ?_ _) | (with_reducible refine Kd.C_drewN ?_ _) | (with_reducible refine Kd.C_drew ?_))); (case side4 => exact (Kd.R_reads' HO_11.out).2.1); rintro e w' ⟨rfl, ⟨nd, rfl⟩⟩))
                  go_meet
                  case rel => exact ⟨_, (!t200), (by first | rfl | (simp; done) | (simp [*]; done)), H', ⟨by have := HJ5.out; have := HJ21.out; have := HK3.out; first | omega | exact Nat.le_refl _⟩, ⟨by (with_reducible repeat (first | apply Kd.R_alloc | apply Kd.R_drewN | apply Kd.R_drew)); exact Kd.R_mono HO_11.out (fun _ hk => hk.2)⟩, ⟨by (with_reducible repeat (first | apply Kd.R_alloc | apply Kd.R_drewN | apply Kd.R_drew)); exact Kd.R_mono HO198.out (fun _ hk => hk.1.2)⟩, ⟨by (with_reducible repeat (first | refine blk_drewN ?_ _ | refine blk_drew ?_ | refine blk_alloc ?_ _)); exact BK171.out⟩, ⟨by repeat (first | (with_reducible first | exact HB.out | apply below_alloc | apply pw_below_drewN | apply below_drew1 | refine below_set ?_ GE171.out) | exact HB.out)⟩⟩
                 ·
                  rw [if_neg c64] at H
                  have c64b0 : (t192 == 0) = false := beq_eq_false_iff_ne.mpr c64
                  have c64b1 : (t192 != 0) = true := bne_iff_ne.mpr c64
                  (first | rw [c64b0] | (simp only [i64_w, i32_w]; rw [c64b0]) | skip)
                  have H' := Aside0.mk H
                  clear H
                  go_wp2
                  go_meet
                  case rel => exact ⟨_, (true), (by first | rfl | (simp; done) | (simp [*]; done)), H', ⟨by have := HJ5.out; have := HJ21.out; have := HK3.out; first | omega | exact Nat.le_refl _⟩, ⟨by (with_reducible repeat (first | apply Kd.R_alloc | apply Kd.R_drewN | apply Kd.R_drew)); exact Kd.R_mono HO_11.out (fun _ hk => hk.2)⟩, ⟨by (with_reducible repeat (first | apply Kd.R_alloc | apply Kd.R_drewN | apply Kd.R_drew)); exact Kd.R_mono HO198.out (fun _ hk => hk.1.2)⟩, ⟨by (with_reducible repeat (first | refine blk_drewN ?_ _ | refine blk_drew ?_ | refine blk_alloc ?_ _)); exact BK171.out⟩, ⟨by repeat (first | (with_reducible first | exact HB.out | apply below_alloc | apply pw_below_drewN | apply below_drew1 | refine below_set ?_ GE171.out) | exact HB.out)⟩⟩
                case rest =>
                 as_aux_lemma =>
                  clear HC56
                  try clear c1
                  try clear p1
                  try clear q1
                  try clear hx1
                  try clear c2
                  try clear p2
                  try clear c3
                  try clear c4
                  try clear q4
                  try clear c5
                  try clear c6
                  try clear p6
                  try clear c9
                  try clear c12
                  try clear c12b0
                  try clear c12b1
                  try clear c17
                  try clear p18
                  try clear q18
                  try clear hx18
                  try clear c21
                  try clear c21b0
                  try clear c21b1
                  try clear c23
                  try clear c24
                  try clear c25
                  try clear c26
                  try clear c28
                  try clear c35
                  try clear c36
                  try clear c39
                  try clear c39b0
                  try clear c41
                  try clear c41b0
                  try clear c42
                  try clear c42b0
                  try clear q43
                  try clear c44
                  try clear c45
                  try clear c45b0
                  try clear c46
                  try clear c46b0
                  try clear c47
                  try clear c54
                  try clear c64
                  try clear c64b0
                  try clear c64b1
                  try clear p64
                  try clear hcz10_0
                  try clear hcz10_1
                  try clear hcz10_2
                  try clear hcz10_3
                  try clear hcz10_4
                  try clear hcz10_5
                  try clear hcz13_0
                  try clear hcz13_1
                  try clear hcz13_2
                  try clear hcz13_3
                  try clear hcz13_4
                  try clear hcz13_5
                  try clear hcz15_0
                  try clear hcz15_1
                  try clear hcz15_2
                  try clear hcz15_3
                  try clear hcz15_4
                  try clear hcz15_5
                  try clear hcz23_0
                  try clear hcz23_1
                  try clear hcz23_2
                  try clear hcz23_3
                  try clear hcz23_4
                  try clear hcz23_5
                  try clear hcz28_0
                  try clear hcz28_1
                  try clear hcz28_2
                  try clear hcz28_3
                  try clear hcz28_4
                  try clear hcz28_5
                  try clear hcz31_0
                  try clear hcz31_1
                  try clear hcz31_2
                  try clear hcz31_3
                  try clear hcz31_4
                  try clear hcz31_5
                  try clear hcz33_0
                  try clear hcz33_1
                  try clear hcz33_2
                  try clear hcz33_3
                  try clear hcz33_4
                  try clear hcz33_5
                  try clear hcz38_0
                  try clear hcz38_1
                  try clear hcz38_2
                  try clear hcz38_3
                  try clear hcz38_4
                  try clear hcz38_5
                  try clear hcz48_0
                  try clear hcz48_1
                  try clear hcz48_2
                  try clear hcz48_3
                  try clear hcz48_4
                  try clear hcz48_5
                  try clear hcz51_0
                  try clear hcz51_1
                  try clear hcz51_2
                  try clear hcz51_3
                  try clear hcz51_4
                  try clear hcz51_5
                  try clear hcz57_0
                  try clear hcz57_1
                  try clear hcz57_2
                  try clear hcz57_3
                  try clear hcz57_4
                  try clear hcz57_5
                  try clear hfz10_0
                  try clear hfz10_1
                  try clear hfz10_2
                  try clear hfz10_3
                  try clear hfz10_4
                  try clear hfz10_5
                  try clear hfz13_0
                  try clear hfz13_1
                  try clear hfz13_2
                  try clear hfz13_3
                  try clear hfz13_4
                  try clear hfz13_5
                  try clear hfz15_0
                  try clear hfz15_1
                  try clear hfz15_2
                  try clear hfz15_3
                  try clear hfz15_4
                  try clear hfz15_5
                  try clear hfz23_0
                  try clear hfz23_1
                  try clear hfz23_2
                  try clear hfz23_3
                  try clear hfz23_4
                  try clear hfz23_5
                  try clear hfz28_0
                  try clear hfz28_1
                  try clear hfz28_2
                  try clear hfz28_3
                  try clear hfz28_4
                  try clear hfz28_5
                  try clear hfz31_0
                  try clear hfz31_1
                  try clear hfz31_2
                  try clear hfz31_3
                  try clear hfz31_4
                  try clear hfz31_5
                  try clear hfz33_0
                  try clear hfz33_1
                  try clear hfz33_2
                  try clear hfz33_3
                  try clear hfz33_4
                  try clear hfz33_5
                  try clear hfz38_0
                  try clear hfz38_1
                  try clear hfz38_2
                  try clear hfz38_3
                  try clear hfz38_4
                  try clear hfz38_5
                  try clear hfz48_0
                  try clear hfz48_1
                  try clear hfz48_2
                  try clear hfz48_3
                  try clear hfz48_4
                  try clear hfz48_5
                  try clear hfz51_0
                  try clear hfz51_1
                  try clear hfz51_2
                  try clear hfz51_3
                  try clear hfz51_4
                  try clear hfz51_5
                  try clear hfz57_0
                  try clear hfz57_1
                  try clear hfz57_2
                  try clear hfz57_3
                  try clear hfz57_4
                  try clear hfz57_5
                  try clear hx184_0
                  try clear hx185_0
                  try clear hx185_1
                  try clear p184
                  try clear p185
                  try clear p2
                  try clear p6
                  try clear q184
                  try clear q185
                  obtain ⟨kq, x114_55, rfl, HA, HJ55, HO_11, HO_17, BK171, HB⟩ := hcut
                  cases kq with
                  | zero => exact absurd HA.out (by simp [inquestlaw09_ConeGrows.j3])
                  | succ kj55 =>
                   have H := HA.out
                   clear HA
                   simp only [inquestlaw09_ConeGrows.j3] at H
                   by_cases c68 : x114_55 = true
                   ·
                    subst c68
                    have H1 : (some false) = some r := by rw [if_pos rfl] at H; exact H
                    clear H
                    have H := H1
                    clear H1
                    exact absurd (hrt.out.symm.trans (Option.some.inj H).symm) (by decide)
                   ·
                    replace c68 := Bool.eq_false_iff.mpr c68
                    subst c68
                    have H1 : (inquestlaw09_ConeGrows.l1 kj55 a3 a4 t174 t196 t199 (t174.length : Int) 0 a0_0 l0_1 l0_2 l0_3 l0_4 l0_5) = some r := by rw [if_neg (show ¬ (false = true) by decide)] at H; exact H
                    clear H
                    have H := H1
                    clear H1
                    have H' := Aside0.mk H
                    clear H
                    obtain ⟨Ao69, co69, eo69⟩ := Kd.R_slice HO_11.out
                    subst eo69
                    go_wp2
                    go_loopg [117] kj55 (fun kq v117 w' => ∃ (x117_5 : Int), v117 = .int .i64 x117_5 ∧ Aside0 (inquestlaw09_ConeGrows.l1 kq a3 a4 t174 t196 t199 (t174.length : Int) x117_5 a0_0 l0_1 l0_2 l0_3 l0_4 l0_5 = some r) ∧ Aside0 (kq ≤ kj55) ∧ Aside0 (Kd.R Kd.bool 4 w' w.heap.size (fun k_ => some k_ ≠ (v197 : Value).ownBlock) (.slice Ao69 t174.length co69) t174) ∧ Aside0 (Kd.R Kd.bool 4 w' w.heap.size (fun k_ => some k_ ≠ ((.slice Ao69 t174.length co69) : Value).ownBlock) v197 t196) ∧ Aside0 (w'.heap[gb171]? = some (.cells #[.int .i64 a0_0, (.slice A0_1 l0_1.length c0_1), (.slice A0_2 l0_2.length c0_2), (.slice A0_3 l0_3.length c0_3), (.slice A0_4 l0_4.length c0_4), (.slice A0_5 l0_5.length c0_5)] 26 (0, 0))) ∧ Aside0 (Below w.heap.size w w'))
                    case atStart => exact ⟨(0), (by first | rfl | (simp; done) | (simp [*]; done)), H', ⟨Nat.le_refl _⟩, ⟨by (with_reducible repeat (first | apply Kd.R_alloc | apply Kd.R_drewN | apply Kd.R_drew)); exact HO_11.out⟩, ⟨by (with_reducible repeat (first | apply Kd.R_alloc | apply Kd.R_drewN | apply Kd.R_drew)); exact HO_17.out⟩, ⟨by (with_reducible repeat (first | refine blk_drewN ?_ _ | refine blk_drew ?_ | refine blk_alloc ?_ _)); exact BK171.out⟩, ⟨by repeat (first | (with_reducible first | exact HB.out | apply below_alloc | apply pw_below_drewN | apply below_drew1 | refine below_set ?_ GE171.out) | exact HB.out)⟩⟩
                    case round =>
                     as_aux_lemma =>
                      clear H'
                      try clear c1
                      try clear p1
                      try clear q1
                      try clear hx1
                      try clear c2
                      try clear p2
                      try clear c3
                      try clear c4
                      try clear q4
                      try clear c5
                      try clear c6
                      try clear p6
                      try clear c9
                      try clear c12
                      try clear c12b0
                      try clear c12b1
                      try clear c17
                      try clear p18
                      try clear q18
                      try clear hx18
                      try clear c21
                      try clear c21b0
                      try clear c21b1
                      try clear c23
                      try clear c24
                      try clear c25
                      try clear c26
                      try clear c28
                      try clear c35
                      try clear c36
                      try clear c39
                      try clear c39b0
                      try clear c41
                      try clear c41b0
                      try clear c42
                      try clear c42b0
                      try clear q43
                      try clear c44
                      try clear c45
                      try clear c45b0
                      try clear c46
                      try clear c46b0
                      try clear c47
                      try clear c54
                      try clear c64
                      try clear c64b0
                      try clear c64b1
                      try clear p64
                      try clear c68
                      try clear hcz10_0
                      try clear hcz10_1
                      try clear hcz10_2
                      try clear hcz10_3
                      try clear hcz10_4
                      try clear hcz10_5
                      try clear hcz13_0
                      try clear hcz13_1
                      try clear hcz13_2
                      try clear hcz13_3
                      try clear hcz13_4
                      try clear hcz13_5
                      try clear hcz15_0
                      try clear hcz15_1
                      try clear hcz15_2
                      try clear hcz15_3
                      try clear hcz15_4
                      try clear hcz15_5
                      try clear hcz23_0
                      try clear hcz23_1
                      try clear hcz23_2
                      try clear hcz23_3
                      try clear hcz23_4
                      try clear hcz23_5
                      try clear hcz28_0
                      try clear hcz28_1
                      try clear hcz28_2
                      try clear hcz28_3
                      try clear hcz28_4
                      try clear hcz28_5
                      try clear hcz31_0
                      try clear hcz31_1
                      try clear hcz31_2
                      try clear hcz31_3
                      try clear hcz31_4
                      try clear hcz31_5
                      try clear hcz33_0
                      try clear hcz33_1
                      try clear hcz33_2
                      try clear hcz33_3
                      try clear hcz33_4
                      try clear hcz33_5
                      try clear hcz38_0
                      try clear hcz38_1
                      try clear hcz38_2
                      try clear hcz38_3
                      try clear hcz38_4
                      try clear hcz38_5
                      try clear hcz48_0
                      try clear hcz48_1
                      try clear hcz48_2
                      try clear hcz48_3
                      try clear hcz48_4
                      try clear hcz48_5
                      try clear hcz51_0
                      try clear hcz51_1
                      try clear hcz51_2
                      try clear hcz51_3
                      try clear hcz51_4
                      try clear hcz51_5
                      try clear hcz57_0
                      try clear hcz57_1
                      try clear hcz57_2
                      try clear hcz57_3
                      try clear hcz57_4
                      try clear hcz57_5
                      try clear hfz10_0
                      try clear hfz10_1
                      try clear hfz10_2
                      try clear hfz10_3
                      try clear hfz10_4
                      try clear hfz10_5
                      try clear hfz13_0
                      try clear hfz13_1
                      try clear hfz13_2
                      try clear hfz13_3
                      try clear hfz13_4
                      try clear hfz13_5
                      try clear hfz15_0
                      try clear hfz15_1
                      try clear hfz15_2
                      try clear hfz15_3
                      try clear hfz15_4
                      try clear hfz15_5
                      try clear hfz23_0
                      try clear hfz23_1
                      try clear hfz23_2
                      try clear hfz23_3
                      try clear hfz23_4
                      try clear hfz23_5
                      try clear hfz28_0
                      try clear hfz28_1
                      try clear hfz28_2
                      try clear hfz28_3
                      try clear hfz28_4
                      try clear hfz28_5
                      try clear hfz31_0
                      try clear hfz31_1
                      try clear hfz31_2
                      try clear hfz31_3
                      try clear hfz31_4
                      try clear hfz31_5
                      try clear hfz33_0
                      try clear hfz33_1
                      try clear hfz33_2
                      try clear hfz33_3
                      try clear hfz33_4
                      try clear hfz33_5
                      try clear hfz38_0
                      try clear hfz38_1
                      try clear hfz38_2
                      try clear hfz38_3
                      try clear hfz38_4
                      try clear hfz38_5
                      try clear hfz48_0
                      try clear hfz48_1
                      try clear hfz48_2
                      try clear hfz48_3
                      try clear hfz48_4
                      try clear hfz48_5
                      try clear hfz51_0
                      try clear hfz51_1
                      try clear hfz51_2
                      try clear hfz51_3
                      try clear hfz51_4
                      try clear hfz51_5
                      try clear hfz57_0
                      try clear hfz57_1
                      try clear hfz57_2
                      try clear hfz57_3
                      try clear hfz57_4
                      try clear hfz57_5
                      try clear hx184_0
                      try clear hx185_0
                      try clear hx185_1
                      try clear p1
                      try clear p18
                      try clear p184
                      try clear p185
                      try clear p2
                      try clear p6
                      try clear p64
                      try clear q1
                      try clear q18
                      try clear q184
                      try clear q185
                      try clear q4
                      try clear q43
                      obtain ⟨x117_5, rfl, HA, HK5, HO_11, HO_17, BK171, HB⟩ := hrel
                      cases gk with
                      | zero => exact absurd HA.out (by simp [inquestlaw09_ConeGrows.l1])
                      | succ k5 =>
                       have H := HA.out
                       clear HA
                       simp only [inquestlaw09_ConeGrows.l1] at H
                       by_cases c70 : x117_5 < (t174.length : Int)
                       ·
                        rw [if_pos c70] at H
                        have c70b0 : decide (x117_5 < (t174.length : Int)) = true := decide_eq_true c70
                        clear c70
                        by_cases c71 : t199 = 0
                        ·
                         rw [if_pos c71] at H
                         have c71b0 : (t199 == 0) = true := beq_iff_eq.mpr c71
                         have c71b1 : (t199 != 0) = false := bne_eq_false_iff_eq.mpr c71
                         clear c71
                         by_cases c72 : x117_5 ≥ (t196.length : Int)
                         ·
                          rw [if_pos c72] at H
                          have c72b0 : decide ((t196.length : Int) ≤ x117_5) = true := decide_eq_true c72
                          clear c72
                          obtain rfl := Option.some.inj H
                          obtain ⟨Ao73, co73, eo73⟩ := Kd.R_slice HO_17.out
                          subst eo73
                          go_wp2
                          go_ret
                          exact ⟨by first | rfl | (simp [errW_none, errW_some] <;> rfl) | (simp [*, errW_none, errW_some] <;> rfl), by repeat (first | (with_reducible first | exact HB.out | apply below_alloc | apply pw_below_drewN | apply below_drew1 | refine below_set ?_ GE171.out) | exact HB.out)⟩
                         ·
                          rw [if_neg c72] at H
                          have c72b0 : decide ((t196.length : Int) ≤ x117_5) = false := decide_eq_false c72
                          clear c72
                          by_cases c74 : 0 ≤ x117_5
                          ·
                           rw [if_pos c74] at H
                           have c74b0 : decide (0 ≤ x117_5) = true := decide_eq_true c74
                           clear c74
                           by_cases c75 : x117_5 < (t174.length : Int)
                           ·
                            rw [if_pos c75] at H
                            have c75b0 : decide (x117_5 < (t174.length : Int)) = true := decide_eq_true c75
                            clear c75
                            obtain ⟨bq76, hbq76⟩ : ∃ b_ : Bool, b_ = (rdOf false t174 x117_5) := ⟨_, rfl⟩
                            replace H : (if bq76 = true then (if x117_5 < (t196.length : Int) then (if rdOf false t196 x117_5 = true then (inquestlaw09_ConeGrows.l1 k5 a3 a4 t174 t196 t199 (t174.length : Int) (wrap64 (x117_5 + 1)) a0_0 l0_1 l0_2 l0_3 l0_4 l0_5) else (some false)) else (none)) else (inquestlaw09_ConeGrows.l1 k5 a3 a4 t174 t196 t199 (t174.length : Int) (wrap64 (x117_5 + 1)) a0_0 l0_1 l0_2 l0_3 l0_4 l0_5)) = some r := by rw [← hbq76] at H; exact H
                            have Nbq76 := Aside0.mk hbq76
                            clear hbq76
                            by_cases c77 : bq76 = true
                            ·
                             subst c77
                             have H1 : (if x117_5 < (t196.length : Int) then (if rdOf false t196 x117_5 = true then (inquestlaw09_ConeGrows.l1 k5 a3 a4 t174 t196 t199 (t174.length : Int) (wrap64 (x117_5 + 1)) a0_0 l0_1 l0_2 l0_3 l0_4 l0_5) else (some false)) else (none)) = some r := by rw [if_pos rfl] at H; exact H
                             clear H
                             have H := H1
                             clear H1
                             by_cases c78 : x117_5 < (t196.length : Int)
                             ·
                              rw [if_pos c78] at H
                              have c78b0 : decide (x117_5 < (t196.length : Int)) = true := decide_eq_true c78
                              clear c78
                              obtain ⟨bq79, hbq79⟩ : ∃ b_ : Bool, b_ = (rdOf false t196 x117_5) := ⟨_, rfl⟩
                              replace H : (if bq79 = true then (inquestlaw09_ConeGrows.l1 k5 a3 a4 t174 t196 t199 (t174.length : Int) (wrap64 (x117_5 + 1)) a0_0 l0_1 l0_2 l0_3 l0_4 l0_5) else (some false)) = some r := by rw [← hbq79] at H; exact H
                              have Nbq79 := Aside0.mk hbq79
                              clear hbq79
                              by_cases c80 : bq79 = true
                              ·
                               subst c80
                               have H1 : (inquestlaw09_ConeGrows.l1 k5 a3 a4 t174 t196 t199 (t174.length : Int) (wrap64 (x117_5 + 1)) a0_0 l0_1 l0_2 l0_3 l0_4 l0_5) = some r := by rw [if_pos rfl] at H; exact H
                               clear H
                               have H := H1
                               clear H1
                               have H' := Aside0.mk H
                               clear H
                               obtain ⟨Ao81, co81, eo81⟩ := Kd.R_slice HO_17.out
                               subst eo81
                               have p201 : 0 ≤ (x117_5 : Int) := of_decide_eq_true (by first | (with_reducible assumption) | assumption)
                               have q201 : x117_5 < (t174.length : Int) := of_decide_eq_true (by first | (with_reducible assumption) | assumption)
                               obtain ⟨ad201, e201, hx201_0⟩ := Kd.at_bool (Kd.R_reads' HO_11.out).2.2 x117_5 p201 q201
                               (try rw [← Nbq76.out] at hx201_0)
                               (try rw [← Nbq79.out] at hx201_0)
                               cases e201
                               replace p201 := eq_true p201
                               replace q201 := eq_true q201
                               have p202 : 0 ≤ (x117_5 : Int) := of_decide_eq_true (by first | (with_reducible assumption) | assumption)
                               have q202 : x117_5 < (t196.length : Int) := of_decide_eq_true (by first | (with_reducible assumption) | assumption)
                               obtain ⟨ad202, e202, hx202_0⟩ := Kd.at_bool (Kd.R_reads' HO_17.out).2.2 x117_5 p202 q202
                               (try rw [← Nbq76.out] at hx202_0)
                               (try rw [← Nbq79.out] at hx202_0)
                               cases e202
                               replace p202 := eq_true p202
                               replace q202 := eq_true q202
                               go_wp2
                               go_roundg k5
                               case measure => have := HJ5.out; have := HJ21.out; have := HK3.out; have := HJ55.out; have := HK5.out; omega
                               case rel => exact ⟨(wrap64 (x117_5 + 1)), (by first | rfl | (simp; done) | (simp [*]; done)), H', ⟨by have := HJ5.out; have := HJ21.out; have := HK3.out; have := HJ55.out; have := HK5.out; omega⟩, ⟨by (with_reducible repeat (first | apply Kd.R_alloc | apply Kd.R_drewN | apply Kd.R_drew)); exact HO_11.out⟩, ⟨by (with_reducible repeat (first | apply Kd.R_alloc | apply Kd.R_drewN | apply Kd.R_drew)); exact HO_17.out⟩, ⟨by (with_reducible repeat (first | refine blk_drewN ?_ _ | refine blk_drew ?_ | refine blk_alloc ?_ _)); exact BK171.out⟩, ⟨by repeat (first | (with_reducible first | exact HB.out | apply below_alloc | apply pw_below_drewN | apply below_drew1 | refine below_set ?_ GE171.out) | exact HB.out)⟩⟩
                              ·
                               replace c80 := Bool.eq_false_iff.mpr c80
                               subst c80
                               have H1 : (some false) = some r := by rw [if_neg (show ¬ (false = true) by decide)] at H; exact H
                               clear H
                               have H := H1
                               clear H1
                               exact absurd (hrt.out.symm.trans (Option.some.inj H).symm) (by decide)
                             ·
                              rw [if_neg c78] at H
                              exact absurd H (by simp)
                            ·
                             replace c77 := Bool.eq_false_iff.mpr c77
                             subst c77
                             have H1 : (inquestlaw09_ConeGrows.l1 k5 a3 a4 t174 t196 t199 (t174.length : Int) (wrap64 (x117_5 + 1)) a0_0 l0_1 l0_2 l0_3 l0_4 l0_5) = some r := by rw [if_neg (show ¬ (false = true) by decide)] at H; exact H
                             clear H
                             have H := H1
                             clear H1
                             have H' := Aside0.mk H
                             clear H
                             obtain ⟨Ao83, co83, eo83⟩ := Kd.R_slice HO_17.out
                             subst eo83
                             have p201 : 0 ≤ (x117_5 : Int) := of_decide_eq_true (by first | (with_reducible assumption) | assumption)
                             have q201 : x117_5 < (t174.length : Int) := of_decide_eq_true (by first | (with_reducible assumption) | assumption)
                             obtain ⟨ad201, e201, hx201_0⟩ := Kd.at_bool (Kd.R_reads' HO_11.out).2.2 x117_5 p201 q201
                             (try rw [← Nbq76.out] at hx201_0)
                             cases e201
                             replace p201 := eq_true p201
                             replace q201 := eq_true q201
                             go_wp2
                             go_roundg k5
                             case measure => have := HJ5.out; have := HJ21.out; have := HK3.out; have := HJ55.out; have := HK5.out; omega
                             case rel => exact ⟨(wrap64 (x117_5 + 1)), (by first | rfl | (simp; done) | (simp [*]; done)), H', ⟨by have := HJ5.out; have := HJ21.out; have := HK3.out; have := HJ55.out; have := HK5.out; omega⟩, ⟨by (with_reducible repeat (first | apply Kd.R_alloc | apply Kd.R_drewN | apply Kd.R_drew)); exact HO_11.out⟩, ⟨by (with_reducible repeat (first | apply Kd.R_alloc | apply Kd.R_drewN | apply Kd.R_drew)); exact HO_17.out⟩, ⟨by (with_reducible repeat (first | refine blk_drewN ?_ _ | refine blk_drew ?_ | refine blk_alloc ?_ _)); exact BK171.out⟩, ⟨by repeat (first | (with_reducible first | exact HB.out | apply below_alloc | apply pw_below_drewN | apply below_drew1 | refine below_set ?_ GE171.out) | exact HB.out)⟩⟩
                           ·
                            rw [if_neg c75] at H
                            exact absurd H (by simp)
                          ·
                           rw [if_neg c74] at H
                           exact absurd H (by simp)
                        ·
                         rw [if_neg c71] at H
                         have c71b0 : (t199 == 0) = false := beq_eq_false_iff_ne.mpr c71
                         have c71b1 : (t199 != 0) = true := bne_iff_ne.mpr c71
                         have H' := Aside0.mk H
                         clear H
                         go_wp2
                         go_roundg k5
                         case measure => have := HJ5.out; have := HJ21.out; have := HK3.out; have := HJ55.out; have := HK5.out; omega
                         case rel => exact ⟨(wrap64 (x117_5 + 1)), (by first | rfl | (simp; done) | (simp [*]; done)), H', ⟨by have := HJ5.out; have := HJ21.out; have := HK3.out; have := HJ55.out; have := HK5.out; omega⟩, ⟨by (with_reducible repeat (first | apply Kd.R_alloc | apply Kd.R_drewN | apply Kd.R_drew)); exact HO_11.out⟩, ⟨by (with_reducible repeat (first | apply Kd.R_alloc | apply Kd.R_drewN | apply Kd.R_drew)); exact HO_17.out⟩, ⟨by (with_reducible repeat (first | refine blk_drewN ?_ _ | refine blk_drew ?_ | refine blk_alloc ?_ _)); exact BK171.out⟩, ⟨by repeat (first | (with_reducible first | exact HB.out | apply below_alloc | apply pw_below_drewN | apply below_drew1 | refine below_set ?_ GE171.out) | exact HB.out)⟩⟩
                       ·
                        rw [if_neg c70] at H
                        have c70b0 : decide (x117_5 < (t174.length : Int)) = false := decide_eq_false c70
                        clear c70
                        replace H := Option.bind_eq_some_iff.mp H
                        obtain ⟨⟨t203, t206⟩, A840, H⟩ := H
                        replace H : (if t206 = 0 then (if ([] : List Int).length + l0_5.length < 35184372088832 then ((some (([] : List Int) ++ l0_5 : List Int)).bind fun y208 => (if 0 ≤ a3 then (if a3 < (l0_4.length : Int) then (if y208.length < 35184372088832 then ((cone_Ever.f a0_0 l0_1 l0_2 l0_3 l0_4 l0_5 (y208 ++ [rd l0_4 a3])).bind fun bt215 => (if bt215.2 = 0 then (inquestlaw09_ConeGrows.j5 k5 t203 bt215.1 ((t203.length : Int) != a4)) else (inquestlaw09_ConeGrows.j5 k5 t203 bt215.1 true))) else (none)) else (none)) else (none))) else (none)) else ((inquestlaw09_lives.f k5).bind fun t207 => (some t207))) = some r := H
                        have A84 := Aside0.mk A840
                        clear A840
                        by_cases c85 : t206 = 0
                        ·
                         rw [if_pos c85] at H
                         have c85b0 : (t206 == 0) = true := beq_iff_eq.mpr c85
                         have c85b1 : (t206 != 0) = false := bne_eq_false_iff_eq.mpr c85
                         clear c85
                         by_cases c86 : ([] : List Int).length + l0_5.length < 35184372088832
                         ·
                          rw [if_pos c86] at H
                          have LMc86 := Aside0.mk c86
                          clear c86
                          obtain ⟨y208, hy208⟩ : ∃ y_ : List Int, y_ = (([] : List Int) ++ l0_5) := ⟨_, rfl⟩
                          replace H : (if 0 ≤ a3 then (if a3 < (l0_4.length : Int) then (if y208.length < 35184372088832 then ((cone_Ever.f a0_0 l0_1 l0_2 l0_3 l0_4 l0_5 (y208 ++ [rd l0_4 a3])).bind fun bt215 => (if bt215.2 = 0 then (inquestlaw09_ConeGrows.j5 k5 t203 bt215.1 ((t203.length : Int) != a4)) else (inquestlaw09_ConeGrows.j5 k5 t203 bt215.1 true))) else (none)) else (none)) else (none)) = some r := by first | (rw [hy208]; with_reducible exact H) | (have H2_ := (Option.bind_some _ _).symm.trans H; rw [hy208]; with_reducible exact H2_) | (have H2_ := (Option.bind_some _ _).symm.trans H; with_reducible exact H2_) | with_reducible exact H | (rw [hy208]; exact H) | exact H
                          have Ny208 := Aside0.mk hy208
                          clear hy208
                          by_cases c87 : 0 ≤ a3
                          ·
                           rw [if_pos c87] at H
                           have c87b0 : decide (0 ≤ a3) = true := decide_eq_true c87
                           clear c87
                           by_cases c88 : a3 < (l0_4.length : Int)
                           ·
                            rw [if_pos c88] at H
                            have c88b0 : decide (a3 < (l0_4.length : Int)) = true := decide_eq_true c88
                            clear c88
                            by_cases c89 : y208.length < 35184372088832
                            ·
                             rw [if_pos c89] at H
                             have LMc89 := Aside0.mk c89
                             clear c89
                             obtain ⟨y212, hy212⟩ : ∃ y_ : List Int, y_ = (y208 ++ [rd l0_4 a3]) := ⟨_, rfl⟩
                             replace H : ((cone_Ever.f a0_0 l0_1 l0_2 l0_3 l0_4 l0_5 y212).bind fun bt215 => (if bt215.2 = 0 then (inquestlaw09_ConeGrows.j5 k5 t203 bt215.1 ((t203.length : Int) != a4)) else (inquestlaw09_ConeGrows.j5 k5 t203 bt215.1 true))) = some r := by first | (rw [hy212]; with_reducible exact H) | (have H2_ := (Option.bind_some _ _).symm.trans H; rw [hy212]; with_reducible exact H2_) | (have H2_ := (Option.bind_some _ _).symm.trans H; with_reducible exact H2_) | with_reducible exact H | (rw [hy212]; exact H) | exact H
                             have Ny212 := Aside0.mk hy212
                             clear hy212
                             replace H := Option.bind_eq_some_iff.mp H
                             obtain ⟨⟨t215, t218⟩, A900, H⟩ := H
                             replace H : (if t218 = 0 then (inquestlaw09_ConeGrows.j5 k5 t203 t215 ((t203.length : Int) != a4)) else (inquestlaw09_ConeGrows.j5 k5 t203 t215 true)) = some r := H
                             have A90 := Aside0.mk A900
                             clear A900
                             have HC91 := Aside0.mk H
                             clear H
                             have hcz92_0 : wr.cell? ⟨gb171, 0, none⟩ = some (.int .i64 a0_0) := (blk_cell BK171.out 0).trans rfl
                             have hcz92_1 : wr.cell? ⟨gb171, 1, none⟩ = some (.slice A0_1 l0_1.length c0_1) := (blk_cell BK171.out 1).trans rfl
                             have hcz92_2 : wr.cell? ⟨gb171, 2, none⟩ = some (.slice A0_2 l0_2.length c0_2) := (blk_cell BK171.out 2).trans rfl
                             have hcz92_3 : wr.cell? ⟨gb171, 3, none⟩ = some (.slice A0_3 l0_3.length c0_3) := (blk_cell BK171.out 3).trans rfl
                             have hcz92_4 : wr.cell? ⟨gb171, 4, none⟩ = some (.slice A0_4 l0_4.length c0_4) := (blk_cell BK171.out 4).trans rfl
                             have hcz92_5 : wr.cell? ⟨gb171, 5, none⟩ = some (.slice A0_5 l0_5.length c0_5) := (blk_cell BK171.out 5).trans rfl
                             have hfz92_0 := blk_frozen BK171.out 0
                             have hfz92_1 := blk_frozen BK171.out 1
                             have hfz92_2 := blk_frozen BK171.out 2
                             have hfz92_3 := blk_frozen BK171.out 3
                             have hfz92_4 := blk_frozen BK171.out 4
                             have hfz92_5 := blk_frozen BK171.out 5
                             try go_wp2_with (first | ((with_reducible refine gate_callee (f := 30) rfl ?_); refine goesL_ (some 146) rfl rfl Try.func30 (by kernel_rfl) rfl #[.agg #[.int .i64 a0_0, .slice A0_1 l0_1.length c0_1, .slice A0_2 l0_2.length c0_2, .slice A0_3 l0_3.length c0_3, .slice A0_4 l0_4.length c0_4, .slice A0_5 l0_5.length c0_5], .int .i64 a3, .int .i64 a4] rfl (by (try simp only [List.map_toArray, List.map_cons, List.map_nil]); first | done | rfl | (simp only [List.length_drop, List.length_take]; rfl)) ?_; (with_reducible refine (cone_Frames.calls a0_0 _ _ l0_1 _ _ l0_2 _ _ l0_3 _ _ l0_4 _ _ l0_5 a3 a4 t203 t206 _ ?side1 ?side2 ?side3 ?side4 ?side5 ?side6 ?side7 ?side8 ?side9 ?side10 A84.out).mono ?_); (case side1 => repeat (first | exact (Kd.C_below HR0_1.out HB.out) | (with_reducible refine Kd.C_alloc ?_ _) | (with_reducible refine Kd.C_drewN ?_ _) | (with_reducible refine Kd.C_drew ?_))); (case side2 => exact HC0_1.out); (case side3 => repeat (first | exact (Kd.C_below HR0_2.out HB.out) | (with_reducible refine Kd.C_alloc ?_ _) | (with_reducible refine Kd.C_drewN ?_ _) | (with_reducible refine Kd.C_drew ?_))); (case side4 => exact HC0_2.out); (case side5 => repeat (first | exact (Kd.C_below HR0_3.out HB.out) | (with_reducible refine Kd.C_alloc ?_ _) | (with_reducible refine Kd.C_drewN ?_ _) | (with_reducible refine Kd.C_drew ?_))); (case side6 => exact HC0_3.out); (case side7 => repeat (first | exact (Kd.C_below HR0_4.out HB.out) | (with_reducible refine Kd.C_alloc ?_ _) | (with_reducible refine Kd.C_drewN ?_ _) | (with_reducible refine Kd.C_drew ?_))); (case side8 => exact HC0_4.out); (case side9 => repeat (first | exact (Kd.C_below HR0_5.out HB.out) | (with_reducible refine Kd.C_alloc ?_ _) | (with_reducible refine Kd.C_drewN ?_ _) | (with_reducible refine Kd.C_drew ?_))); (case side10 => exact HC0_5.out); rintro e w93 ⟨v204, rfl, ho0, hb⟩; refine ⟨_, rfl, ?_⟩; have n0_ := Aside0.mk (Kd.R_below (by (with_reducible repeat (first | apply Kd.R_alloc | apply Kd.R_drewN | apply Kd.R_drew)); exact HO_11.out) hb); have n1_ := Aside0.mk (Kd.R_below (by (with_reducible repeat (first | apply Kd.R_alloc | apply Kd.R_drewN | apply Kd.R_drew)); exact HO_17.out) hb); have n2_ := Aside0.mk (Kd.S_lower (Kd.S_new' (Kd.S_new' ho0 (Kd.R_lt (by (with_reducible repeat (first | apply Kd.R_alloc | apply Kd.R_drewN | apply Kd.R_drew)); exact HO_11.out))) (Kd.R_lt (by (with_reducible repeat (first | apply Kd.R_alloc | apply Kd.R_drewN | apply Kd.R_drew)); exact HO_17.out))) (below_size (by repeat (first | (with_reducible first | exact HB.out | apply below_alloc | apply pw_below_drewN | apply below_drew1 | refine below_set ?_ GE171.out) | exact HB.out)))); have n3_ := Aside0.mk (blk_below (g := gb171) (o := .cells #[.int .i64 a0_0, .slice A0_1 l0_1.length c0_1, .slice A0_2 l0_2.length c0_2, .slice A0_3 l0_3.length c0_3, .slice A0_4 l0_4.length c0_4, .slice A0_5 l0_5.length c0_5] 26 (0, 0)) (by (with_reducible repeat (first | refine blk_drewN ?_ _ | refine blk_drew ?_ | refine blk_alloc ?_ _)); exact BK171.out) hb); have n4_ := Aside0.mk (below_step (by repeat (first | (with_reducible first | exact HB.out | apply below_alloc | apply pw_below_drewN | apply below_drew1 | refine below_set ?_ GE171.out) | exact HB.out)) hb); clear HO_11; clear HO_17; clear BK171; clear HB; have HO_11 := n0_; have HO_17 := n1_; have HO205 := n2_; have BK171 := n3_; have HB := n4_; clear n0_ n1_ n2_ n3_ n4_; (try clear hb); (try clear hb2); (try clear hk); (try clear hi); (try clear ho0); have hcz94_0 : w93.cell? ⟨gb171, 0, none⟩ = some (.int .i64 a0_0) := (blk_cell BK171.out 0).trans rfl; have hcz94_1 : w93.cell? ⟨gb171, 1, none⟩ = some (.slice A0_1 l0_1.length c0_1) := (blk_cell BK171.out 1).trans rfl; have hcz94_2 : w93.cell? ⟨gb171, 2, none⟩ = some (.slice A0_2 l0_2.length c0_2) := (blk_cell BK171.out 2).trans rfl; have hcz94_3 : w93.cell? ⟨gb171, 3, none⟩ = some (.slice A0_3 l0_3.length c0_3) := (blk_cell BK171.out 3).trans rfl; have hcz94_4 : w93.cell? ⟨gb171, 4, none⟩ = some (.slice A0_4 l0_4.length c0_4) := (blk_cell BK171.out 4).trans rfl; have hcz94_5 : w93.cell? ⟨gb171, 5, none⟩ = some (.slice A0_5 l0_5.length c0_5) := (blk_cell BK171.out 5).trans rfl; have hfz94_0 := blk_frozen BK171.out 0; have hfz94_1 := blk_frozen BK171.out 1; have hfz94_2 := blk_frozen BK171.out 2; have hfz94_3 := blk_frozen BK171.out 3; have hfz94_4 := blk_frozen BK171.out 4; have hfz94_5 := blk_frozen BK171.out 5) | ((with_reducible refine gate_builtin (b := .append) (xs := #[.tmp 152, .tmp 154]) rfl ?_); (try (refine gate_guard (by rfl) ?_; dsimp only)); at_builtin; refine Kd.R_append_rows (Kd.int .u32) (w0 := w) w.heap.size rfl (.tmp 152) (.tmp 154) 24 39 (.int .u32 0) 4 rfl Try.underlying24 info39 rfl (by decide) (by omega) (.slice none 0 0) ([] : List Int) l0_5 _ _ _ (fun _ => True) (fun _ => False) rfl rfl ?aO ?aR (fun _ _ h => h) (fun _ h => h.elim) ?aF ?aB ?aS ?aL ?_; (case aR => repeat (first | exact (Kd.C_below HR0_5.out HB.out) | (with_reducible refine Kd.C_alloc ?_ _) | (with_reducible refine Kd.C_drewN ?_ _) | (with_reducible refine Kd.C_drew ?_))); (case aB => exact (by repeat (first | (with_reducible first | exact HB.out | apply below_alloc | apply pw_below_drewN | apply below_drew1 | refine below_set ?_ GE171.out) | exact HB.out))); (case aF => exact (fun _ _ => trivial)); (case aO => exact ((Kd.R_nil _ _ _ _ (fun _ => True)))); (case aS => exact (below_size (by repeat (first | (with_reducible first | exact HB.out | apply below_alloc | apply pw_below_drewN | apply below_drew1 | refine below_set ?_ GE171.out) | exact HB.out)))); (case aL => have := LMc86.out; omega); intro v209 w95 ho hb hg hat; rw [← Ny208.out] at ho; have n0_ := Aside0.mk (Kd.R_grown (by (with_reducible repeat (first | apply Kd.R_alloc | apply Kd.R_drewN | apply Kd.R_drew)); exact HO_11.out) hg (fun _ _ => by simp [Value.ownBlock])); have n1_ := Aside0.mk (Kd.R_grown (by (with_reducible repeat (first | apply Kd.R_alloc | apply Kd.R_drewN | apply Kd.R_drew)); exact HO_17.out) hg (fun _ _ => by simp [Value.ownBlock])); have n2_ := Aside0.mk (blk_grown (g := gb171) (o := .cells #[.int .i64 a0_0, .slice A0_1 l0_1.length c0_1, .slice A0_2 l0_2.length c0_2, .slice A0_3 l0_3.length c0_3, .slice A0_4 l0_4.length c0_4, .slice A0_5 l0_5.length c0_5] 26 (0, 0)) (by (with_reducible repeat (first | refine blk_drewN ?_ _ | refine blk_drew ?_ | refine blk_alloc ?_ _)); exact BK171.out) hg (by simp [Value.ownBlock])); have n3_ := Aside0.mk (Kd.S_grown (by (with_reducible repeat (first | apply Kd.S_alloc | apply Kd.S_drewN | apply Kd.S_drew)); exact HO205.out) hg (fun _ _ => by simp [Value.ownBlock])); have n4_ := Aside0.mk (hb); have n5_ := Aside0.mk (ho); clear HO_11; clear HO_17; clear BK171; clear HO205; clear HB; have HO_11 := n0_; have HO_17 := n1_; have BK171 := n2_; have HO205 := n3_; have HB := n4_; have HO210 := n5_; clear n0_ n1_ n2_ n3_ n4_ n5_; clear ho hb hg hat))
                             have n0_ := Aside0.mk (Kd.R_drew HO_11.out)
                             have n1_ := Aside0.mk (Kd.R_drew HO_17.out)
                             have n2_ := Aside0.mk (Kd.S_drew HO205.out)
                             have n3_ := Aside0.mk (Kd.R_drew HO210.out)
                             have n4_ := Aside0.mk (blk_drew BK171.out)
                             have n5_ := Aside0.mk (below_drew1 HB.out)
                             clear HO_11
                             clear HO_17
                             clear HO205
                             clear HO210
                             clear BK171
                             clear HB
                             have HO_11 := n0_
                             have HO_17 := n1_
                             have HO205 := n2_
                             have HO210 := n3_
                             have BK171 := n4_
                             have HB := n5_
                             clear n0_ n1_ n2_ n3_ n4_ n5_
                             have p211 : 0 ≤ (a3 : Int) := of_decide_eq_true (by first | (with_reducible assumption) | assumption)
                             have q211 : a3 < (l0_4.length : Int) := of_decide_eq_true (by first | (with_reducible assumption) | assumption)
                             obtain ⟨ad211, e211, hx211_0⟩ := Kd.at_int HR0_4.out a3 p211 q211
                             have hw211_0 := hx211_0
                             cases e211
                             replace hx211_0 := (HB.out.cell (World.block_lt_of_cell? w _ hx211_0)).trans hx211_0
                             replace p211 := eq_true p211
                             replace q211 := eq_true q211
                             refine start_ (n := 15) (S := fun w' => w'.cell? ⟨gb171, 0, none⟩ = some (.int .i64 a0_0) ∧ w'.cell? ⟨gb171, 1, none⟩ = some (.slice A0_1 l0_1.length c0_1) ∧ w'.cell? ⟨gb171, 2, none⟩ = some (.slice A0_2 l0_2.length c0_2) ∧ w'.cell? ⟨gb171, 3, none⟩ = some (.slice A0_3 l0_3.length c0_3) ∧ w'.cell? ⟨gb171, 4, none⟩ = some (.slice (some ad211) l0_4.length c0_4) ∧ w'.cell? ⟨gb171, 5, none⟩ = some (.slice A0_5 l0_5.length c0_5) ∧ w'.cell? (ad211.add (a3).toNat) = some (.int .u32 (rd l0_4 a3))) (ds := []) #[false, false, false, false, false, false, false, false, false, false, false, false, false, false, false] (by kernel_rfl) rfl rfl ⟨(blk_cell BK171.out 0).trans rfl, (blk_cell BK171.out 1).trans rfl, (blk_cell BK171.out 2).trans rfl, (blk_cell BK171.out 3).trans rfl, (blk_cell BK171.out 4).trans rfl, (blk_cell BK171.out 5).trans rfl, ((HB.out.cell (World.block_lt_of_cell? w _ hw211_0)).trans hw211_0)⟩ (fun hHeld => ?_); refine with_tabW inquestlaw09_ConeGrows.tab31 inquestlaw09_ConeGrows.bits31 (fun HT_ HW_ => ?_)
                             generalize w95.drew = w96 at HO_11 HO_17 HO205 HO210 BK171 HB hx211_0 hHeld ⊢
                             refine pure_ (i := 1) (N := some 158) (v := ?_) (a' := ?_) #[false, true, false, false, false, false, false, false, false, false, false, false, false, false, false] rfl rfl (any_of HT_.out (by kernel_rfl)) (fun _ _ _ h => h) (Or.inl ⟨by rfl, ?_⟩) ?_ ?_
                             rotate_left
                             ·
                              intro w'
                              go_simp
                              with_reducible rfl
                             rotate_left
                             ·
                              simp only [Act.put, List.setIfInBounds_toArray, List.set_cons_zero, List.set_cons_succ, i64_w, i32_w]
                              rfl
                             refine pure_ (i := 2) (N := some 159) (v := ?_) (a' := ?_) #[false, true, true, false, false, false, false, false, false, false, false, false, false, false, false] rfl rfl (any_of HT_.out (by kernel_rfl)) (fun _ _ _ h => h) (Or.inl ⟨by rfl, ?_⟩) ?_ ?_
                             rotate_left
                             ·
                              intro w'
                              go_simp
                              with_reducible rfl
                             rotate_left
                             ·
                              simp only [Act.put, List.setIfInBounds_toArray, List.set_cons_zero, List.set_cons_succ, i64_w, i32_w]
                              rfl
                             refine pure_ (i := 4) (N := some 161) (v := ?_) (a' := ?_) #[false, true, true, false, true, false, false, false, false, false, false, false, false, false, false] rfl rfl (any_of HT_.out (by kernel_rfl)) (fun _ _ _ h => h) (Or.inl ⟨by rfl, ?_⟩) ?_ ?_
                             rotate_left
                             ·
                              intro w'
                              go_simp
                              with_reducible rfl
                             rotate_left
                             ·
                              simp only [Act.put, List.setIfInBounds_toArray, List.set_cons_zero, List.set_cons_succ, i64_w, i32_w]
                              rfl
                             refine take_ (i := 0) (N := some 157) (v := ?_) (a' := ?_) #[true, true, true, false, true, false, false, false, false, false, false, false, false, false, false] rfl rfl (take_ofW HT_.out HW_.out (by kernel_rfl)) (fun _ _ _ h => h) (Or.inl ⟨by rfl, ?_⟩) hHeld ?_ ?_
                             rotate_left
                             ·
                              rintro w' ⟨s0, s1, s2, s3, s4, s5, s6⟩
                              go_simp
                              with_reducible rfl
                             rotate_left
                             ·
                              simp only [Act.put, List.setIfInBounds_toArray, List.set_cons_zero, List.set_cons_succ, i64_w, i32_w]
                              rfl
                             refine take_ (i := 3) (N := some 160) (v := ?_) (a' := ?_) #[true, true, true, true, true, false, false, false, false, false, false, false, false, false, false] rfl rfl (take_ofW HT_.out HW_.out (by kernel_rfl)) (fun _ _ _ h => h) (Or.inl ⟨by rfl, ?_⟩) hHeld ?_ ?_
                             rotate_left
                             ·
                              rintro w' ⟨s0, s1, s2, s3, s4, s5, s6⟩
                              go_simp
                              with_reducible rfl
                             rotate_left
                             ·
                              simp only [Act.put, List.setIfInBounds_toArray, List.set_cons_zero, List.set_cons_succ, i64_w, i32_w]
                              rfl
                             refine pure_ (i := 5) (N := some 162) (v := ?_) (a' := ?_) #[true, true, true, true, true, true, false, false, false, false, false, false, false, false, false] rfl rfl (any_of HT_.out (by kernel_rfl)) (fun _ _ _ h => h) (Or.inl ⟨by rfl, ?_⟩) ?_ ?_
                             rotate_left
                             ·
                              intro w'
                              go_simp
                              with_reducible rfl
                             rotate_left
                             ·
                              simp only [Act.put, List.setIfInBounds_toArray, List.set_cons_zero, List.set_cons_succ, i64_w, i32_w]
                              rfl
                             refine take_ (i := 6) (N := some 163) (v := ?_) (a' := ?_) #[true, true, true, true, true, true, true, false, false, false, false, false, false, false, false] rfl rfl (take_ofW HT_.out HW_.out (by kernel_rfl)) (fun _ _ _ h => h) (Or.inl ⟨by rfl, ?_⟩) hHeld ?_ ?_
                             rotate_left
                             ·
                              rintro w' ⟨s0, s1, s2, s3, s4, s5, s6⟩
                              go_simp
                              with_reducible rfl
                             rotate_left
                             ·
                              simp only [Act.put, List.setIfInBounds_toArray, List.set_cons_zero, List.set_cons_succ, i64_w, i32_w]
                              rfl
                             refine one_ (i := 7) (N := some 164) #[true, true, true, true, true, true, true, true, false, false, false, false, false, false, false] rfl rfl (one_of HT_.out (by kernel_rfl)) (by decide) (fun K hK => ?_)
                             refine value_ (w1 := ?_) (v := ?_) (by rfl) rfl ?_ ?_
                             rotate_left 2
                             ·
                              go_simp
                              constructor
                              · rfl
                              · rfl
                             refine hK.out _ _ ⟨(blk_cell (blk_alloc BK171.out _) 0).trans rfl, (blk_cell (blk_alloc BK171.out _) 1).trans rfl, (blk_cell (blk_alloc BK171.out _) 2).trans rfl, (blk_cell (blk_alloc BK171.out _) 3).trans rfl, (blk_cell (blk_alloc BK171.out _) 4).trans rfl, (blk_cell (blk_alloc BK171.out _) 5).trans rfl, (World.cell?_alloc_lt _ _ _ (World.block_lt_of_cell? _ _ (((HB.out.cell (World.block_lt_of_cell? w _ hw211_0)).trans hw211_0)))).trans (((HB.out.cell (World.block_lt_of_cell? w _ hw211_0)).trans hw211_0))⟩ (fun hHeld => ?_)
                             clear hK K
                             refine norm_ (a' := ?_) ?_ ?_
                             rotate_left
                             ·
                              show Act.put _ (some 164) _ = _
                              simp only [Act.put, List.setIfInBounds_toArray, List.set_cons_zero, List.set_cons_succ, i64_w, i32_w]
                              rfl
                             refine one_ (i := 8) (N := some 165) #[true, true, true, true, true, true, true, true, true, false, false, false, false, false, false] rfl rfl (one_of HT_.out (by kernel_rfl)) (by decide) (fun K hK => ?_)
                             refine Kd.R_append_step (Kd.int .u32) (w0 := w) w.heap.size (by rfl) (.tmp 158) (.tmp 164) 24 39 (.int .u32 0) 4 rfl Try.underlying24 info39 rfl (by decide) (by omega) v209 y208 (rd l0_4 a3) [.int .u32 (rd l0_4 a3)] (fun _ => True) (fun _ => False) rfl rfl ?aP (fun _ hk => hk.elim) ?aF ?aO ?aB ?aS ?aL ?_
                             (case aP => exact rfl)
                             (case aB => exact (by repeat (first | (with_reducible first | exact HB.out | apply below_alloc | apply pw_below_drewN | apply below_drew1 | refine below_set ?_ GE171.out) | exact HB.out)))
                             (case aF => exact (fun _ _ => trivial))
                             (case aO => exact (by (with_reducible repeat (first | apply Kd.R_alloc | apply Kd.R_drewN | apply Kd.R_drew)); exact HO210.out))
                             (case aS => exact (below_size (by repeat (first | (with_reducible first | exact HB.out | apply below_alloc | apply pw_below_drewN | apply below_drew1 | refine below_set ?_ GE171.out) | exact HB.out))))
                             (case aL => have := LMc89.out; omega)
                             intro v213 w97 ho hb hg hat
                             rw [← Ny212.out] at ho
                             have n0_ := Aside0.mk (Kd.R_over' (by (with_reducible repeat (first | apply Kd.R_alloc | apply Kd.R_drewN | apply Kd.R_drew)); exact HO_11.out) (Kd.R_typed (by (with_reducible repeat (first | apply Kd.R_alloc | apply Kd.R_drewN | apply Kd.R_drew)); exact HO210.out)) (by decide) hg)
                             have n1_ := Aside0.mk (Kd.R_over' (by (with_reducible repeat (first | apply Kd.R_alloc | apply Kd.R_drewN | apply Kd.R_drew)); exact HO_17.out) (Kd.R_typed (by (with_reducible repeat (first | apply Kd.R_alloc | apply Kd.R_drewN | apply Kd.R_drew)); exact HO210.out)) (by decide) hg)
                             have n2_ := Aside0.mk (blk_grown (g := gb171) (o := .cells #[.int .i64 a0_0, .slice A0_1 l0_1.length c0_1, .slice A0_2 l0_2.length c0_2, .slice A0_3 l0_3.length c0_3, .slice (some ad211) l0_4.length c0_4, .slice A0_5 l0_5.length c0_5] 26 (0, 0)) (by (with_reducible repeat (first | refine blk_drewN ?_ _ | refine blk_drew ?_ | refine blk_alloc ?_ _)); exact BK171.out) hg (Kd.R_ne HO210.out BK171.out (by decide)))
                             have n3_ := Aside0.mk (Kd.S_over' (by (with_reducible repeat (first | apply Kd.S_alloc | apply Kd.S_drewN | apply Kd.S_drew)); exact HO205.out) (Kd.R_typed (by (with_reducible repeat (first | apply Kd.R_alloc | apply Kd.R_drewN | apply Kd.R_drew)); exact HO210.out)) (by decide) hg)
                             have n4_ := Aside0.mk (hb)
                             have n5_ := Aside0.mk (ho)
                             clear HO_11
                             clear HO_17
                             clear BK171
                             clear HO205
                             clear HB
                             clear HO210
                             have HO_11 := n0_
                             have HO_17 := n1_
                             have BK171 := n2_
                             have HO205 := n3_
                             have HB := n4_
                             have HO214 := n5_
                             clear n0_ n1_ n2_ n3_ n4_ n5_
                             clear ho hb hg hat
                             obtain ⟨Ao98, co98, eo98⟩ := Kd.R_slice HO214.out
                             (first | subst eo98 | (injection eo98 with f1_ f2_ f3_; have f4_ := f1_.symm; have f5_ := f3_.symm; clear f1_ f2_ f3_; subst f4_; subst f5_))
                             refine hK.out _ _ ⟨(blk_cell BK171.out 0).trans rfl, (blk_cell BK171.out 1).trans rfl, (blk_cell BK171.out 2).trans rfl, (blk_cell BK171.out 3).trans rfl, (blk_cell BK171.out 4).trans rfl, (blk_cell BK171.out 5).trans rfl, ((HB.out.cell (World.block_lt_of_cell? w _ hw211_0)).trans hw211_0)⟩ (fun hHeld => ?_)
                             clear hK K
                             refine norm_ (a' := ?_) ?_ ?_
                             rotate_left
                             ·
                              show Act.put _ (some 165) _ = _
                              simp only [Act.put, List.setIfInBounds_toArray, List.set_cons_zero, List.set_cons_succ, i64_w, i32_w]
                              rfl
                             refine one_ (i := 9) (N := some 166) #[true, true, true, true, true, true, true, true, true, true, false, false, false, false, false] rfl rfl (one_of HT_.out (by kernel_rfl)) (by decide) (fun K hK => ?_)
                             refine goes_ Try.func25 (by kernel_rfl) rfl #[.agg #[.int .i64 a0_0, .slice A0_1 l0_1.length c0_1, .slice A0_2 l0_2.length c0_2, .slice A0_3 l0_3.length c0_3, .slice (some ad211) l0_4.length c0_4, .slice A0_5 l0_5.length c0_5], .slice Ao98 y212.length co98] (by rfl) rfl rfl (by (try simp only [List.map_toArray, List.map_cons, List.map_nil]); first | done | rfl | (simp only [List.length_drop, List.length_take]; rfl)) ?_
                             with_reducible refine (cone_Ever.calls a0_0 _ _ l0_1 _ _ l0_2 _ _ l0_3 _ _ l0_4 _ _ l0_5 _ _ y212 t215 t218 _ ?side1 ?side2 ?side3 ?side4 ?side5 ?side6 ?side7 ?side8 ?side9 ?side10 ?side11 ?side12 A90.out).mono ?_
                             (case side1 => repeat (first | exact (Kd.C_below HR0_1.out HB.out) | (with_reducible refine Kd.C_alloc ?_ _) | (with_reducible refine Kd.C_drewN ?_ _) | (with_reducible refine Kd.C_drew ?_)))
                             (case side2 => exact HC0_1.out)
                             (case side3 => repeat (first | exact (Kd.C_below HR0_2.out HB.out) | (with_reducible refine Kd.C_alloc ?_ _) | (with_reducible refine Kd.C_drewN ?_ _) | (with_reducible refine Kd.C_drew ?_)))
                             (case side4 => exact HC0_2.out)
                             (case side5 => repeat (first | exact (Kd.C_below HR0_3.out HB.out) | (with_reducible refine Kd.C_alloc ?_ _) | (with_reducible refine Kd.C_drewN ?_ _) | (with_reducible refine Kd.C_drew ?_)))
                             (case side6 => exact HC0_3.out)
                             (case side7 => repeat (first | exact (Kd.C_below HR0_4.out HB.out) | (with_reducible refine Kd.C_alloc ?_ _) | (with_reducible refine Kd.C_drewN ?_ _) | (with_reducible refine Kd.C_drew ?_)))
                             (case side8 => exact HC0_4.out)
                             (case side9 => repeat (first | exact (Kd.C_below HR0_5.out HB.out) | (with_reducible refine Kd.C_alloc ?_ _) | (with_reducible refine Kd.C_drewN ?_ _) | (with_reducible refine Kd.C_drew ?_)))
                             (case side10 => exact HC0_5.out)
                             (case side11 => repeat (first | exact (Kd.R_reads' HO214.out).2.2 | (with_reducible refine Kd.C_alloc ?_ _) | (with_reducible refine Kd.C_drewN ?_ _) | (with_reducible refine Kd.C_drew ?_)))
                             (case side12 => exact (Kd.R_reads' HO214.out).2.1)
                             rintro e w99 ⟨v216, rfl, ho0, hb⟩
                             refine ⟨_, rfl, ?_⟩
                             have n0_ := Aside0.mk (Kd.R_elder' (by (with_reducible repeat (first | apply Kd.R_alloc | apply Kd.R_drewN | apply Kd.R_drew)); exact HO_11.out) (Kd.R_base ho0) hb)
                             have n1_ := Aside0.mk (Kd.R_elder' (by (with_reducible repeat (first | apply Kd.R_alloc | apply Kd.R_drewN | apply Kd.R_drew)); exact HO_17.out) (Kd.R_base ho0) hb)
                             have n2_ := Aside0.mk (Kd.S_elder' (by (with_reducible repeat (first | apply Kd.S_alloc | apply Kd.S_drewN | apply Kd.S_drew)); exact HO205.out) (Kd.R_base ho0) hb)
                             have n3_ := Aside0.mk (Kd.R_below (by (with_reducible repeat (first | apply Kd.R_alloc | apply Kd.R_drewN | apply Kd.R_drew)); exact HO214.out) hb)
                             have n4_ := Aside0.mk (Kd.R_lower (Kd.R_new' (Kd.R_new' ho0 (Kd.R_lt (by (with_reducible repeat (first | apply Kd.R_alloc | apply Kd.R_drewN | apply Kd.R_drew)); exact HO_11.out))) (Kd.R_lt (by (with_reducible repeat (first | apply Kd.R_alloc | apply Kd.R_drewN | apply Kd.R_drew)); exact HO_17.out))) (below_size (by repeat (first | (with_reducible first | exact HB.out | apply below_alloc | apply pw_below_drewN | apply below_drew1 | refine below_set ?_ GE171.out) | exact HB.out))))
                             have n5_ := Aside0.mk (blk_below (g := gb171) (o := .cells #[.int .i64 a0_0, .slice A0_1 l0_1.length c0_1, .slice A0_2 l0_2.length c0_2, .slice A0_3 l0_3.length c0_3, .slice (some ad211) l0_4.length c0_4, .slice A0_5 l0_5.length c0_5] 26 (0, 0)) (by (with_reducible repeat (first | refine blk_drewN ?_ _ | refine blk_drew ?_ | refine blk_alloc ?_ _)); exact BK171.out) hb)
                             have n6_ := Aside0.mk (below_step (by repeat (first | (with_reducible first | exact HB.out | apply below_alloc | apply pw_below_drewN | apply below_drew1 | refine below_set ?_ GE171.out) | exact HB.out)) hb)
                             clear HO_11
                             clear HO_17
                             clear HO205
                             clear HO214
                             clear BK171
                             clear HB
                             have HO_11 := n0_
                             have HO_17 := n1_
                             have HO205 := n2_
                             have HO214 := n3_
                             have HO217 := n4_
                             have BK171 := n5_
                             have HB := n6_
                             clear n0_ n1_ n2_ n3_ n4_ n5_ n6_
                             (try clear hb)
                             (try clear hb2)
                             (try clear hk)
                             (try clear hi)
                             (try clear ho0)
                             refine hK.out _ _ ⟨(blk_cell BK171.out 0).trans rfl, (blk_cell BK171.out 1).trans rfl, (blk_cell BK171.out 2).trans rfl, (blk_cell BK171.out 3).trans rfl, (blk_cell BK171.out 4).trans rfl, (blk_cell BK171.out 5).trans rfl, ((HB.out.cell (World.block_lt_of_cell? w _ hw211_0)).trans hw211_0)⟩ (fun hHeld => ?_)
                             clear hK K
                             refine norm_ (a' := ?_) ?_ ?_
                             rotate_left
                             ·
                              show Act.put _ (some 166) _ = _
                              simp only [Act.put, List.setIfInBounds_toArray, List.set_cons_zero, List.set_cons_succ, i64_w, i32_w]
                              rfl
                             refine pure_ (i := 10) (N := some 156) (v := ?_) (a' := ?_) #[true, true, true, true, true, true, true, true, true, true, true, false, false, false, false] rfl rfl (any_of HT_.out (by kernel_rfl)) (fun _ _ _ h => h) (Or.inl ⟨by rfl, ?_⟩) ?_ ?_
                             rotate_left
                             ·
                              intro w'
                              go_simp
                              with_reducible rfl
                             rotate_left
                             ·
                              simp only [Act.put, List.setIfInBounds_toArray, List.set_cons_zero, List.set_cons_succ, i64_w, i32_w]
                              rfl
                             refine pure_ (i := 11) (N := some 167) (v := ?_) (a' := ?_) #[true, true, true, true, true, true, true, true, true, true, true, true, false, false, false] rfl rfl (any_of HT_.out (by kernel_rfl)) (fun _ _ _ h => h) (Or.inl ⟨by rfl, ?_⟩) ?_ ?_
                             rotate_left
                             ·
                              intro w'
                              go_simp
                              with_reducible rfl
                             rotate_left
                             ·
                              simp only [Act.put, List.setIfInBounds_toArray, List.set_cons_zero, List.set_cons_succ, i64_w, i32_w]
                              rfl
                             refine pure_ (i := 12) (N := some 168) (v := ?_) (a' := ?_) #[true, true, true, true, true, true, true, true, true, true, true, true, true, false, false] rfl rfl (any_of HT_.out (by kernel_rfl)) (fun _ _ _ h => h) (Or.inl ⟨by rfl, ?_⟩) ?_ ?_
                             rotate_left
                             ·
                              intro w'
                              go_simp
                              with_reducible rfl
                             rotate_left
                             ·
                              simp only [Act.put, List.setIfInBounds_toArray, List.set_cons_zero, List.set_cons_succ, i64_w, i32_w]
                              rfl
                             refine pure_ (i := 13) (N := some 23) (v := ?_) (a' := ?_) #[true, true, true, true, true, true, true, true, true, true, true, true, true, true, false] rfl rfl (any_of HT_.out (by kernel_rfl)) (fun _ _ _ h => h) (Or.inl ⟨by rfl, ?_⟩) ?_ ?_
                             rotate_left
                             ·
                              intro w'
                              go_simp
                              with_reducible rfl
                             rotate_left
                             ·
                              simp only [Act.put, List.setIfInBounds_toArray, List.set_cons_zero, List.set_cons_succ, i64_w, i32_w]
                              rfl
                             refine pure_ (i := 14) (N := some 24) (v := ?_) (a' := ?_) #[true, true, true, true, true, true, true, true, true, true, true, true, true, true, true] rfl rfl (any_of HT_.out (by kernel_rfl)) (fun _ _ _ h => h) (Or.inl ⟨by rfl, ?_⟩) ?_ ?_
                             rotate_left
                             ·
                              intro w'
                              go_simp
                              with_reducible rfl
                             rotate_left
                             ·
                              simp only [Act.put, List.setIfInBounds_toArray, List.set_cons_zero, List.set_cons_succ, i64_w, i32_w]
                              rfl
                             refine done_ (done_of HT_.out (by kernel_rfl)) ?_
                             go_upto_region 32 with (fail)
                             go_cut [176] (fun v176 wc => ∃ (kq : Nat) (x176_90 : Bool), v176 = .bool x176_90 ∧ Aside0 (inquestlaw09_ConeGrows.j5 kq t203 t215 x176_90 = some r) ∧ Aside0 (kq ≤ k5) ∧ Aside0 (Kd.S (Kd.slice 4 Kd.bool) 33 wc w.heap.size (fun k_ => some k_ ≠ (v216 : Value).ownBlock) v204 t203) ∧ Aside0 (Kd.R Kd.bool 4 wc w.heap.size (fun _ => True) v216 t215) ∧ Aside0 (wc.heap[gb171]? = some (.cells #[.int .i64 a0_0, (.slice A0_1 l0_1.length c0_1), (.slice A0_2 l0_2.length c0_2), (.slice A0_3 l0_3.length c0_3), (.slice (some ad211) l0_4.length c0_4), (.slice A0_5 l0_5.length c0_5)] 26 (0, 0))) ∧ Aside0 (Below w.heap.size w wc))
                             case first =>
                              have H := HC91.out
                              clear HC91
                              by_cases c100 : t218 = 0
                              ·
                               rw [if_pos c100] at H
                               have c100b0 : (t218 == 0) = true := beq_iff_eq.mpr c100
                               have c100b1 : (t218 != 0) = false := bne_eq_false_iff_eq.mpr c100
                               clear c100
                               (first | rw [c100b0] | (simp only [i64_w, i32_w]; rw [c100b0]) | skip)
                               have H' := Aside0.mk H
                               clear H
                               obtain ⟨Ao101, co101, eo101⟩ := Kd.S_slice HO205.out
                               subst eo101
                               go_wp2
                               go_meet
                               case rel => exact ⟨_, (((t203.length : Int) != a4)), (by first | rfl | (simp; done) | (simp [*]; done)), H', ⟨by have := HJ5.out; have := HJ21.out; have := HK3.out; have := HJ55.out; have := HK5.out; first | omega | exact Nat.le_refl _⟩, ⟨by (with_reducible repeat (first | apply Kd.S_alloc | apply Kd.S_drewN | apply Kd.S_drew)); exact Kd.S_mono HO205.out (fun _ hk => hk.2)⟩, ⟨by (with_reducible repeat (first | apply Kd.R_alloc | apply Kd.R_drewN | apply Kd.R_drew)); exact Kd.R_mono HO217.out (fun _ hk => trivial)⟩, ⟨by (with_reducible repeat (first | refine blk_drewN ?_ _ | refine blk_drew ?_ | refine blk_alloc ?_ _)); exact BK171.out⟩, ⟨by repeat (first | (with_reducible first | exact HB.out | apply below_alloc | apply pw_below_drewN | apply below_drew1 | refine below_set ?_ GE171.out) | exact HB.out)⟩⟩
                              ·
                               rw [if_neg c100] at H
                               have c100b0 : (t218 == 0) = false := beq_eq_false_iff_ne.mpr c100
                               have c100b1 : (t218 != 0) = true := bne_iff_ne.mpr c100
                               (first | rw [c100b0] | (simp only [i64_w, i32_w]; rw [c100b0]) | skip)
                               have H' := Aside0.mk H
                               clear H
                               go_wp2
                               go_meet
                               case rel => exact ⟨_, (true), (by first | rfl | (simp; done) | (simp [*]; done)), H', ⟨by have := HJ5.out; have := HJ21.out; have := HK3.out; have := HJ55.out; have := HK5.out; first | omega | exact Nat.le_refl _⟩, ⟨by (with_reducible repeat (first | apply Kd.S_alloc | apply Kd.S_drewN | apply Kd.S_drew)); exact Kd.S_mono HO205.out (fun _ hk => hk.2)⟩, ⟨by (with_reducible repeat (first | apply Kd.R_alloc | apply Kd.R_drewN | apply Kd.R_drew)); exact Kd.R_mono HO217.out (fun _ hk => trivial)⟩, ⟨by (with_reducible repeat (first | refine blk_drewN ?_ _ | refine blk_drew ?_ | refine blk_alloc ?_ _)); exact BK171.out⟩, ⟨by repeat (first | (with_reducible first | exact HB.out | apply below_alloc | apply pw_below_drewN | apply below_drew1 | refine below_set ?_ GE171.out) | exact HB.out)⟩⟩
                             case rest =>
                              as_aux_lemma =>
                               clear HC91
                               try clear c1
                               try clear p1
                               try clear q1
                               try clear hx1
                               try clear c2
                               try clear p2
                               try clear q2
                               try clear hx2
                               try clear c3
                               try clear q4
                               try clear p6
                               try clear c7
                               try clear q7
                               try clear c8
                               try clear c10
                               try clear p18
                               try clear q18
                               try clear hx18
                               try clear p20
                               try clear q20
                               try clear hx20
                               try clear p21
                               try clear q21
                               try clear hx21
                               try clear c25
                               try clear c30
                               try clear q43
                               try clear p64
                               try clear c70
                               try clear c70b0
                               try clear c71
                               try clear c71b0
                               try clear c71b1
                               try clear c72
                               try clear c72b0
                               try clear c74
                               try clear c74b0
                               try clear c75
                               try clear c75b0
                               try clear q76
                               try clear c77
                               try clear c78
                               try clear c78b0
                               try clear q79
                               try clear c80
                               try clear c85
                               try clear c85b0
                               try clear c85b1
                               try clear c86
                               try clear c87
                               try clear c87b0
                               try clear c88
                               try clear c88b0
                               try clear c89
                               try clear c100
                               try clear c100b0
                               try clear c100b1
                               try clear hcz15_0
                               try clear hcz15_1
                               try clear hcz15_2
                               try clear hcz15_3
                               try clear hcz15_4
                               try clear hcz15_5
                               try clear hcz23_0
                               try clear hcz23_1
                               try clear hcz23_2
                               try clear hcz23_3
                               try clear hcz23_4
                               try clear hcz23_5
                               try clear hcz28_0
                               try clear hcz28_1
                               try clear hcz28_2
                               try clear hcz28_3
                               try clear hcz28_4
                               try clear hcz28_5
                               try clear hcz31_0
                               try clear hcz31_1
                               try clear hcz31_2
                               try clear hcz31_3
                               try clear hcz31_4
                               try clear hcz31_5
                               try clear hcz33_0
                               try clear hcz33_1
                               try clear hcz33_2
                               try clear hcz33_3
                               try clear hcz33_4
                               try clear hcz33_5
                               try clear hcz38_0
                               try clear hcz38_1
                               try clear hcz38_2
                               try clear hcz38_3
                               try clear hcz38_4
                               try clear hcz38_5
                               try clear hcz48_0
                               try clear hcz48_1
                               try clear hcz48_2
                               try clear hcz48_3
                               try clear hcz48_4
                               try clear hcz48_5
                               try clear hcz51_0
                               try clear hcz51_1
                               try clear hcz51_2
                               try clear hcz51_3
                               try clear hcz51_4
                               try clear hcz51_5
                               try clear hcz57_0
                               try clear hcz57_1
                               try clear hcz57_2
                               try clear hcz57_3
                               try clear hcz57_4
                               try clear hcz57_5
                               try clear hcz92_0
                               try clear hcz92_1
                               try clear hcz92_2
                               try clear hcz92_3
                               try clear hcz92_4
                               try clear hcz92_5
                               try clear hcz94_0
                               try clear hcz94_1
                               try clear hcz94_2
                               try clear hcz94_3
                               try clear hcz94_4
                               try clear hcz94_5
                               try clear hfz10_0
                               try clear hfz10_1
                               try clear hfz10_2
                               try clear hfz10_3
                               try clear hfz10_4
                               try clear hfz10_5
                               try clear hfz13_0
                               try clear hfz13_1
                               try clear hfz13_2
                               try clear hfz13_3
                               try clear hfz13_4
                               try clear hfz13_5
                               try clear hfz15_0
                               try clear hfz15_1
                               try clear hfz15_2
                               try clear hfz15_3
                               try clear hfz15_4
                               try clear hfz15_5
                               try clear hfz23_0
                               try clear hfz23_1
                               try clear hfz23_2
                               try clear hfz23_3
                               try clear hfz23_4
                               try clear hfz23_5
                               try clear hfz28_0
                               try clear hfz28_1
                               try clear hfz28_2
                               try clear hfz28_3
                               try clear hfz28_4
                               try clear hfz28_5
                               try clear hfz31_0
                               try clear hfz31_1
                               try clear hfz31_2
                               try clear hfz31_3
                               try clear hfz31_4
                               try clear hfz31_5
                               try clear hfz33_0
                               try clear hfz33_1
                               try clear hfz33_2
                               try clear hfz33_3
                               try clear hfz33_4
                               try clear hfz33_5
                               try clear hfz38_0
                               try clear hfz38_1
                               try clear hfz38_2
                               try clear hfz38_3
                               try clear hfz38_4
                               try clear hfz38_5
                               try clear hfz48_0
                               try clear hfz48_1
                               try clear hfz48_2
                               try clear hfz48_3
                               try clear hfz48_4
                               try clear hfz48_5
                               try clear hfz51_0
                               try clear hfz51_1
                               try clear hfz51_2
                               try clear hfz51_3
                               try clear hfz51_4
                               try clear hfz51_5
                               try clear hfz57_0
                               try clear hfz57_1
                               try clear hfz57_2
                               try clear hfz57_3
                               try clear hfz57_4
                               try clear hfz57_5
                               try clear hfz92_0
                               try clear hfz92_1
                               try clear hfz92_2
                               try clear hfz92_3
                               try clear hfz92_4
                               try clear hfz92_5
                               try clear hfz94_0
                               try clear hfz94_1
                               try clear hfz94_2
                               try clear hfz94_3
                               try clear hfz94_4
                               try clear hfz94_5
                               try clear hx184_0
                               try clear hx185_0
                               try clear hx185_1
                               try clear hx201_0
                               try clear hx202_0
                               try clear hx211_0
                               try clear p1
                               try clear p18
                               try clear p184
                               try clear p185
                               try clear p2
                               try clear p201
                               try clear p202
                               try clear p211
                               try clear p6
                               try clear p64
                               try clear q1
                               try clear q18
                               try clear q184
                               try clear q185
                               try clear q201
                               try clear q202
                               try clear q211
                               try clear q4
                               try clear q43
                               obtain ⟨kq, x176_90, rfl, HA, HJ90, HO_20, HO_23, BK171, HB⟩ := hcut
                               cases kq with
                               | zero => exact absurd HA.out (by simp [inquestlaw09_ConeGrows.j5])
                               | succ kj90 =>
                                have H := HA.out
                                clear HA
                                simp only [inquestlaw09_ConeGrows.j5] at H
                                by_cases c102 : x176_90 = true
                                ·
                                 subst c102
                                 have H1 : (some false) = some r := by rw [if_pos rfl] at H; exact H
                                 clear H
                                 have H := H1
                                 clear H1
                                 exact absurd (hrt.out.symm.trans (Option.some.inj H).symm) (by decide)
                                ·
                                 replace c102 := Bool.eq_false_iff.mpr c102
                                 subst c102
                                 have H1 : (inquestlaw09_ConeGrows.l2 kj90 t203 t215 (t203.length : Int) 0) = some r := by rw [if_neg (show ¬ (false = true) by decide)] at H; exact H
                                 clear H
                                 have H := H1
                                 clear H1
                                 have H' := Aside0.mk H
                                 clear H
                                 obtain ⟨Ao103, co103, eo103⟩ := Kd.S_slice HO_20.out
                                 subst eo103
                                 go_wp2
                                 go_loopg [179] kj90 (fun kq v179 w' => ∃ (x179_7 : Int), v179 = .int .i64 x179_7 ∧ Aside0 (inquestlaw09_ConeGrows.l2 kq t203 t215 (t203.length : Int) x179_7 = some r) ∧ Aside0 (kq ≤ kj90) ∧ Aside0 (Kd.S (Kd.slice 4 Kd.bool) 33 w' w.heap.size (fun k_ => some k_ ≠ (v216 : Value).ownBlock) (.slice Ao103 t203.length co103) t203) ∧ Aside0 (Kd.R Kd.bool 4 w' w.heap.size (fun _ => True) v216 t215) ∧ Aside0 (w'.heap[gb171]? = some (.cells #[.int .i64 a0_0, (.slice A0_1 l0_1.length c0_1), (.slice A0_2 l0_2.length c0_2), (.slice A0_3 l0_3.length c0_3), (.slice (some ad211) l0_4.length c0_4), (.slice A0_5 l0_5.length c0_5)] 26 (0, 0))) ∧ Aside0 (Below w.heap.size w w'))
                                 case atStart => exact ⟨(0), (by first | rfl | (simp; done) | (simp [*]; done)), H', ⟨Nat.le_refl _⟩, ⟨by (with_reducible repeat (first | apply Kd.S_alloc | apply Kd.S_drewN | apply Kd.S_drew)); exact HO_20.out⟩, ⟨by (with_reducible repeat (first | apply Kd.R_alloc | apply Kd.R_drewN | apply Kd.R_drew)); exact HO_23.out⟩, ⟨by (with_reducible repeat (first | refine blk_drewN ?_ _ | refine blk_drew ?_ | refine blk_alloc ?_ _)); exact BK171.out⟩, ⟨by repeat (first | (with_reducible first | exact HB.out | apply below_alloc | apply pw_below_drewN | apply below_drew1 | refine below_set ?_ GE171.out) | exact HB.out)⟩⟩
                                 case round =>
                                  as_aux_lemma =>
                                   clear H'
                                   try clear c1
                                   try clear p1
                                   try clear q1
                                   try clear hx1
                                   try clear c2
                                   try clear p2
                                   try clear q2
                                   try clear hx2
                                   try clear c3
                                   try clear q4
                                   try clear p6
                                   try clear c7
                                   try clear q7
                                   try clear c8
                                   try clear c10
                                   try clear p18
                                   try clear q18
                                   try clear hx18
                                   try clear p20
                                   try clear q20
                                   try clear hx20
                                   try clear p21
                                   try clear q21
                                   try clear hx21
                                   try clear c25
                                   try clear c30
                                   try clear q43
                                   try clear p64
                                   try clear c70
                                   try clear c70b0
                                   try clear c71
                                   try clear c71b0
                                   try clear c71b1
                                   try clear c72
                                   try clear c72b0
                                   try clear c74
                                   try clear c74b0
                                   try clear c75
                                   try clear c75b0
                                   try clear q76
                                   try clear c77
                                   try clear c78
                                   try clear c78b0
                                   try clear q79
                                   try clear c80
                                   try clear c85
                                   try clear c85b0
                                   try clear c85b1
                                   try clear c86
                                   try clear c87
                                   try clear c87b0
                                   try clear c88
                                   try clear c88b0
                                   try clear c89
                                   try clear c100
                                   try clear c100b0
                                   try clear c100b1
                                   try clear c102
                                   try clear hcz15_0
                                   try clear hcz15_1
                                   try clear hcz15_2
                                   try clear hcz15_3
                                   try clear hcz15_4
                                   try clear hcz15_5
                                   try clear hcz23_0
                                   try clear hcz23_1
                                   try clear hcz23_2
                                   try clear hcz23_3
                                   try clear hcz23_4
                                   try clear hcz23_5
                                   try clear hcz28_0
                                   try clear hcz28_1
                                   try clear hcz28_2
                                   try clear hcz28_3
                                   try clear hcz28_4
                                   try clear hcz28_5
                                   try clear hcz31_0
                                   try clear hcz31_1
                                   try clear hcz31_2
                                   try clear hcz31_3
                                   try clear hcz31_4
                                   try clear hcz31_5
                                   try clear hcz33_0
                                   try clear hcz33_1
                                   try clear hcz33_2
                                   try clear hcz33_3
                                   try clear hcz33_4
                                   try clear hcz33_5
                                   try clear hcz38_0
                                   try clear hcz38_1
                                   try clear hcz38_2
                                   try clear hcz38_3
                                   try clear hcz38_4
                                   try clear hcz38_5
                                   try clear hcz48_0
                                   try clear hcz48_1
                                   try clear hcz48_2
                                   try clear hcz48_3
                                   try clear hcz48_4
                                   try clear hcz48_5
                                   try clear hcz51_0
                                   try clear hcz51_1
                                   try clear hcz51_2
                                   try clear hcz51_3
                                   try clear hcz51_4
                                   try clear hcz51_5
                                   try clear hcz57_0
                                   try clear hcz57_1
                                   try clear hcz57_2
                                   try clear hcz57_3
                                   try clear hcz57_4
                                   try clear hcz57_5
                                   try clear hcz92_0
                                   try clear hcz92_1
                                   try clear hcz92_2
                                   try clear hcz92_3
                                   try clear hcz92_4
                                   try clear hcz92_5
                                   try clear hcz94_0
                                   try clear hcz94_1
                                   try clear hcz94_2
                                   try clear hcz94_3
                                   try clear hcz94_4
                                   try clear hcz94_5
                                   try clear hfz10_0
                                   try clear hfz10_1
                                   try clear hfz10_2
                                   try clear hfz10_3
                                   try clear hfz10_4
                                   try clear hfz10_5
                                   try clear hfz13_0
                                   try clear hfz13_1
                                   try clear hfz13_2
                                   try clear hfz13_3
                                   try clear hfz13_4
                                   try clear hfz13_5
                                   try clear hfz15_0
                                   try clear hfz15_1
                                   try clear hfz15_2
                                   try clear hfz15_3
                                   try clear hfz15_4
                                   try clear hfz15_5
                                   try clear hfz23_0
                                   try clear hfz23_1
                                   try clear hfz23_2
                                   try clear hfz23_3
                                   try clear hfz23_4
                                   try clear hfz23_5
                                   try clear hfz28_0
                                   try clear hfz28_1
                                   try clear hfz28_2
                                   try clear hfz28_3
                                   try clear hfz28_4
                                   try clear hfz28_5
                                   try clear hfz31_0
                                   try clear hfz31_1
                                   try clear hfz31_2
                                   try clear hfz31_3
                                   try clear hfz31_4
                                   try clear hfz31_5
                                   try clear hfz33_0
                                   try clear hfz33_1
                                   try clear hfz33_2
                                   try clear hfz33_3
                                   try clear hfz33_4
                                   try clear hfz33_5
                                   try clear hfz38_0
                                   try clear hfz38_1
                                   try clear hfz38_2
                                   try clear hfz38_3
                                   try clear hfz38_4
                                   try clear hfz38_5
                                   try clear hfz48_0
                                   try clear hfz48_1
                                   try clear hfz48_2
                                   try clear hfz48_3
                                   try clear hfz48_4
                                   try clear hfz48_5
                                   try clear hfz51_0
                                   try clear hfz51_1
                                   try clear hfz51_2
                                   try clear hfz51_3
                                   try clear hfz51_4
                                   try clear hfz51_5
                                   try clear hfz57_0
                                   try clear hfz57_1
                                   try clear hfz57_2
                                   try clear hfz57_3
                                   try clear hfz57_4
                                   try clear hfz57_5
                                   try clear hfz92_0
                                   try clear hfz92_1
                                   try clear hfz92_2
                                   try clear hfz92_3
                                   try clear hfz92_4
                                   try clear hfz92_5
                                   try clear hfz94_0
                                   try clear hfz94_1
                                   try clear hfz94_2
                                   try clear hfz94_3
                                   try clear hfz94_4
                                   try clear hfz94_5
                                   try clear hx184_0
                                   try clear hx185_0
                                   try clear hx185_1
                                   try clear hx201_0
                                   try clear hx202_0
                                   try clear hx211_0
                                   try clear p1
                                   try clear p18
                                   try clear p184
                                   try clear p185
                                   try clear p2
                                   try clear p20
                                   try clear p201
                                   try clear p202
                                   try clear p21
                                   try clear p211
                                   try clear p6
                                   try clear p64
                                   try clear q1
                                   try clear q18
                                   try clear q184
                                   try clear q185
                                   try clear q2
                                   try clear q20
                                   try clear q201
                                   try clear q202
                                   try clear q21
                                   try clear q211
                                   try clear q4
                                   try clear q43
                                   try clear q7
                                   try clear q76
                                   try clear q79
                                   obtain ⟨x179_7, rfl, HA, HK7, HO_20, HO_23, BK171, HB⟩ := hrel
                                   cases gk with
                                   | zero => exact absurd HA.out (by simp [inquestlaw09_ConeGrows.l2])
                                   | succ k7 =>
                                    have H := HA.out
                                    clear HA
                                    simp only [inquestlaw09_ConeGrows.l2] at H
                                    by_cases c104 : x179_7 < (t203.length : Int)
                                    ·
                                     rw [if_pos c104] at H
                                     have c104b0 : decide (x179_7 < (t203.length : Int)) = true := decide_eq_true c104
                                     clear c104
                                     by_cases c105 : 0 ≤ x179_7
                                     ·
                                      rw [if_pos c105] at H
                                      have c105b0 : decide (0 ≤ x179_7) = true := decide_eq_true c105
                                      clear c105
                                      by_cases c106 : x179_7 < (t203.length : Int)
                                      ·
                                       rw [if_pos c106] at H
                                       have c106b0 : decide (x179_7 < (t203.length : Int)) = true := decide_eq_true c106
                                       clear c106
                                       have H' := Aside0.mk H
                                       clear H
                                       have p220 : 0 ≤ (x179_7 : Int) := of_decide_eq_true (by first | (with_reducible assumption) | assumption)
                                       have q220 : x179_7 < (t203.length : Int) := of_decide_eq_true (by first | (with_reducible assumption) | assumption)
                                       obtain ⟨ad220, A220_0, c220_0, e220, hx220_0, hl220_0, hi220_0⟩ := at_L16 (Kd.S_reads' HO_20.out).2.2 x179_7 p220 q220
                                       cases e220
                                       obtain ⟨ce220, hce220, hMe220, hcc220⟩ := Kd.S_get HO_20.out [] x179_7 p220 (by first | exact q220 | exact of_decide_eq_true (by first | (with_reducible assumption) | assumption) | (have e_ := (Kd.S_reads' HO_20.out).1; omega))
                                       obtain ⟨ve220_0, rfl, ge220_0⟩ := hMe220
                                       have hv220_0 := hcc220 0 _ rfl
                                       rw [Nat.add_zero, show ((Kd.slice 4 Kd.bool)).sz = 1 from rfl, Nat.mul_one] at hv220_0
                                       replace hv220_0 := Option.some.inj (hv220_0.symm.trans hx220_0)
                                       rw [hv220_0] at ge220_0
                                       have HL220_0 := Aside0.mk (show Kd.R Kd.bool 4 _ _ _ _ (rd_L16 t203 x179_7) from ge220_0)
                                       clear hv220_0 ge220_0
                                       clear hcc220 hce220
                                       have HR220_0 := Aside0.mk hi220_0
                                       have HC220_0 := Aside0.mk hl220_0
                                       clear hi220_0 hl220_0
                                       replace p220 := eq_true p220
                                       replace q220 := eq_true q220
                                       go_wp2
                                       go_loopg [187] k7 (fun kq v187 w' => ∃ (x187_8 : Int), v187 = .int .i64 x187_8 ∧ Aside0 (inquestlaw09_ConeGrows.l3 kq t203 t215 x179_7 (t203.length : Int) x179_7 ((rd_L16 t203 x179_7).length : Int) x187_8 = some r) ∧ Aside0 (kq ≤ k7) ∧ Aside0 (Kd.S (Kd.slice 4 Kd.bool) 33 w' w.heap.size (fun k_ => some k_ ≠ (v216 : Value).ownBlock) (.slice (some ad220) t203.length co103) t203) ∧ Aside0 (Kd.R Kd.bool 4 w' w.heap.size (fun _ => True) v216 t215) ∧ Aside0 (w'.heap[gb171]? = some (.cells #[.int .i64 a0_0, (.slice A0_1 l0_1.length c0_1), (.slice A0_2 l0_2.length c0_2), (.slice A0_3 l0_3.length c0_3), (.slice (some ad211) l0_4.length c0_4), (.slice A0_5 l0_5.length c0_5)] 26 (0, 0))) ∧ Aside0 (Kd.C Kd.bool w' A220_0 (rd_L16 t203 x179_7).length (rd_L16 t203 x179_7)) ∧ Aside0 (Below w.heap.size w w'))
                                       case atStart => exact ⟨(0), (by first | rfl | (simp; done) | (simp [*]; done)), H', ⟨Nat.le_refl _⟩, ⟨by (with_reducible repeat (first | apply Kd.S_alloc | apply Kd.S_drewN | apply Kd.S_drew)); exact HO_20.out⟩, ⟨by (with_reducible repeat (first | apply Kd.R_alloc | apply Kd.R_drewN | apply Kd.R_drew)); exact HO_23.out⟩, ⟨by (with_reducible repeat (first | refine blk_drewN ?_ _ | refine blk_drew ?_ | refine blk_alloc ?_ _)); exact BK171.out⟩, ⟨by repeat (first | (with_reducible exact HR220_0.out) | (with_reducible refine Kd.C_alloc ?_ _) | (with_reducible refine Kd.C_drewN ?_ _) | (with_reducible refine Kd.C_drew ?_) | exact HR220_0.out)⟩, ⟨by repeat (first | (with_reducible first | exact HB.out | apply below_alloc | apply pw_below_drewN | apply below_drew1 | refine below_set ?_ GE171.out) | exact HB.out)⟩⟩
                                       case round =>
                                        as_aux_lemma =>
                                         clear H'
                                         try clear c1
                                         try clear p1
                                         try clear q1
                                         try clear hx1
                                         try clear c2
                                         try clear p2
                                         try clear q2
                                         try clear hx2
                                         try clear c3
                                         try clear q4
                                         try clear p6
                                         try clear c7
                                         try clear q7
                                         try clear c8
                                         try clear c10
                                         try clear p18
                                         try clear q18
                                         try clear hx18
                                         try clear p20
                                         try clear q20
                                         try clear hx20
                                         try clear p21
                                         try clear q21
                                         try clear hx21
                                         try clear c22
                                         try clear p22
                                         try clear q22
                                         try clear hx22
                                         try clear c25
                                         try clear c30
                                         try clear q43
                                         try clear p64
                                         try clear c70
                                         try clear c70b0
                                         try clear c71
                                         try clear c71b0
                                         try clear c71b1
                                         try clear c72
                                         try clear c72b0
                                         try clear c74
                                         try clear c74b0
                                         try clear c75
                                         try clear c75b0
                                         try clear q76
                                         try clear c77
                                         try clear c78
                                         try clear c78b0
                                         try clear q79
                                         try clear c80
                                         try clear c85
                                         try clear c85b0
                                         try clear c85b1
                                         try clear c86
                                         try clear c87
                                         try clear c87b0
                                         try clear c88
                                         try clear c88b0
                                         try clear c89
                                         try clear c100
                                         try clear c100b0
                                         try clear c100b1
                                         try clear c102
                                         try clear c104
                                         try clear c104b0
                                         try clear c105
                                         try clear c105b0
                                         try clear c106
                                         try clear c106b0
                                         try clear hcz15_0
                                         try clear hcz15_1
                                         try clear hcz15_2
                                         try clear hcz15_3
                                         try clear hcz15_4
                                         try clear hcz15_5
                                         try clear hcz23_0
                                         try clear hcz23_1
                                         try clear hcz23_2
                                         try clear hcz23_3
                                         try clear hcz23_4
                                         try clear hcz23_5
                                         try clear hcz28_0
                                         try clear hcz28_1
                                         try clear hcz28_2
                                         try clear hcz28_3
                                         try clear hcz28_4
                                         try clear hcz28_5
                                         try clear hcz31_0
                                         try clear hcz31_1
                                         try clear hcz31_2
                                         try clear hcz31_3
                                         try clear hcz31_4
                                         try clear hcz31_5
                                         try clear hcz33_0
                                         try clear hcz33_1
                                         try clear hcz33_2
                                         try clear hcz33_3
                                         try clear hcz33_4
                                         try clear hcz33_5
                                         try clear hcz38_0
                                         try clear hcz38_1
                                         try clear hcz38_2
                                         try clear hcz38_3
                                         try clear hcz38_4
                                         try clear hcz38_5
                                         try clear hcz48_0
                                         try clear hcz48_1
                                         try clear hcz48_2
                                         try clear hcz48_3
                                         try clear hcz48_4
                                         try clear hcz48_5
                                         try clear hcz51_0
                                         try clear hcz51_1
                                         try clear hcz51_2
                                         try clear hcz51_3
                                         try clear hcz51_4
                                         try clear hcz51_5
                                         try clear hcz57_0
                                         try clear hcz57_1
                                         try clear hcz57_2
                                         try clear hcz57_3
                                         try clear hcz57_4
                                         try clear hcz57_5
                                         try clear hcz92_0
                                         try clear hcz92_1
                                         try clear hcz92_2
                                         try clear hcz92_3
                                         try clear hcz92_4
                                         try clear hcz92_5
                                         try clear hcz94_0
                                         try clear hcz94_1
                                         try clear hcz94_2
                                         try clear hcz94_3
                                         try clear hcz94_4
                                         try clear hcz94_5
                                         try clear hfz10_0
                                         try clear hfz10_1
                                         try clear hfz10_2
                                         try clear hfz10_3
                                         try clear hfz10_4
                                         try clear hfz10_5
                                         try clear hfz13_0
                                         try clear hfz13_1
                                         try clear hfz13_2
                                         try clear hfz13_3
                                         try clear hfz13_4
                                         try clear hfz13_5
                                         try clear hfz15_0
                                         try clear hfz15_1
                                         try clear hfz15_2
                                         try clear hfz15_3
                                         try clear hfz15_4
                                         try clear hfz15_5
                                         try clear hfz23_0
                                         try clear hfz23_1
                                         try clear hfz23_2
                                         try clear hfz23_3
                                         try clear hfz23_4
                                         try clear hfz23_5
                                         try clear hfz28_0
                                         try clear hfz28_1
                                         try clear hfz28_2
                                         try clear hfz28_3
                                         try clear hfz28_4
                                         try clear hfz28_5
                                         try clear hfz31_0
                                         try clear hfz31_1
                                         try clear hfz31_2
                                         try clear hfz31_3
                                         try clear hfz31_4
                                         try clear hfz31_5
                                         try clear hfz33_0
                                         try clear hfz33_1
                                         try clear hfz33_2
                                         try clear hfz33_3
                                         try clear hfz33_4
                                         try clear hfz33_5
                                         try clear hfz38_0
                                         try clear hfz38_1
                                         try clear hfz38_2
                                         try clear hfz38_3
                                         try clear hfz38_4
                                         try clear hfz38_5
                                         try clear hfz48_0
                                         try clear hfz48_1
                                         try clear hfz48_2
                                         try clear hfz48_3
                                         try clear hfz48_4
                                         try clear hfz48_5
                                         try clear hfz51_0
                                         try clear hfz51_1
                                         try clear hfz51_2
                                         try clear hfz51_3
                                         try clear hfz51_4
                                         try clear hfz51_5
                                         try clear hfz57_0
                                         try clear hfz57_1
                                         try clear hfz57_2
                                         try clear hfz57_3
                                         try clear hfz57_4
                                         try clear hfz57_5
                                         try clear hfz92_0
                                         try clear hfz92_1
                                         try clear hfz92_2
                                         try clear hfz92_3
                                         try clear hfz92_4
                                         try clear hfz92_5
                                         try clear hfz94_0
                                         try clear hfz94_1
                                         try clear hfz94_2
                                         try clear hfz94_3
                                         try clear hfz94_4
                                         try clear hfz94_5
                                         try clear hx184_0
                                         try clear hx185_0
                                         try clear hx185_1
                                         try clear hx201_0
                                         try clear hx202_0
                                         try clear hx211_0
                                         try clear hx220_0
                                         try clear p1
                                         try clear p18
                                         try clear p184
                                         try clear p185
                                         try clear p2
                                         try clear p20
                                         try clear p201
                                         try clear p202
                                         try clear p21
                                         try clear p211
                                         try clear p220
                                         try clear p6
                                         try clear p64
                                         try clear q1
                                         try clear q18
                                         try clear q184
                                         try clear q185
                                         try clear q2
                                         try clear q20
                                         try clear q201
                                         try clear q202
                                         try clear q21
                                         try clear q211
                                         try clear q220
                                         try clear q4
                                         try clear q43
                                         try clear q7
                                         try clear q76
                                         try clear q79
                                         obtain ⟨x187_8, rfl, HA, HK8, HO_20, HO_23, BK171, HR220_0, HB⟩ := hrel
                                         cases gk with
                                         | zero => exact absurd HA.out (by simp [inquestlaw09_ConeGrows.l3])
                                         | succ k8 =>
                                          have H := HA.out
                                          clear HA
                                          simp only [inquestlaw09_ConeGrows.l3] at H
                                          by_cases c107 : x187_8 < ((rd_L16 t203 x179_7).length : Int)
                                          ·
                                           rw [if_pos c107] at H
                                           have c107b0 : decide (x187_8 < ((rd_L16 t203 x179_7).length : Int)) = true := decide_eq_true c107
                                           clear c107
                                           by_cases c108 : x187_8 ≥ (t215.length : Int)
                                           ·
                                            rw [if_pos c108] at H
                                            have c108b0 : decide ((t215.length : Int) ≤ x187_8) = true := decide_eq_true c108
                                            clear c108
                                            obtain rfl := Option.some.inj H
                                            obtain ⟨Ao109, co109, eo109⟩ := Kd.R_slice HO_23.out
                                            subst eo109
                                            go_wp2
                                            go_ret
                                            exact ⟨by first | rfl | (simp [errW_none, errW_some] <;> rfl) | (simp [*, errW_none, errW_some] <;> rfl), by repeat (first | (with_reducible first | exact HB.out | apply below_alloc | apply pw_below_drewN | apply below_drew1 | refine below_set ?_ GE171.out) | exact HB.out)⟩
                                           ·
                                            rw [if_neg c108] at H
                                            have c108b0 : decide ((t215.length : Int) ≤ x187_8) = false := decide_eq_false c108
                                            clear c108
                                            by_cases c110 : 0 ≤ x179_7
                                            ·
                                             rw [if_pos c110] at H
                                             have c110b0 : decide (0 ≤ x179_7) = true := decide_eq_true c110
                                             clear c110
                                             by_cases c111 : x179_7 < (t203.length : Int)
                                             ·
                                              rw [if_pos c111] at H
                                              have c111b0 : decide (x179_7 < (t203.length : Int)) = true := decide_eq_true c111
                                              clear c111
                                              by_cases c112 : 0 ≤ x187_8
                                              ·
                                               rw [if_pos c112] at H
                                               have c112b0 : decide (0 ≤ x187_8) = true := decide_eq_true c112
                                               clear c112
                                               by_cases c113 : x187_8 < ((rd_L16 t203 x179_7).length : Int)
                                               ·
                                                rw [if_pos c113] at H
                                                have c113b0 : decide (x187_8 < ((rd_L16 t203 x179_7).length : Int)) = true := decide_eq_true c113
                                                clear c113
                                                obtain ⟨bq114, hbq114⟩ : ∃ b_ : Bool, b_ = (rdOf false (rd_L16 t203 x179_7) x187_8) := ⟨_, rfl⟩
                                                replace H : (if bq114 = true then (if x187_8 < (t215.length : Int) then (if rdOf false t215 x187_8 = true then (inquestlaw09_ConeGrows.l3 k8 t203 t215 x179_7 (t203.length : Int) x179_7 ((rd_L16 t203 x179_7).length : Int) (wrap64 (x187_8 + 1))) else (some false)) else (none)) else (inquestlaw09_ConeGrows.l3 k8 t203 t215 x179_7 (t203.length : Int) x179_7 ((rd_L16 t203 x179_7).length : Int) (wrap64 (x187_8 + 1)))) = some r := by rw [← hbq114] at H; exact H
                                                have Nbq114 := Aside0.mk hbq114
                                                clear hbq114
                                                by_cases c115 : bq114 = true
                                                ·
                                                 subst c115
                                                 have H1 : (if x187_8 < (t215.length : Int) then (if rdOf false t215 x187_8 = true then (inquestlaw09_ConeGrows.l3 k8 t203 t215 x179_7 (t203.length : Int) x179_7 ((rd_L16 t203 x179_7).length : Int) (wrap64 (x187_8 + 1))) else (some false)) else (none)) = some r := by rw [if_pos rfl] at H; exact H
                                                 clear H
                                                 have H := H1
                                                 clear H1
                                                 by_cases c116 : x187_8 < (t215.length : Int)
                                                 ·
                                                  rw [if_pos c116] at H
                                                  have c116b0 : decide (x187_8 < (t215.length : Int)) = true := decide_eq_true c116
                                                  clear c116
                                                  obtain ⟨bq117, hbq117⟩ : ∃ b_ : Bool, b_ = (rdOf false t215 x187_8) := ⟨_, rfl⟩
                                                  replace H : (if bq117 = true then (inquestlaw09_ConeGrows.l3 k8 t203 t215 x179_7 (t203.length : Int) x179_7 ((rd_L16 t203 x179_7).length : Int) (wrap64 (x187_8 + 1))) else (some false)) = some r := by rw [← hbq117] at H; exact H
                                                  have Nbq117 := Aside0.mk hbq117
                                                  clear hbq117
                                                  by_cases c118 : bq117 = true
                                                  ·
                                                   subst c118
                                                   have H1 : (inquestlaw09_ConeGrows.l3 k8 t203 t215 x179_7 (t203.length : Int) x179_7 ((rd_L16 t203 x179_7).length : Int) (wrap64 (x187_8 + 1))) = some r := by rw [if_pos rfl] at H; exact H
                                                   clear H
                                                   have H := H1
                                                   clear H1
                                                   have H' := Aside0.mk H
                                                   clear H
                                                   obtain ⟨Ao119, co119, eo119⟩ := Kd.R_slice HO_23.out
                                                   subst eo119
                                                   have p221 : 0 ≤ (x179_7 : Int) := of_decide_eq_true (by first | (with_reducible assumption) | assumption)
                                                   have q221 : x179_7 < (t203.length : Int) := of_decide_eq_true (by first | (with_reducible assumption) | assumption)
                                                   obtain ⟨ad221, A221_0, c221_0, e221, hx221_0, hl221_0, hi221_0⟩ := at_L16 (Kd.S_reads' HO_20.out).2.2 x179_7 p221 q221
                                                   obtain rfl : ad220 = ad221 := (by injection e221)
                                                   obtain ⟨ce221, hce221, hMe221, hcc221⟩ := Kd.S_get HO_20.out [] x179_7 p221 (by first | exact q221 | exact of_decide_eq_true (by first | (with_reducible assumption) | assumption) | (have e_ := (Kd.S_reads' HO_20.out).1; omega))
                                                   obtain ⟨ve221_0, rfl, ge221_0⟩ := hMe221
                                                   have hv221_0 := hcc221 0 _ rfl
                                                   rw [Nat.add_zero, show ((Kd.slice 4 Kd.bool)).sz = 1 from rfl, Nat.mul_one] at hv221_0
                                                   replace hv221_0 := Option.some.inj (hv221_0.symm.trans hx221_0)
                                                   rw [hv221_0] at ge221_0
                                                   have HL221_0 := Aside0.mk (show Kd.R Kd.bool 4 _ _ _ _ (rd_L16 t203 x179_7) from ge221_0)
                                                   clear hv221_0 ge221_0
                                                   clear hcc221 hce221
                                                   have HR221_0 := Aside0.mk hi221_0
                                                   have HC221_0 := Aside0.mk hl221_0
                                                   clear hi221_0 hl221_0
                                                   replace p221 := eq_true p221
                                                   replace q221 := eq_true q221
                                                   have p222 : 0 ≤ (x187_8 : Int) := of_decide_eq_true (by first | (with_reducible assumption) | assumption)
                                                   have q222 : x187_8 < ((rd_L16 t203 x179_7).length : Int) := of_decide_eq_true (by first | (with_reducible assumption) | assumption)
                                                   obtain ⟨ad222, e222, hx222_0⟩ := Kd.at_bool (by repeat (first | (with_reducible exact HR221_0.out) | (with_reducible refine Kd.C_alloc ?_ _) | (with_reducible refine Kd.C_drewN ?_ _) | (with_reducible refine Kd.C_drew ?_) | exact HR221_0.out)) x187_8 p222 q222
                                                   (try rw [← Nbq114.out] at hx222_0)
                                                   (try rw [← Nbq117.out] at hx222_0)
                                                   cases e222
                                                   replace p222 := eq_true p222
                                                   replace q222 := eq_true q222
                                                   have p223 : 0 ≤ (x187_8 : Int) := of_decide_eq_true (by first | (with_reducible assumption) | assumption)
                                                   have q223 : x187_8 < (t215.length : Int) := of_decide_eq_true (by first | (with_reducible assumption) | assumption)
                                                   obtain ⟨ad223, e223, hx223_0⟩ := Kd.at_bool (Kd.R_reads' HO_23.out).2.2 x187_8 p223 q223
                                                   (try rw [← Nbq114.out] at hx223_0)
                                                   (try rw [← Nbq117.out] at hx223_0)
                                                   cases e223
                                                   replace p223 := eq_true p223
                                                   replace q223 := eq_true q223
                                                   go_wp2
                                                   go_roundg k8
                                                   case measure => have := HJ5.out; have := HJ21.out; have := HK3.out; have := HJ55.out; have := HK5.out; have := HJ90.out; have := HK7.out; have := HK8.out; omega
                                                   case rel => exact ⟨(wrap64 (x187_8 + 1)), (by first | rfl | (simp; done) | (simp [*]; done)), H', ⟨by have := HJ5.out; have := HJ21.out; have := HK3.out; have := HJ55.out; have := HK5.out; have := HJ90.out; have := HK7.out; have := HK8.out; omega⟩, ⟨by (with_reducible repeat (first | apply Kd.S_alloc | apply Kd.S_drewN | apply Kd.S_drew)); exact HO_20.out⟩, ⟨by (with_reducible repeat (first | apply Kd.R_alloc | apply Kd.R_drewN | apply Kd.R_drew)); exact HO_23.out⟩, ⟨by (with_reducible repeat (first | refine blk_drewN ?_ _ | refine blk_drew ?_ | refine blk_alloc ?_ _)); exact BK171.out⟩, ⟨by repeat (first | (with_reducible exact HR220_0.out) | (with_reducible refine Kd.C_alloc ?_ _) | (with_reducible refine Kd.C_drewN ?_ _) | (with_reducible refine Kd.C_drew ?_) | exact HR220_0.out)⟩, ⟨by repeat (first | (with_reducible first | exact HB.out | apply below_alloc | apply pw_below_drewN | apply below_drew1 | refine below_set ?_ GE171.out) | exact HB.out)⟩⟩
                                                  ·
                                                   replace c118 := Bool.eq_false_iff.mpr c118
                                                   subst c118
                                                   have H1 : (some false) = some r := by rw [if_neg (show ¬ (false = true) by decide)] at H; exact H
                                                   clear H
                                                   have H := H1
                                                   clear H1
                                                   exact absurd (hrt.out.symm.trans (Option.some.inj H).symm) (by decide)
                                                 ·
                                                  rw [if_neg c116] at H
                                                  exact absurd H (by simp)
                                                ·
                                                 replace c115 := Bool.eq_false_iff.mpr c115
                                                 subst c115
                                                 have H1 : (inquestlaw09_ConeGrows.l3 k8 t203 t215 x179_7 (t203.length : Int) x179_7 ((rd_L16 t203 x179_7).length : Int) (wrap64 (x187_8 + 1))) = some r := by rw [if_neg (show ¬ (false = true) by decide)] at H; exact H
                                                 clear H
                                                 have H := H1
                                                 clear H1
                                                 have H' := Aside0.mk H
                                                 clear H
                                                 obtain ⟨Ao121, co121, eo121⟩ := Kd.R_slice HO_23.out
                                                 subst eo121
                                                 have p221 : 0 ≤ (x179_7 : Int) := of_decide_eq_true (by first | (with_reducible assumption) | assumption)
                                                 have q221 : x179_7 < (t203.length : Int) := of_decide_eq_true (by first | (with_reducible assumption) | assumption)
                                                 obtain ⟨ad221, A221_0, c221_0, e221, hx221_0, hl221_0, hi221_0⟩ := at_L16 (Kd.S_reads' HO_20.out).2.2 x179_7 p221 q221
                                                 obtain rfl : ad220 = ad221 := (by injection e221)
                                                 obtain ⟨ce221, hce221, hMe221, hcc221⟩ := Kd.S_get HO_20.out [] x179_7 p221 (by first | exact q221 | exact of_decide_eq_true (by first | (with_reducible assumption) | assumption) | (have e_ := (Kd.S_reads' HO_20.out).1; omega))
                                                 obtain ⟨ve221_0, rfl, ge221_0⟩ := hMe221
                                                 have hv221_0 := hcc221 0 _ rfl
                                                 rw [Nat.add_zero, show ((Kd.slice 4 Kd.bool)).sz = 1 from rfl, Nat.mul_one] at hv221_0
                                                 replace hv221_0 := Option.some.inj (hv221_0.symm.trans hx221_0)
                                                 rw [hv221_0] at ge221_0
                                                 have HL221_0 := Aside0.mk (show Kd.R Kd.bool 4 _ _ _ _ (rd_L16 t203 x179_7) from ge221_0)
                                                 clear hv221_0 ge221_0
                                                 clear hcc221 hce221
                                                 have HR221_0 := Aside0.mk hi221_0
                                                 have HC221_0 := Aside0.mk hl221_0
                                                 clear hi221_0 hl221_0
                                                 replace p221 := eq_true p221
                                                 replace q221 := eq_true q221
                                                 have p222 : 0 ≤ (x187_8 : Int) := of_decide_eq_true (by first | (with_reducible assumption) | assumption)
                                                 have q222 : x187_8 < ((rd_L16 t203 x179_7).length : Int) := of_decide_eq_true (by first | (with_reducible assumption) | assumption)
                                                 obtain ⟨ad222, e222, hx222_0⟩ := Kd.at_bool (by repeat (first | (with_reducible exact HR221_0.out) | (with_reducible refine Kd.C_alloc ?_ _) | (with_reducible refine Kd.C_drewN ?_ _) | (with_reducible refine Kd.C_drew ?_) | exact HR221_0.out)) x187_8 p222 q222
                                                 (try rw [← Nbq114.out] at hx222_0)
                                                 cases e222
                                                 replace p222 := eq_true p222
                                                 replace q222 := eq_true q222
                                                 go_wp2
                                                 go_roundg k8
                                                 case measure => have := HJ5.out; have := HJ21.out; have := HK3.out; have := HJ55.out; have := HK5.out; have := HJ90.out; have := HK7.out; have := HK8.out; omega
                                                 case rel => exact ⟨(wrap64 (x187_8 + 1)), (by first | rfl | (simp; done) | (simp [*]; done)), H', ⟨by have := HJ5.out; have := HJ21.out; have := HK3.out; have := HJ55.out; have := HK5.out; have := HJ90.out; have := HK7.out; have := HK8.out; omega⟩, ⟨by (with_reducible repeat (first | apply Kd.S_alloc | apply Kd.S_drewN | apply Kd.S_drew)); exact HO_20.out⟩, ⟨by (with_reducible repeat (first | apply Kd.R_alloc | apply Kd.R_drewN | apply Kd.R_drew)); exact HO_23.out⟩, ⟨by (with_reducible repeat (first | refine blk_drewN ?_ _ | refine blk_drew ?_ | refine blk_alloc ?_ _)); exact BK171.out⟩, ⟨by repeat (first | (with_reducible exact HR220_0.out) | (with_reducible refine Kd.C_alloc ?_ _) | (with_reducible refine Kd.C_drewN ?_ _) | (with_reducible refine Kd.C_drew ?_) | exact HR220_0.out)⟩, ⟨by repeat (first | (with_reducible first | exact HB.out | apply below_alloc | apply pw_below_drewN | apply below_drew1 | refine below_set ?_ GE171.out) | exact HB.out)⟩⟩
                                               ·
                                                rw [if_neg c113] at H
                                                exact absurd H (by simp)
                                              ·
                                               rw [if_neg c112] at H
                                               exact absurd H (by simp)
                                             ·
                                              rw [if_neg c111] at H
                                              exact absurd H (by simp)
                                            ·
                                             rw [if_neg c110] at H
                                             exact absurd H (by simp)
                                          ·
                                           rw [if_neg c107] at H
                                           have c107b0 : decide (x187_8 < ((rd_L16 t203 x179_7).length : Int)) = false := decide_eq_false c107
                                           clear c107
                                           have H' := Aside0.mk H
                                           clear H
                                           go_wp2
                                           go_roundg k8
                                           case measure => have := HJ5.out; have := HJ21.out; have := HK3.out; have := HJ55.out; have := HK5.out; have := HJ90.out; have := HK7.out; have := HK8.out; omega
                                           case rel => exact ⟨(wrap64 (x179_7 + 1)), (by first | rfl | (simp; done) | (simp [*]; done)), H', ⟨by have := HJ5.out; have := HJ21.out; have := HK3.out; have := HJ55.out; have := HK5.out; have := HJ90.out; have := HK7.out; have := HK8.out; omega⟩, ⟨by (with_reducible repeat (first | apply Kd.S_alloc | apply Kd.S_drewN | apply Kd.S_drew)); exact HO_20.out⟩, ⟨by (with_reducible repeat (first | apply Kd.R_alloc | apply Kd.R_drewN | apply Kd.R_drew)); exact HO_23.out⟩, ⟨by (with_reducible repeat (first | refine blk_drewN ?_ _ | refine blk_drew ?_ | refine blk_alloc ?_ _)); exact BK171.out⟩, ⟨by repeat (first | (with_reducible first | exact HB.out | apply below_alloc | apply pw_below_drewN | apply below_drew1 | refine below_set ?_ GE171.out) | exact HB.out)⟩⟩
                                      ·
                                       rw [if_neg c106] at H
                                       exact absurd H (by simp)
                                     ·
                                      rw [if_neg c105] at H
                                      exact absurd H (by simp)
                                    ·
                                     rw [if_neg c104] at H
                                     have c104b0 : decide (x179_7 < (t203.length : Int)) = false := decide_eq_false c104
                                     clear c104
                                     replace H := Option.bind_eq_some_iff.mp H
                                     obtain ⟨t219, A1220, H⟩ := H
                                     replace H : (some t219) = some r := H
                                     have A122 := Aside0.mk A1220
                                     clear A1220
                                     obtain rfl := Option.some.inj H
                                     go_wp2_with (first | ((with_reducible refine gate_callee (f := 24) rfl ?_); refine goesL_ (some 212) rfl rfl Try.func24 (by kernel_rfl) rfl #[] rfl (by (try simp only [List.map_toArray, List.map_cons, List.map_nil]); first | done | rfl | (simp only [List.length_drop, List.length_take]; rfl)) ?_; (with_reducible refine (inquestlaw09_lives.calls k7  t219 hrt _ A122.out).mono ?_); rintro e w123 ⟨rfl, hb⟩; refine ⟨_, rfl, ?_⟩; have n0_ := Aside0.mk (Kd.S_below (by (with_reducible repeat (first | apply Kd.S_alloc | apply Kd.S_drewN | apply Kd.S_drew)); exact HO_20.out) hb); have n1_ := Aside0.mk (Kd.R_below (by (with_reducible repeat (first | apply Kd.R_alloc | apply Kd.R_drewN | apply Kd.R_drew)); exact HO_23.out) hb); have n2_ := Aside0.mk (blk_below (g := gb171) (o := .cells #[.int .i64 a0_0, .slice A0_1 l0_1.length c0_1, .slice A0_2 l0_2.length c0_2, .slice A0_3 l0_3.length c0_3, .slice (some ad211) l0_4.length c0_4, .slice A0_5 l0_5.length c0_5] 26 (0, 0)) (by (with_reducible repeat (first | refine blk_drewN ?_ _ | refine blk_drew ?_ | refine blk_alloc ?_ _)); exact BK171.out) hb); have n3_ := Aside0.mk (below_step (by repeat (first | (with_reducible first | exact HB.out | apply below_alloc | apply pw_below_drewN | apply below_drew1 | refine below_set ?_ GE171.out) | exact HB.out)) hb); clear HO_20; clear HO_23; clear BK171; clear HB; have HO_20 := n0_; have HO_23 := n1_; have BK171 := n2_; have HB := n3_; clear n0_ n1_ n2_ n3_; (try clear hb); (try clear hb2); (try clear hk); (try clear hi)))
                                     go_ret
                                     exact ⟨by first | rfl | (simp [errW_none, errW_some] <;> rfl) | (simp [*, errW_none, errW_some] <;> rfl), by repeat (first | (with_reducible first | exact HB.out | apply below_alloc | apply pw_below_drewN | apply below_drew1 | refine below_set ?_ GE171.out) | exact HB.out)⟩
                            ·
                             rw [if_neg c89] at H
                             exact absurd H (by simp)
                           ·
                            rw [if_neg c88] at H
                            exact absurd H (by simp)
                          ·
                           rw [if_neg c87] at H
                           exact absurd H (by simp)
                         ·
                          rw [if_neg c86] at H
                          exact absurd H (by simp)
                        ·
                         rw [if_neg c85] at H
                         have c85b0 : (t206 == 0) = false := beq_eq_false_iff_ne.mpr c85
                         have c85b1 : (t206 != 0) = true := bne_iff_ne.mpr c85
                         replace H := Option.bind_eq_some_iff.mp H
                         obtain ⟨t207, A1240, H⟩ := H
                         replace H : (some t207) = some r := H
                         have A124 := Aside0.mk A1240
                         clear A1240
                         obtain rfl := Option.some.inj H
                         have hcz125_0 : wr.cell? ⟨gb171, 0, none⟩ = some (.int .i64 a0_0) := (blk_cell BK171.out 0).trans rfl
                         have hcz125_1 : wr.cell? ⟨gb171, 1, none⟩ = some (.slice A0_1 l0_1.length c0_1) := (blk_cell BK171.out 1).trans rfl
                         have hcz125_2 : wr.cell? ⟨gb171, 2, none⟩ = some (.slice A0_2 l0_2.length c0_2) := (blk_cell BK171.out 2).trans rfl
                         have hcz125_3 : wr.cell? ⟨gb171, 3, none⟩ = some (.slice A0_3 l0_3.length c0_3) := (blk_cell BK171.out 3).trans rfl
                         have hcz125_4 : wr.cell? ⟨gb171, 4, none⟩ = some (.slice A0_4 l0_4.length c0_4) := (blk_cell BK171.out 4).trans rfl
                         have hcz125_5 : wr.cell? ⟨gb171, 5, none⟩ = some (.slice A0_5 l0_5.length c0_5) := (blk_cell BK171.out 5).trans rfl
                         have hfz125_0 := blk_frozen BK171.out 0
                         have hfz125_1 := blk_frozen BK171.out 1
                         have hfz125_2 := blk_frozen BK171.out 2
                         have hfz125_3 := blk_frozen BK171.out 3
                         have hfz125_4 := blk_frozen BK171.out 4
                         have hfz125_5 := blk_frozen BK171.out 5
                         go_wp2_with (first | ((with_reducible refine gate_callee (f := 30) rfl ?_); refine goesL_ (some 146) rfl rfl Try.func30 (by kernel_rfl) rfl #[.agg #[.int .i64 a0_0, .slice A0_1 l0_1.length c0_1, .slice A0_2 l0_2.length c0_2, .slice A0_3 l0_3.length c0_3, .slice A0_4 l0_4.length c0_4, .slice A0_5 l0_5.length c0_5], .int .i64 a3, .int .i64 a4] rfl (by (try simp only [List.map_toArray, List.map_cons, List.map_nil]); first | done | rfl | (simp only [List.length_drop, List.length_take]; rfl)) ?_; (with_reducible refine (cone_Frames.calls a0_0 _ _ l0_1 _ _ l0_2 _ _ l0_3 _ _ l0_4 _ _ l0_5 a3 a4 t203 t206 _ ?side1 ?side2 ?side3 ?side4 ?side5 ?side6 ?side7 ?side8 ?side9 ?side10 A84.out).mono ?_); (case side1 => repeat (first | exact (Kd.C_below HR0_1.out HB.out) | (with_reducible refine Kd.C_alloc ?_ _) | (with_reducible refine Kd.C_drewN ?_ _) | (with_reducible refine Kd.C_drew ?_))); (case side2 => exact HC0_1.out); (case side3 => repeat (first | exact (Kd.C_below HR0_2.out HB.out) | (with_reducible refine Kd.C_alloc ?_ _) | (with_reducible refine Kd.C_drewN ?_ _) | (with_reducible refine Kd.C_drew ?_))); (case side4 => exact HC0_2.out); (case side5 => repeat (first | exact (Kd.C_below HR0_3.out HB.out) | (with_reducible refine Kd.C_alloc ?_ _) | (with_reducible refine Kd.C_drewN ?_ _) | (with_reducible refine Kd.C_drew ?_))); (case side6 => exact HC0_3.out); (case side7 => repeat (first | exact (Kd.C_below HR0_4.out HB.out) | (with_reducible refine Kd.C_alloc ?_ _) | (with_reducible refine Kd.C_drewN ?_ _) | (with_reducible refine Kd.C_drew ?_))); (case side8 => exact HC0_4.out); (case side9 => repeat (first | exact (Kd.C_below HR0_5.out HB.out) | (with_reducible refine Kd.C_alloc ?_ _) | (with_reducible refine Kd.C_drewN ?_ _) | (with_reducible refine Kd.C_drew ?_))); (case side10 => exact HC0_5.out); rintro e w126 ⟨v204, rfl, ho0, hb⟩; refine ⟨_, rfl, ?_⟩; have n0_ := Aside0.mk (Kd.R_below (by (with_reducible repeat (first | apply Kd.R_alloc | apply Kd.R_drewN | apply Kd.R_drew)); exact HO_11.out) hb); have n1_ := Aside0.mk (Kd.R_below (by (with_reducible repeat (first | apply Kd.R_alloc | apply Kd.R_drewN | apply Kd.R_drew)); exact HO_17.out) hb); have n2_ := Aside0.mk (Kd.S_lower (Kd.S_new' (Kd.S_new' ho0 (Kd.R_lt (by (with_reducible repeat (first | apply Kd.R_alloc | apply Kd.R_drewN | apply Kd.R_drew)); exact HO_11.out))) (Kd.R_lt (by (with_reducible repeat (first | apply Kd.R_alloc | apply Kd.R_drewN | apply Kd.R_drew)); exact HO_17.out))) (below_size (by repeat (first | (with_reducible first | exact HB.out | apply below_alloc | apply pw_below_drewN | apply below_drew1 | refine below_set ?_ GE171.out) | exact HB.out)))); have n3_ := Aside0.mk (blk_below (g := gb171) (o := .cells #[.int .i64 a0_0, .slice A0_1 l0_1.length c0_1, .slice A0_2 l0_2.length c0_2, .slice A0_3 l0_3.length c0_3, .slice A0_4 l0_4.length c0_4, .slice A0_5 l0_5.length c0_5] 26 (0, 0)) (by (with_reducible repeat (first | refine blk_drewN ?_ _ | refine blk_drew ?_ | refine blk_alloc ?_ _)); exact BK171.out) hb); have n4_ := Aside0.mk (below_step (by repeat (first | (with_reducible first | exact HB.out | apply below_alloc | apply pw_below_drewN | apply below_drew1 | refine below_set ?_ GE171.out) | exact HB.out)) hb); clear HO_11; clear HO_17; clear BK171; clear HB; have HO_11 := n0_; have HO_17 := n1_; have HO205 := n2_; have BK171 := n3_; have HB := n4_; clear n0_ n1_ n2_ n3_ n4_; (try clear hb); (try clear hb2); (try clear hk); (try clear hi); (try clear ho0)) | ((with_reducible refine gate_callee (f := 24) rfl ?_); refine goesL_ (some 151) rfl rfl Try.func24 (by kernel_rfl) rfl #[] rfl (by (try simp only [List.map_toArray, List.map_cons, List.map_nil]); first | done | rfl | (simp only [List.length_drop, List.length_take]; rfl)) ?_; (with_reducible refine (inquestlaw09_lives.calls k5  t207 hrt _ A124.out).mono ?_); rintro e w127 ⟨rfl, hb⟩; refine ⟨_, rfl, ?_⟩; have n0_ := Aside0.mk (Kd.R_below (by (with_reducible repeat (first | apply Kd.R_alloc | apply Kd.R_drewN | apply Kd.R_drew)); exact HO_11.out) hb); have n1_ := Aside0.mk (Kd.R_below (by (with_reducible repeat (first | apply Kd.R_alloc | apply Kd.R_drewN | apply Kd.R_drew)); exact HO_17.out) hb); have n2_ := Aside0.mk (Kd.S_below (by (with_reducible repeat (first | apply Kd.S_alloc | apply Kd.S_drewN | apply Kd.S_drew)); exact HO205.out) hb); have n3_ := Aside0.mk (blk_below (g := gb171) (o := .cells #[.int .i64 a0_0, .slice A0_1 l0_1.length c0_1, .slice A0_2 l0_2.length c0_2, .slice A0_3 l0_3.length c0_3, .slice A0_4 l0_4.length c0_4, .slice A0_5 l0_5.length c0_5] 26 (0, 0)) (by (with_reducible repeat (first | refine blk_drewN ?_ _ | refine blk_drew ?_ | refine blk_alloc ?_ _)); exact BK171.out) hb); have n4_ := Aside0.mk (below_step (by repeat (first | (with_reducible first | exact HB.out | apply below_alloc | apply pw_below_drewN | apply below_drew1 | refine below_set ?_ GE171.out) | exact HB.out)) hb); clear HO_11; clear HO_17; clear HO205; clear BK171; clear HB; have HO_11 := n0_; have HO_17 := n1_; have HO205 := n2_; have BK171 := n3_; have HB := n4_; clear n0_ n1_ n2_ n3_ n4_; (try clear hb); (try clear hb2); (try clear hk); (try clear hi)))
                         go_ret
                         exact ⟨by first | rfl | (simp [errW_none, errW_some] <;> rfl) | (simp [*, errW_none, errW_some] <;> rfl), by repeat (first | (with_reducible first | exact HB.out | apply below_alloc | apply pw_below_drewN | apply below_drew1 | refine below_set ?_ GE171.out) | exact HB.out)⟩
               ·
                rw [if_neg c54] at H
                exact absurd H (by simp)
          ·
           rw [if_neg c36] at H
           exact absurd H (by simp)
     ·
      rw [if_neg c21] at H
      have c21b0 : (t177 == 0) = false := beq_eq_false_iff_ne.mpr c21
      have c21b1 : (t177 != 0) = true := bne_iff_ne.mpr c21
      by_cases c128 : (t174.length : Int) = 0
      ·
       rw [if_pos c128] at H
       have c128b0 : ((t174.length : Int) == 0) = true := beq_iff_eq.mpr c128
       have c128b1 : ((t174.length : Int) != 0) = false := bne_eq_false_iff_eq.mpr c128
       clear c128
       replace H := Option.bind_eq_some_iff.mp H
       obtain ⟨t178, A1290, H⟩ := H
       replace H : (some t178) = some r := H
       have A129 := Aside0.mk A1290
       clear A1290
       obtain rfl := Option.some.inj H
       have hcz130_0 : wc.cell? ⟨gb171, 0, none⟩ = some (.int .i64 a0_0) := (blk_cell BK171.out 0).trans rfl
       have hcz130_1 : wc.cell? ⟨gb171, 1, none⟩ = some (.slice A0_1 l0_1.length c0_1) := (blk_cell BK171.out 1).trans rfl
       have hcz130_2 : wc.cell? ⟨gb171, 2, none⟩ = some (.slice A0_2 l0_2.length c0_2) := (blk_cell BK171.out 2).trans rfl
       have hcz130_3 : wc.cell? ⟨gb171, 3, none⟩ = some (.slice A0_3 l0_3.length c0_3) := (blk_cell BK171.out 3).trans rfl
       have hcz130_4 : wc.cell? ⟨gb171, 4, none⟩ = some (.slice A0_4 l0_4.length c0_4) := (blk_cell BK171.out 4).trans rfl
       have hcz130_5 : wc.cell? ⟨gb171, 5, none⟩ = some (.slice A0_5 l0_5.length c0_5) := (blk_cell BK171.out 5).trans rfl
       have hfz130_0 := blk_frozen BK171.out 0
       have hfz130_1 := blk_frozen BK171.out 1
       have hfz130_2 := blk_frozen BK171.out 2
       have hfz130_3 := blk_frozen BK171.out 3
       have hfz130_4 := blk_frozen BK171.out 4
       have hfz130_5 := blk_frozen BK171.out 5
       go_wp2_with (first | ((with_reducible refine gate_callee (f := 25) rfl ?_); refine goesL_ (some 44) rfl rfl Try.func25 (by kernel_rfl) rfl #[.agg #[.int .i64 a0_0, .slice A0_1 l0_1.length c0_1, .slice A0_2 l0_2.length c0_2, .slice A0_3 l0_3.length c0_3, .slice A0_4 l0_4.length c0_4, .slice A0_5 l0_5.length c0_5], .slice A1 l1.length c1] rfl (by (try simp only [List.map_toArray, List.map_cons, List.map_nil]); first | done | rfl | (simp only [List.length_drop, List.length_take]; rfl)) ?_; (with_reducible refine (cone_Ever.calls a0_0 _ _ l0_1 _ _ l0_2 _ _ l0_3 _ _ l0_4 _ _ l0_5 _ _ l1 t174 t177 _ ?side1 ?side2 ?side3 ?side4 ?side5 ?side6 ?side7 ?side8 ?side9 ?side10 ?side11 ?side12 A20.out).mono ?_); (case side1 => repeat (first | exact (Kd.C_below HR0_1.out HB.out) | (with_reducible refine Kd.C_alloc ?_ _) | (with_reducible refine Kd.C_drewN ?_ _) | (with_reducible refine Kd.C_drew ?_))); (case side2 => exact HC0_1.out); (case side3 => repeat (first | exact (Kd.C_below HR0_2.out HB.out) | (with_reducible refine Kd.C_alloc ?_ _) | (with_reducible refine Kd.C_drewN ?_ _) | (with_reducible refine Kd.C_drew ?_))); (case side4 => exact HC0_2.out); (case side5 => repeat (first | exact (Kd.C_below HR0_3.out HB.out) | (with_reducible refine Kd.C_alloc ?_ _) | (with_reducible refine Kd.C_drewN ?_ _) | (with_reducible refine Kd.C_drew ?_))); (case side6 => exact HC0_3.out); (case side7 => repeat (first | exact (Kd.C_below HR0_4.out HB.out) | (with_reducible refine Kd.C_alloc ?_ _) | (with_reducible refine Kd.C_drewN ?_ _) | (with_reducible refine Kd.C_drew ?_))); (case side8 => exact HC0_4.out); (case side9 => repeat (first | exact (Kd.C_below HR0_5.out HB.out) | (with_reducible refine Kd.C_alloc ?_ _) | (with_reducible refine Kd.C_drewN ?_ _) | (with_reducible refine Kd.C_drew ?_))); (case side10 => exact HC0_5.out); (case side11 => repeat (first | exact (Kd.C_below HR1.out HB.out) | (with_reducible refine Kd.C_alloc ?_ _) | (with_reducible refine Kd.C_drewN ?_ _) | (with_reducible refine Kd.C_drew ?_))); (case side12 => exact HC1.out); rintro e w131 ⟨v175, rfl, ho0, hb⟩; refine ⟨_, rfl, ?_⟩; have n0_ := Aside0.mk (Kd.R_lower ho0 (below_size (by repeat (first | (with_reducible first | exact HB.out | apply below_alloc | apply pw_below_drewN | apply below_drew1 | refine below_set ?_ GE171.out) | exact HB.out)))); have n1_ := Aside0.mk (blk_below (g := gb171) (o := .cells #[.int .i64 a0_0, .slice A0_1 l0_1.length c0_1, .slice A0_2 l0_2.length c0_2, .slice A0_3 l0_3.length c0_3, .slice A0_4 l0_4.length c0_4, .slice A0_5 l0_5.length c0_5] 26 (0, 0)) (by (with_reducible repeat (first | refine blk_drewN ?_ _ | refine blk_drew ?_ | refine blk_alloc ?_ _)); exact BK171.out) hb); have n2_ := Aside0.mk (below_step (by repeat (first | (with_reducible first | exact HB.out | apply below_alloc | apply pw_below_drewN | apply below_drew1 | refine below_set ?_ GE171.out) | exact HB.out)) hb); clear BK171; clear HB; have HO176 := n0_; have BK171 := n1_; have HB := n2_; clear n0_ n1_ n2_; (try clear hb); (try clear hb2); (try clear hk); (try clear hi); (try clear ho0); obtain ⟨Ao132, co132, eo132⟩ := Kd.R_slice HO176.out; subst eo132) | (go_at_call 24; (with_reducible refine (inquestlaw09_lives.calls kj5  t178 hrt _ A129.out).mono ?_); rintro e w133 ⟨rfl, hb⟩; have n0_ := Aside0.mk (Kd.R_below (by (with_reducible repeat (first | apply Kd.R_alloc | apply Kd.R_drewN | apply Kd.R_drew)); exact HO176.out) hb); have n1_ := Aside0.mk (blk_below (g := gb171) (o := .cells #[.int .i64 a0_0, .slice A0_1 l0_1.length c0_1, .slice A0_2 l0_2.length c0_2, .slice A0_3 l0_3.length c0_3, .slice A0_4 l0_4.length c0_4, .slice A0_5 l0_5.length c0_5] 26 (0, 0)) (by (with_reducible repeat (first | refine blk_drewN ?_ _ | refine blk_drew ?_ | refine blk_alloc ?_ _)); exact BK171.out) hb); have n2_ := Aside0.mk (below_step (by repeat (first | (with_reducible first | exact HB.out | apply below_alloc | apply pw_below_drewN | apply below_drew1 | refine below_set ?_ GE171.out) | exact HB.out)) hb); clear HO176; clear BK171; clear HB; have HO176 := n0_; have BK171 := n1_; have HB := n2_; clear n0_ n1_ n2_; (try clear hb); (try clear hb2); (try clear hk); (try clear hi)))
       go_ret
       exact ⟨by first | rfl | (simp [errW_none, errW_some] <;> rfl) | (simp [*, errW_none, errW_some] <;> rfl), by repeat (first | (with_reducible first | exact HB.out | apply below_alloc | apply pw_below_drewN | apply below_drew1 | refine below_set ?_ GE171.out) | exact HB.out)⟩
      ·
       rw [if_neg c128] at H
       have c128b0 : ((t174.length : Int) == 0) = false := beq_eq_false_iff_ne.mpr c128
       have c128b1 : ((t174.length : Int) != 0) = true := bne_iff_ne.mpr c128
       have c128b2 : ¬ (t174 = []) := fun h_ => c128 (by rw [h_]; rfl)
       exact absurd (hrt.out.symm.trans (Option.some.inj H).symm) (by decide)

end Go.Proofs.Yteiiodlgdbiimaa.F
