/- The law StrashRuns: whatever the input, the function returns true, and the input reads as it did (its last text). -/
import Derived.Below
import Derived.ChangeOld
import Derived.Deep.Grids
import Derived.OpenShut
import Derived.ProofKit
import Derived.ShutString
import Derived.SizedLaws
import Derived.Test.YteiiodlgdbiimaaRows
import Derived.WalkKit
import Derived.Test.YteiiodlgdbiimaaRe
section
namespace Go.Proofs.Yteiiodlgdbiimaa.F
open Go.RowKit Go.Proofs.YteiiodlgdbiimaaW.PrintWords Go.Proofs.YteiiodlgdbiimaaW.PrintLast Go.Proofs.YteiiodlgdbiimaaW.PrintMore
attribute [local go_sem] max2_int min2_int max_two min_two max_three min_three max_four min_four
set_option linter.unusedVariables false
set_option linter.unusedSimpArgs false
theorem flush_ {P : Program} {Q : Exit → Act → World → Prop} {c : Code} {a : Act} {w : World} (h : ∀ ws, ws = w → c.wp P Q a ws) : c.wp P Q a w := h _ rfl
theorem inquestlaw24_StrashRuns.j1_no {k : Nat} {x6 x699000 x699001 x699002 x699003 x699004 x699005 x700000 x700001 x700002 x724000 x724001 x724002 x724003 x724004 x724005} {r : Bool} (h : inquestlaw24_StrashRuns.j1 k x6 true x699000 x699001 x699002 x699003 x699004 x699005 x700000 x700001 x700002 x724000 x724001 x724002 x724003 x724004 x724005 = some r) : r = false := by
  cases k with
  | zero => exact absurd h (by simp [inquestlaw24_StrashRuns.j1])
  | succ k =>
    simp only [inquestlaw24_StrashRuns.j1] at h
    exact (Option.some.inj h).symm
set_option maxHeartbeats 80000000 in
set_option maxRecDepth 100000 in
theorem inquestlaw24_StrashRuns.calls (k : Nat) (a0_0 : Int) (A0_1 : Option Addr) (c0_1 : Nat) (l0_1 : List (S41)) (A0_2 : Option Addr) (c0_2 : Nat) (l0_2 : List (S68)) (A0_3 : Option Addr) (c0_3 : Nat) (l0_3 : List Int) (A0_4 : Option Addr) (c0_4 : Nat) (l0_4 : List Int) (A0_5 : Option Addr) (c0_5 : Nat) (l0_5 : List Int) (a1_0 : Int) (A1_1 : Option Addr) (c1_1 : Nat) (l1_1 : List Int) (A1_2 : Option Addr) (c1_2 : Nat) (l1_2 : List (List Int)) (r : Bool) (hrt : Aside0 (r = true)) (w : World) (hr0_1 : Kd.C k41 w A0_1 l0_1.length l0_1) (hc0_1 : l0_1.length ≤ c0_1) (hr0_2 : Kd.C k68 w A0_2 l0_2.length l0_2) (hc0_2 : l0_2.length ≤ c0_2) (hr0_3 : Kd.C (Kd.int .u32) w A0_3 l0_3.length l0_3) (hc0_3 : l0_3.length ≤ c0_3) (hr0_4 : Kd.C (Kd.int .u32) w A0_4 l0_4.length l0_4) (hc0_4 : l0_4.length ≤ c0_4) (hr0_5 : Kd.C (Kd.int .u32) w A0_5 l0_5.length l0_5) (hc0_5 : l0_5.length ≤ c0_5) (hr1_1 : Kd.C (Kd.int .u8) w A1_1 l1_1.length l1_1) (hc1_1 : l1_1.length ≤ c1_1) (hr1_2 : Kd.C (Kd.slice 5 (Kd.int .u8)) w A1_2 l1_2.length l1_2) (hc1_2 : l1_2.length ≤ c1_2) (h : inquestlaw24_StrashRuns.f k a0_0 l0_1 l0_2 l0_3 l0_4 l0_5 a1_0 l1_1 l1_2 = some r) :
  Calls Try.prog 6 #[.agg #[.int .i64 a0_0, .slice A0_1 l0_1.length c0_1, .slice A0_2 l0_2.length c0_2, .slice A0_3 l0_3.length c0_3, .slice A0_4 l0_4.length c0_4, .slice A0_5 l0_5.length c0_5], .agg #[.int .i64 a1_0, .slice A1_1 l1_1.length c1_1, .slice A1_2 l1_2.length c1_2]] w fun e w' => e = .returned (.bool r) ∧ Below w.heap.size w w' := by
 have hu26 := Try.underlying26
 have hu31 := Try.underlying31
 have HR0_1 := Aside0.mk hr0_1
 have HC0_1 := Aside0.mk hc0_1
 clear hr0_1 hc0_1
 have HR0_2 := Aside0.mk hr0_2
 have HC0_2 := Aside0.mk hc0_2
 clear hr0_2 hc0_2
 have HR0_3 := Aside0.mk hr0_3
 have HC0_3 := Aside0.mk hc0_3
 clear hr0_3 hc0_3
 have HR0_4 := Aside0.mk hr0_4
 have HC0_4 := Aside0.mk hc0_4
 clear hr0_4 hc0_4
 have HR0_5 := Aside0.mk hr0_5
 have HC0_5 := Aside0.mk hc0_5
 clear hr0_5 hc0_5
 have HR1_1 := Aside0.mk hr1_1
 have HC1_1 := Aside0.mk hc1_1
 clear hr1_1 hc1_1
 have HR1_2 := Aside0.mk hr1_2
 have HC1_2 := Aside0.mk hc1_2
 clear hr1_2 hc1_2
 have HB := Aside0.mk (Below.refl w.heap.size w)
 have H : ((inquestlaw24_great.f a0_0 l0_1 l0_2 l0_3 l0_4 l0_5).bind fun t700 => (if t700 = true then (inquestlaw24_StrashRuns.j0 k true a0_0 l0_1 l0_2 l0_3 l0_4 l0_5 a1_0 l1_1 l1_2) else (if (l1_2.length : Int) > 60 then (inquestlaw24_StrashRuns.j0 k true a0_0 l0_1 l0_2 l0_3 l0_4 l0_5 a1_0 l1_1 l1_2) else ((inquestref03_Fits.f k a0_0 l0_1 l0_2 l0_3 l0_4 l0_5 a1_0 l1_1 l1_2).bind fun t701 => (inquestlaw24_StrashRuns.j0 k (!t701) a0_0 l0_1 l0_2 l0_3 l0_4 l0_5 a1_0 l1_1 l1_2))))) = some r := h
 clear h
 have HC3 := Aside0.mk H
 clear H
 go_enter Try.func6, Try.ntmps6
 go_upto_region 1 with (first | ((with_reducible refine gate_dst (N := 2) rfl ?_); (try (refine gate_guard (by rfl) ?_; dsimp only)); refine box_event ?hg (N := 2) ?hd (cs := #[.int .i64 a0_0, .slice A0_1 l0_1.length c0_1, .slice A0_2 l0_2.length c0_2, .slice A0_3 l0_3.length c0_3, .slice A0_4 l0_4.length c0_4, .slice A0_5 l0_5.length c0_5]) (t := 26) ?hr ?_; (case hd => rfl); (case hg => rfl); (case hr => first | (go_simp; done) | (go_simp; rfl)); intro gb698 hg w4 hbox hb; have n0_ := Aside0.mk (below_step (by exact HB.out) hb); have n1_ := Aside0.mk (hbox); have n2_ := Aside0.mk ((by rw [hg]; exact (below_size (by exact HB.out)) : w.heap.size ≤ gb698)); have n3_ := Aside0.mk ((by rw [hg]; exact (below_size (by exact HB.out)) : w.heap.size ≤ gb698)); clear HB; have HB := n0_; have BK698 := n1_; have GW698 := n2_; have GE698 := n3_; clear n0_ n1_ n2_ n3_; clear hb hbox hg) | ((with_reducible refine gate_dst (N := 3) rfl ?_); (try (refine gate_guard (by rfl) ?_; dsimp only)); refine box_event ?hg (N := 3) ?hd (cs := #[.int .i64 a1_0, .slice A1_1 l1_1.length c1_1, .slice A1_2 l1_2.length c1_2]) (t := 31) ?hr ?_; (case hd => rfl); (case hg => rfl); (case hr => first | (go_simp; done) | (go_simp; rfl)); intro gb699 hg w5 hbox hb; have n0_ := Aside0.mk (blk_below (g := gb698) (o := .cells #[.int .i64 a0_0, .slice A0_1 l0_1.length c0_1, .slice A0_2 l0_2.length c0_2, .slice A0_3 l0_3.length c0_3, .slice A0_4 l0_4.length c0_4, .slice A0_5 l0_5.length c0_5] 26 (0, 0)) (by exact BK698.out) hb); have n1_ := Aside0.mk (below_step (by exact HB.out) hb); have n2_ := Aside0.mk (hbox); have n3_ := Aside0.mk ((by rw [hg]; exact (below_size (by exact HB.out)) : w.heap.size ≤ gb699)); have n4_ := Aside0.mk ((by rw [hg]; exact (below_size (by exact HB.out)) : w.heap.size ≤ gb699)); have n5_ := Aside0.mk ((by rw [hg]; exact Nat.ne_of_lt (blk_lt (g := gb698) (o := .cells #[.int .i64 a0_0, .slice A0_1 l0_1.length c0_1, .slice A0_2 l0_2.length c0_2, .slice A0_3 l0_3.length c0_3, .slice A0_4 l0_4.length c0_4, .slice A0_5 l0_5.length c0_5] 26 (0, 0)) (by exact BK698.out)) : gb698 ≠ gb699)); have n6_ := Aside0.mk ((by rw [hg]; exact Nat.ne_of_gt (blk_lt (g := gb698) (o := .cells #[.int .i64 a0_0, .slice A0_1 l0_1.length c0_1, .slice A0_2 l0_2.length c0_2, .slice A0_3 l0_3.length c0_3, .slice A0_4 l0_4.length c0_4, .slice A0_5 l0_5.length c0_5] 26 (0, 0)) (by exact BK698.out)) : gb699 ≠ gb698)); clear BK698; clear HB; have BK698 := n0_; have HB := n1_; have BK699 := n2_; have GW699 := n3_; have GE699 := n4_; have NB698_699 := n5_; have NB699_698 := n6_; clear n0_ n1_ n2_ n3_ n4_ n5_ n6_; clear hb hbox hg))
 repeat (go_quiet (fail); try go_wp2)
 (try simp only [Act.put, List.setIfInBounds_toArray, List.set_cons_zero, List.set_cons_succ])
 go_cut [32] (fun v32 wc => ∃ (kq : Nat) (x32_2 : Bool), v32 = .bool x32_2 ∧ Aside0 (inquestlaw24_StrashRuns.j0 kq x32_2 a0_0 l0_1 l0_2 l0_3 l0_4 l0_5 a1_0 l1_1 l1_2 = some r) ∧ Aside0 (kq ≤ k) ∧ Aside0 (wc.heap[gb698]? = some (.cells #[.int .i64 a0_0, (.slice A0_1 l0_1.length c0_1), (.slice A0_2 l0_2.length c0_2), (.slice A0_3 l0_3.length c0_3), (.slice A0_4 l0_4.length c0_4), (.slice A0_5 l0_5.length c0_5)] 26 (0, 0))) ∧ Aside0 (wc.heap[gb699]? = some (.cells #[.int .i64 a1_0, (.slice A1_1 l1_1.length c1_1), (.slice A1_2 l1_2.length c1_2)] 31 (0, 0))) ∧ Aside0 (Below w.heap.size w wc))
 case first =>
  have H := HC3.out
  clear HC3
  replace H := Option.bind_eq_some_iff.mp H
  obtain ⟨t700, A60, H⟩ := H
  replace H : (if t700 = true then (inquestlaw24_StrashRuns.j0 k true a0_0 l0_1 l0_2 l0_3 l0_4 l0_5 a1_0 l1_1 l1_2) else (if (l1_2.length : Int) > 60 then (inquestlaw24_StrashRuns.j0 k true a0_0 l0_1 l0_2 l0_3 l0_4 l0_5 a1_0 l1_1 l1_2) else ((inquestref03_Fits.f k a0_0 l0_1 l0_2 l0_3 l0_4 l0_5 a1_0 l1_1 l1_2).bind fun t701 => (inquestlaw24_StrashRuns.j0 k (!t701) a0_0 l0_1 l0_2 l0_3 l0_4 l0_5 a1_0 l1_1 l1_2)))) = some r := H
  have A6 := Aside0.mk A60
  clear A60
  by_cases c7 : t700 = true
  ·
   subst c7
   have H1 : (inquestlaw24_StrashRuns.j0 k true a0_0 l0_1 l0_2 l0_3 l0_4 l0_5 a1_0 l1_1 l1_2) = some r := by rw [if_pos rfl] at H; exact H
   clear H
   have H := H1
   clear H1
   have H' := Aside0.mk H
   clear H
   have hnb8 := NB698_699.out
   have hnc8 := NB699_698.out
   have hcz9_0 : w5.cell? ⟨gb698, 0, none⟩ = some (.int .i64 a0_0) := (blk_cell BK698.out 0).trans rfl
   have hcz9_1 : w5.cell? ⟨gb698, 1, none⟩ = some (.slice A0_1 l0_1.length c0_1) := (blk_cell BK698.out 1).trans rfl
   have hcz9_2 : w5.cell? ⟨gb698, 2, none⟩ = some (.slice A0_2 l0_2.length c0_2) := (blk_cell BK698.out 2).trans rfl
   have hcz9_3 : w5.cell? ⟨gb698, 3, none⟩ = some (.slice A0_3 l0_3.length c0_3) := (blk_cell BK698.out 3).trans rfl
   have hcz9_4 : w5.cell? ⟨gb698, 4, none⟩ = some (.slice A0_4 l0_4.length c0_4) := (blk_cell BK698.out 4).trans rfl
   have hcz9_5 : w5.cell? ⟨gb698, 5, none⟩ = some (.slice A0_5 l0_5.length c0_5) := (blk_cell BK698.out 5).trans rfl
   have hfz9_0 := blk_frozen BK698.out 0
   have hfz9_1 := blk_frozen BK698.out 1
   have hfz9_2 := blk_frozen BK698.out 2
   have hfz9_3 := blk_frozen BK698.out 3
   have hfz9_4 := blk_frozen BK698.out 4
   have hfz9_5 := blk_frozen BK698.out 5
   go_wp2_with (first | (go_at_call 36; (with_reducible refine (inquestlaw24_great.calls a0_0 _ _ l0_1 _ _ l0_2 _ _ l0_3 _ _ l0_4 _ _ l0_5 true _ ?side1 ?side2 ?side3 ?side4 ?side5 ?side6 ?side7 ?side8 ?side9 ?side10 A6.out).mono ?_); (case side1 => exact (Kd.C_below HR0_1.out HB.out)); (case side2 => exact HC0_1.out); (case side3 => exact (Kd.C_below HR0_2.out HB.out)); (case side4 => exact HC0_2.out); (case side5 => exact (Kd.C_below HR0_3.out HB.out)); (case side6 => exact HC0_3.out); (case side7 => exact (Kd.C_below HR0_4.out HB.out)); (case side8 => exact HC0_4.out); (case side9 => exact (Kd.C_below HR0_5.out HB.out)); (case side10 => exact HC0_5.out); rintro e w10 ⟨rfl, hb⟩; have n0_ := Aside0.mk (blk_below (g := gb698) (o := .cells #[.int .i64 a0_0, .slice A0_1 l0_1.length c0_1, .slice A0_2 l0_2.length c0_2, .slice A0_3 l0_3.length c0_3, .slice A0_4 l0_4.length c0_4, .slice A0_5 l0_5.length c0_5] 26 (0, 0)) (by exact BK698.out) hb); have n1_ := Aside0.mk (blk_below (g := gb699) (o := .cells #[.int .i64 a1_0, .slice A1_1 l1_1.length c1_1, .slice A1_2 l1_2.length c1_2] 31 (0, 0)) (by exact BK699.out) hb); have n2_ := Aside0.mk (below_step (by exact HB.out) hb); clear BK698; clear BK699; clear HB; have BK698 := n0_; have BK699 := n1_; have HB := n2_; clear n0_ n1_ n2_; (try clear hb); (try clear hb2); (try clear hk); (try clear hi)))
   repeat (go_quiet (fail); try go_wp2)
   go_meet
   case rel => exact ⟨_, (true), (by first | rfl | (simp; done) | (simp [*]; done)), H', ⟨by first | omega | exact Nat.le_refl _⟩, ⟨by exact BK698.out⟩, ⟨by exact BK699.out⟩, ⟨by exact HB.out⟩⟩
  ·
   replace c7 := Bool.eq_false_iff.mpr c7
   subst c7
   have H1 : (if (l1_2.length : Int) > 60 then (inquestlaw24_StrashRuns.j0 k true a0_0 l0_1 l0_2 l0_3 l0_4 l0_5 a1_0 l1_1 l1_2) else ((inquestref03_Fits.f k a0_0 l0_1 l0_2 l0_3 l0_4 l0_5 a1_0 l1_1 l1_2).bind fun t701 => (inquestlaw24_StrashRuns.j0 k (!t701) a0_0 l0_1 l0_2 l0_3 l0_4 l0_5 a1_0 l1_1 l1_2))) = some r := by rw [if_neg (show ¬ (false = true) by decide)] at H; exact H
   clear H
   have H := H1
   clear H1
   by_cases c11 : (l1_2.length : Int) > 60
   ·
    rw [if_pos c11] at H
    have c11b0 : decide (60 < (l1_2.length : Int)) = true := decide_eq_true c11
    have c11b1 : decide (60 < l1_2.length) = true := decide_eq_true (by omega)
    clear c11
    (first | rw [c11b0] | (simp only [i64_w, i32_w]; rw [c11b0]) | skip)
    have H' := Aside0.mk H
    clear H
    have hnb12 := NB698_699.out
    have hnc12 := NB699_698.out
    have hcz13_0 : w5.cell? ⟨gb698, 0, none⟩ = some (.int .i64 a0_0) := (blk_cell BK698.out 0).trans rfl
    have hcz13_1 : w5.cell? ⟨gb698, 1, none⟩ = some (.slice A0_1 l0_1.length c0_1) := (blk_cell BK698.out 1).trans rfl
    have hcz13_2 : w5.cell? ⟨gb698, 2, none⟩ = some (.slice A0_2 l0_2.length c0_2) := (blk_cell BK698.out 2).trans rfl
    have hcz13_3 : w5.cell? ⟨gb698, 3, none⟩ = some (.slice A0_3 l0_3.length c0_3) := (blk_cell BK698.out 3).trans rfl
    have hcz13_4 : w5.cell? ⟨gb698, 4, none⟩ = some (.slice A0_4 l0_4.length c0_4) := (blk_cell BK698.out 4).trans rfl
    have hcz13_5 : w5.cell? ⟨gb698, 5, none⟩ = some (.slice A0_5 l0_5.length c0_5) := (blk_cell BK698.out 5).trans rfl
    have hfz13_0 := blk_frozen BK698.out 0
    have hfz13_1 := blk_frozen BK698.out 1
    have hfz13_2 := blk_frozen BK698.out 2
    have hfz13_3 := blk_frozen BK698.out 3
    have hfz13_4 := blk_frozen BK698.out 4
    have hfz13_5 := blk_frozen BK698.out 5
    go_wp2_with (first | (go_at_call 36; (with_reducible refine (inquestlaw24_great.calls a0_0 _ _ l0_1 _ _ l0_2 _ _ l0_3 _ _ l0_4 _ _ l0_5 false _ ?side1 ?side2 ?side3 ?side4 ?side5 ?side6 ?side7 ?side8 ?side9 ?side10 A6.out).mono ?_); (case side1 => exact (Kd.C_below HR0_1.out HB.out)); (case side2 => exact HC0_1.out); (case side3 => exact (Kd.C_below HR0_2.out HB.out)); (case side4 => exact HC0_2.out); (case side5 => exact (Kd.C_below HR0_3.out HB.out)); (case side6 => exact HC0_3.out); (case side7 => exact (Kd.C_below HR0_4.out HB.out)); (case side8 => exact HC0_4.out); (case side9 => exact (Kd.C_below HR0_5.out HB.out)); (case side10 => exact HC0_5.out); rintro e w14 ⟨rfl, hb⟩; have n0_ := Aside0.mk (blk_below (g := gb698) (o := .cells #[.int .i64 a0_0, .slice A0_1 l0_1.length c0_1, .slice A0_2 l0_2.length c0_2, .slice A0_3 l0_3.length c0_3, .slice A0_4 l0_4.length c0_4, .slice A0_5 l0_5.length c0_5] 26 (0, 0)) (by exact BK698.out) hb); have n1_ := Aside0.mk (blk_below (g := gb699) (o := .cells #[.int .i64 a1_0, .slice A1_1 l1_1.length c1_1, .slice A1_2 l1_2.length c1_2] 31 (0, 0)) (by exact BK699.out) hb); have n2_ := Aside0.mk (below_step (by exact HB.out) hb); clear BK698; clear BK699; clear HB; have BK698 := n0_; have BK699 := n1_; have HB := n2_; clear n0_ n1_ n2_; (try clear hb); (try clear hb2); (try clear hk); (try clear hi); have hcz15_0 : w14.cell? ⟨gb699, 0, none⟩ = some (.int .i64 a1_0) := (blk_cell BK699.out 0).trans rfl; have hcz15_1 : w14.cell? ⟨gb699, 1, none⟩ = some (.slice A1_1 l1_1.length c1_1) := (blk_cell BK699.out 1).trans rfl; have hcz15_2 : w14.cell? ⟨gb699, 2, none⟩ = some (.slice A1_2 l1_2.length c1_2) := (blk_cell BK699.out 2).trans rfl; have hfz15_0 := blk_frozen BK699.out 0; have hfz15_1 := blk_frozen BK699.out 1; have hfz15_2 := blk_frozen BK699.out 2))
    repeat (go_quiet (fail); try go_wp2)
    go_meet
    case rel => exact ⟨_, (true), (by first | rfl | (simp; done) | (simp [*]; done)), H', ⟨by first | omega | exact Nat.le_refl _⟩, ⟨by exact BK698.out⟩, ⟨by exact BK699.out⟩, ⟨by exact HB.out⟩⟩
   ·
    rw [if_neg c11] at H
    have c11b0 : decide (60 < (l1_2.length : Int)) = false := decide_eq_false c11
    have c11b1 : decide (60 < l1_2.length) = false := decide_eq_false (by omega)
    clear c11
    (first | rw [c11b0] | (simp only [i64_w, i32_w]; rw [c11b0]) | skip)
    replace H := Option.bind_eq_some_iff.mp H
    obtain ⟨t701, A160, H⟩ := H
    replace H : (inquestlaw24_StrashRuns.j0 k (!t701) a0_0 l0_1 l0_2 l0_3 l0_4 l0_5 a1_0 l1_1 l1_2) = some r := H
    have A16 := Aside0.mk A160
    clear A160
    have H' := Aside0.mk H
    clear H
    have hnb17 := NB698_699.out
    have hnc17 := NB699_698.out
    have hcz18_0 : w5.cell? ⟨gb698, 0, none⟩ = some (.int .i64 a0_0) := (blk_cell BK698.out 0).trans rfl
    have hcz18_1 : w5.cell? ⟨gb698, 1, none⟩ = some (.slice A0_1 l0_1.length c0_1) := (blk_cell BK698.out 1).trans rfl
    have hcz18_2 : w5.cell? ⟨gb698, 2, none⟩ = some (.slice A0_2 l0_2.length c0_2) := (blk_cell BK698.out 2).trans rfl
    have hcz18_3 : w5.cell? ⟨gb698, 3, none⟩ = some (.slice A0_3 l0_3.length c0_3) := (blk_cell BK698.out 3).trans rfl
    have hcz18_4 : w5.cell? ⟨gb698, 4, none⟩ = some (.slice A0_4 l0_4.length c0_4) := (blk_cell BK698.out 4).trans rfl
    have hcz18_5 : w5.cell? ⟨gb698, 5, none⟩ = some (.slice A0_5 l0_5.length c0_5) := (blk_cell BK698.out 5).trans rfl
    have hfz18_0 := blk_frozen BK698.out 0
    have hfz18_1 := blk_frozen BK698.out 1
    have hfz18_2 := blk_frozen BK698.out 2
    have hfz18_3 := blk_frozen BK698.out 3
    have hfz18_4 := blk_frozen BK698.out 4
    have hfz18_5 := blk_frozen BK698.out 5
    go_wp2_with (first | (go_at_call 36; (with_reducible refine (inquestlaw24_great.calls a0_0 _ _ l0_1 _ _ l0_2 _ _ l0_3 _ _ l0_4 _ _ l0_5 false _ ?side1 ?side2 ?side3 ?side4 ?side5 ?side6 ?side7 ?side8 ?side9 ?side10 A6.out).mono ?_); (case side1 => exact (Kd.C_below HR0_1.out HB.out)); (case side2 => exact HC0_1.out); (case side3 => exact (Kd.C_below HR0_2.out HB.out)); (case side4 => exact HC0_2.out); (case side5 => exact (Kd.C_below HR0_3.out HB.out)); (case side6 => exact HC0_3.out); (case side7 => exact (Kd.C_below HR0_4.out HB.out)); (case side8 => exact HC0_4.out); (case side9 => exact (Kd.C_below HR0_5.out HB.out)); (case side10 => exact HC0_5.out); rintro e w19 ⟨rfl, hb⟩; have n0_ := Aside0.mk (blk_below (g := gb698) (o := .cells #[.int .i64 a0_0, .slice A0_1 l0_1.length c0_1, .slice A0_2 l0_2.length c0_2, .slice A0_3 l0_3.length c0_3, .slice A0_4 l0_4.length c0_4, .slice A0_5 l0_5.length c0_5] 26 (0, 0)) (by exact BK698.out) hb); have n1_ := Aside0.mk (blk_below (g := gb699) (o := .cells #[.int .i64 a1_0, .slice A1_1 l1_1.length c1_1, .slice A1_2 l1_2.length c1_2] 31 (0, 0)) (by exact BK699.out) hb); have n2_ := Aside0.mk (below_step (by exact HB.out) hb); clear BK698; clear BK699; clear HB; have BK698 := n0_; have BK699 := n1_; have HB := n2_; clear n0_ n1_ n2_; (try clear hb); (try clear hb2); (try clear hk); (try clear hi); have hcz20_0 : w19.cell? ⟨gb699, 0, none⟩ = some (.int .i64 a1_0) := (blk_cell BK699.out 0).trans rfl; have hcz20_1 : w19.cell? ⟨gb699, 1, none⟩ = some (.slice A1_1 l1_1.length c1_1) := (blk_cell BK699.out 1).trans rfl; have hcz20_2 : w19.cell? ⟨gb699, 2, none⟩ = some (.slice A1_2 l1_2.length c1_2) := (blk_cell BK699.out 2).trans rfl; have hfz20_0 := blk_frozen BK699.out 0; have hfz20_1 := blk_frozen BK699.out 1; have hfz20_2 := blk_frozen BK699.out 2; have hcz21_0 : w19.cell? ⟨gb698, 0, none⟩ = some (.int .i64 a0_0) := (blk_cell BK698.out 0).trans rfl; have hcz21_1 : w19.cell? ⟨gb698, 1, none⟩ = some (.slice A0_1 l0_1.length c0_1) := (blk_cell BK698.out 1).trans rfl; have hcz21_2 : w19.cell? ⟨gb698, 2, none⟩ = some (.slice A0_2 l0_2.length c0_2) := (blk_cell BK698.out 2).trans rfl; have hcz21_3 : w19.cell? ⟨gb698, 3, none⟩ = some (.slice A0_3 l0_3.length c0_3) := (blk_cell BK698.out 3).trans rfl; have hcz21_4 : w19.cell? ⟨gb698, 4, none⟩ = some (.slice A0_4 l0_4.length c0_4) := (blk_cell BK698.out 4).trans rfl; have hcz21_5 : w19.cell? ⟨gb698, 5, none⟩ = some (.slice A0_5 l0_5.length c0_5) := (blk_cell BK698.out 5).trans rfl; have hfz21_0 := blk_frozen BK698.out 0; have hfz21_1 := blk_frozen BK698.out 1; have hfz21_2 := blk_frozen BK698.out 2; have hfz21_3 := blk_frozen BK698.out 3; have hfz21_4 := blk_frozen BK698.out 4; have hfz21_5 := blk_frozen BK698.out 5) | (go_at_call 48; (with_reducible refine (inquestref03_Fits.calls k a0_0 _ _ l0_1 _ _ l0_2 _ _ l0_3 _ _ l0_4 _ _ l0_5 a1_0 _ _ l1_1 _ _ l1_2 t701 _ ?side1 ?side2 ?side3 ?side4 ?side5 ?side6 ?side7 ?side8 ?side9 ?side10 ?side11 ?side12 ?side13 ?side14 A16.out).mono ?_); (case side1 => exact (Kd.C_below HR0_1.out HB.out)); (case side2 => exact HC0_1.out); (case side3 => exact (Kd.C_below HR0_2.out HB.out)); (case side4 => exact HC0_2.out); (case side5 => exact (Kd.C_below HR0_3.out HB.out)); (case side6 => exact HC0_3.out); (case side7 => exact (Kd.C_below HR0_4.out HB.out)); (case side8 => exact HC0_4.out); (case side9 => exact (Kd.C_below HR0_5.out HB.out)); (case side10 => exact HC0_5.out); (case side11 => exact (Kd.C_below HR1_1.out HB.out)); (case side12 => exact HC1_1.out); (case side13 => exact (Kd.C_below HR1_2.out HB.out)); (case side14 => exact HC1_2.out); rintro e w22 ⟨rfl, hb⟩; have n0_ := Aside0.mk (blk_below (g := gb698) (o := .cells #[.int .i64 a0_0, .slice A0_1 l0_1.length c0_1, .slice A0_2 l0_2.length c0_2, .slice A0_3 l0_3.length c0_3, .slice A0_4 l0_4.length c0_4, .slice A0_5 l0_5.length c0_5] 26 (0, 0)) (by exact BK698.out) hb); have n1_ := Aside0.mk (blk_below (g := gb699) (o := .cells #[.int .i64 a1_0, .slice A1_1 l1_1.length c1_1, .slice A1_2 l1_2.length c1_2] 31 (0, 0)) (by exact BK699.out) hb); have n2_ := Aside0.mk (below_step (by exact HB.out) hb); clear BK698; clear BK699; clear HB; have BK698 := n0_; have BK699 := n1_; have HB := n2_; clear n0_ n1_ n2_; (try clear hb); (try clear hb2); (try clear hk); (try clear hi)))
    repeat (go_quiet (fail); try go_wp2)
    go_meet
    case rel => exact ⟨_, (!t701), (by first | rfl | (simp; done) | (simp [*]; done)), H', ⟨by first | omega | exact Nat.le_refl _⟩, ⟨by exact BK698.out⟩, ⟨by exact BK699.out⟩, ⟨by exact HB.out⟩⟩
 case rest =>
  as_aux_lemma =>
   clear HC3
   try clear c1
   try clear p2
   try clear c6
   try clear c7
   try clear c8
   try clear c11
   try clear c11b0
   try clear c11b1
   try clear c12
   try clear c17
   try clear hcz13_0
   try clear hcz13_1
   try clear hcz13_2
   try clear hcz13_3
   try clear hcz13_4
   try clear hcz13_5
   try clear hcz15_0
   try clear hcz15_1
   try clear hcz15_2
   try clear hcz18_0
   try clear hcz18_1
   try clear hcz18_2
   try clear hcz18_3
   try clear hcz18_4
   try clear hcz18_5
   try clear hcz20_0
   try clear hcz20_1
   try clear hcz20_2
   try clear hcz21_0
   try clear hcz21_1
   try clear hcz21_2
   try clear hcz21_3
   try clear hcz21_4
   try clear hcz21_5
   try clear hcz9_0
   try clear hcz9_1
   try clear hcz9_2
   try clear hcz9_3
   try clear hcz9_4
   try clear hcz9_5
   try clear hfz13_0
   try clear hfz13_1
   try clear hfz13_2
   try clear hfz13_3
   try clear hfz13_4
   try clear hfz13_5
   try clear hfz15_0
   try clear hfz15_1
   try clear hfz15_2
   try clear hfz18_0
   try clear hfz18_1
   try clear hfz18_2
   try clear hfz18_3
   try clear hfz18_4
   try clear hfz18_5
   try clear hfz20_0
   try clear hfz20_1
   try clear hfz20_2
   try clear hfz21_0
   try clear hfz21_1
   try clear hfz21_2
   try clear hfz21_3
   try clear hfz21_4
   try clear hfz21_5
   try clear hfz9_0
   try clear hfz9_1
   try clear hfz9_2
   try clear hfz9_3
   try clear hfz9_4
   try clear hfz9_5
   obtain ⟨kq, x32_2, rfl, HA, HJ2, BK698, BK699, HB⟩ := hcut
   cases kq with
   | zero => exact absurd HA.out (by simp [inquestlaw24_StrashRuns.j0])
   | succ kj2 =>
    have H := HA.out
    clear HA
    simp only [inquestlaw24_StrashRuns.j0] at H
    by_cases c23 : x32_2 = true
    ·
     subst c23
     have H1 : ((inquestlaw24_lives.f kj2).bind fun t702 => (some t702)) = some r := by rw [if_pos rfl] at H; exact H
     clear H
     have H := H1
     clear H1
     replace H := Option.bind_eq_some_iff.mp H
     obtain ⟨t702, A240, H⟩ := H
     replace H : (some t702) = some r := H
     have A24 := Aside0.mk A240
     clear A240
     obtain rfl := Option.some.inj H
     go_wp2_with (first | (go_at_call 37; (with_reducible refine (inquestlaw24_lives.calls kj2  t702 _ A24.out).mono ?_); rintro e w25 ⟨rfl, hb⟩; have n0_ := Aside0.mk (blk_below (g := gb698) (o := .cells #[.int .i64 a0_0, .slice A0_1 l0_1.length c0_1, .slice A0_2 l0_2.length c0_2, .slice A0_3 l0_3.length c0_3, .slice A0_4 l0_4.length c0_4, .slice A0_5 l0_5.length c0_5] 26 (0, 0)) (by exact BK698.out) hb); have n1_ := Aside0.mk (blk_below (g := gb699) (o := .cells #[.int .i64 a1_0, .slice A1_1 l1_1.length c1_1, .slice A1_2 l1_2.length c1_2] 31 (0, 0)) (by exact BK699.out) hb); have n2_ := Aside0.mk (below_step (by exact HB.out) hb); clear BK698; clear BK699; clear HB; have BK698 := n0_; have BK699 := n1_; have HB := n2_; clear n0_ n1_ n2_; (try clear hb); (try clear hb2); (try clear hk); (try clear hi)))
     repeat (go_quiet (fail); try go_wp2)
     go_ret
     exact ⟨by first | rfl | (simp [errW_none, errW_some] <;> rfl) | (simp [*, errW_none, errW_some] <;> rfl), by exact HB.out⟩
    ·
     replace c23 := Bool.eq_false_iff.mpr c23
     subst c23
     have H1 : ((strash_Small.f a0_0 l0_1 l0_2 l0_3 l0_4 l0_5).bind fun bt703 => (if bt703.2.2.2.2.2.2.2 = 0 then ((inquestref03_Vars.f kj2 a0_0 l0_1 l0_2 l0_3 l0_4 l0_5).bind fun t724 => (if (bt703.2.2.2.2.2.2.1.length : Int) = (wrap64 (t724 + 1)) then ((inquestref03_Fits.f kj2 bt703.1 bt703.2.1 bt703.2.2.1 bt703.2.2.2.1 bt703.2.2.2.2.1 bt703.2.2.2.2.2.1 a1_0 l1_1 l1_2).bind fun t725 => (inquestlaw24_StrashRuns.j1 kj2 bt703.2.2.2.2.2.2.1 (!t725) a0_0 l0_1 l0_2 l0_3 l0_4 l0_5 a1_0 l1_1 l1_2 bt703.1 bt703.2.1 bt703.2.2.1 bt703.2.2.2.1 bt703.2.2.2.2.1 bt703.2.2.2.2.2.1)) else (inquestlaw24_StrashRuns.j1 kj2 bt703.2.2.2.2.2.2.1 true a0_0 l0_1 l0_2 l0_3 l0_4 l0_5 a1_0 l1_1 l1_2 bt703.1 bt703.2.1 bt703.2.2.1 bt703.2.2.2.1 bt703.2.2.2.2.1 bt703.2.2.2.2.2.1))) else (inquestlaw24_StrashRuns.j1 kj2 bt703.2.2.2.2.2.2.1 true a0_0 l0_1 l0_2 l0_3 l0_4 l0_5 a1_0 l1_1 l1_2 bt703.1 bt703.2.1 bt703.2.2.1 bt703.2.2.2.1 bt703.2.2.2.2.1 bt703.2.2.2.2.2.1))) = some r := by rw [if_neg (show ¬ (false = true) by decide)] at H; exact H
     clear H
     have H := H1
     clear H1
     replace H := Option.bind_eq_some_iff.mp H
     obtain ⟨⟨t703, t704, t707, t710, t713, t716, t719, t722⟩, A260, H⟩ := H
     replace H : (if t722 = 0 then ((inquestref03_Vars.f kj2 a0_0 l0_1 l0_2 l0_3 l0_4 l0_5).bind fun t724 => (if (t719.length : Int) = (wrap64 (t724 + 1)) then ((inquestref03_Fits.f kj2 t703 t704 t707 t710 t713 t716 a1_0 l1_1 l1_2).bind fun t725 => (inquestlaw24_StrashRuns.j1 kj2 t719 (!t725) a0_0 l0_1 l0_2 l0_3 l0_4 l0_5 a1_0 l1_1 l1_2 t703 t704 t707 t710 t713 t716)) else (inquestlaw24_StrashRuns.j1 kj2 t719 true a0_0 l0_1 l0_2 l0_3 l0_4 l0_5 a1_0 l1_1 l1_2 t703 t704 t707 t710 t713 t716))) else (inquestlaw24_StrashRuns.j1 kj2 t719 true a0_0 l0_1 l0_2 l0_3 l0_4 l0_5 a1_0 l1_1 l1_2 t703 t704 t707 t710 t713 t716)) = some r := H
     have A26 := Aside0.mk A260
     clear A260
     have HC27 := Aside0.mk H
     clear H
     have hnb28 := NB698_699.out
     have hnc28 := NB699_698.out
     have hcz29_0 : wc.cell? ⟨gb698, 0, none⟩ = some (.int .i64 a0_0) := (blk_cell BK698.out 0).trans rfl
     have hcz29_1 : wc.cell? ⟨gb698, 1, none⟩ = some (.slice A0_1 l0_1.length c0_1) := (blk_cell BK698.out 1).trans rfl
     have hcz29_2 : wc.cell? ⟨gb698, 2, none⟩ = some (.slice A0_2 l0_2.length c0_2) := (blk_cell BK698.out 2).trans rfl
     have hcz29_3 : wc.cell? ⟨gb698, 3, none⟩ = some (.slice A0_3 l0_3.length c0_3) := (blk_cell BK698.out 3).trans rfl
     have hcz29_4 : wc.cell? ⟨gb698, 4, none⟩ = some (.slice A0_4 l0_4.length c0_4) := (blk_cell BK698.out 4).trans rfl
     have hcz29_5 : wc.cell? ⟨gb698, 5, none⟩ = some (.slice A0_5 l0_5.length c0_5) := (blk_cell BK698.out 5).trans rfl
     have hfz29_0 := blk_frozen BK698.out 0
     have hfz29_1 := blk_frozen BK698.out 1
     have hfz29_2 := blk_frozen BK698.out 2
     have hfz29_3 := blk_frozen BK698.out 3
     have hfz29_4 := blk_frozen BK698.out 4
     have hfz29_5 := blk_frozen BK698.out 5
     go_upto_region 4 with (first | (go_at_call 40; (with_reducible refine (strash_Small.calls a0_0 _ _ l0_1 _ _ l0_2 _ _ l0_3 _ _ l0_4 _ _ l0_5 t703 t704 t707 t710 t713 t716 t719 t722 _ ?side1 ?side2 ?side3 ?side4 ?side5 ?side6 ?side7 ?side8 ?side9 ?side10 A26.out).mono ?_); (case side1 => exact (Kd.C_below HR0_1.out HB.out)); (case side2 => exact HC0_1.out); (case side3 => exact (Kd.C_below HR0_2.out HB.out)); (case side4 => exact HC0_2.out); (case side5 => exact (Kd.C_below HR0_3.out HB.out)); (case side6 => exact HC0_3.out); (case side7 => exact (Kd.C_below HR0_4.out HB.out)); (case side8 => exact HC0_4.out); (case side9 => exact (Kd.C_below HR0_5.out HB.out)); (case side10 => exact HC0_5.out); rintro e w30 ⟨v705, v708, v711, v714, v717, v720, rfl, ho0, ho1, ho2, ho3, ho4, ho5, hb⟩; have n0_ := Aside0.mk (Kd.R_lower ho0 (below_size (by exact HB.out))); have n1_ := Aside0.mk (Kd.R_lower ho1 (below_size (by exact HB.out))); have n2_ := Aside0.mk (Kd.R_lower ho2 (below_size (by exact HB.out))); have n3_ := Aside0.mk (Kd.R_lower ho3 (below_size (by exact HB.out))); have n4_ := Aside0.mk (Kd.R_lower ho4 (below_size (by exact HB.out))); have n5_ := Aside0.mk (Kd.R_lower ho5 (below_size (by exact HB.out))); have n6_ := Aside0.mk (blk_below (g := gb698) (o := .cells #[.int .i64 a0_0, .slice A0_1 l0_1.length c0_1, .slice A0_2 l0_2.length c0_2, .slice A0_3 l0_3.length c0_3, .slice A0_4 l0_4.length c0_4, .slice A0_5 l0_5.length c0_5] 26 (0, 0)) (by exact BK698.out) hb); have n7_ := Aside0.mk (blk_below (g := gb699) (o := .cells #[.int .i64 a1_0, .slice A1_1 l1_1.length c1_1, .slice A1_2 l1_2.length c1_2] 31 (0, 0)) (by exact BK699.out) hb); have n8_ := Aside0.mk (below_step (by exact HB.out) hb); clear BK698; clear BK699; clear HB; have HO706 := n0_; have HO709 := n1_; have HO712 := n2_; have HO715 := n3_; have HO718 := n4_; have HO721 := n5_; have BK698 := n6_; have BK699 := n7_; have HB := n8_; clear n0_ n1_ n2_ n3_ n4_ n5_ n6_ n7_ n8_; (try clear hb); (try clear hb2); (try clear hk); (try clear hi); (try clear ho0); (try clear ho1); (try clear ho2); (try clear ho3); (try clear ho4); (try clear ho5)) | ((with_reducible refine gate_dst (N := 5) rfl ?_); (try (refine gate_guard (by rfl) ?_; dsimp only)); refine box_event ?hg (N := 5) ?hd (cs := #[.int .i64 0, .slice none 0 0, .slice none 0 0, .slice none 0 0, .slice none 0 0, .slice none 0 0]) (t := 26) ?hr ?_; (case hd => rfl); (case hg => rfl); (case hr => first | (go_simp; done) | (go_simp; rfl)); intro gb723 hg w31 hbox hb; have n0_ := Aside0.mk (Kd.R_below (by exact HO706.out) hb); have n1_ := Aside0.mk (Kd.R_below (by exact HO709.out) hb); have n2_ := Aside0.mk (Kd.R_below (by exact HO712.out) hb); have n3_ := Aside0.mk (Kd.R_below (by exact HO715.out) hb); have n4_ := Aside0.mk (Kd.R_below (by exact HO718.out) hb); have n5_ := Aside0.mk (Kd.R_below (by exact HO721.out) hb); have n6_ := Aside0.mk (blk_below (g := gb698) (o := .cells #[.int .i64 a0_0, .slice A0_1 l0_1.length c0_1, .slice A0_2 l0_2.length c0_2, .slice A0_3 l0_3.length c0_3, .slice A0_4 l0_4.length c0_4, .slice A0_5 l0_5.length c0_5] 26 (0, 0)) (by exact BK698.out) hb); have n7_ := Aside0.mk (blk_below (g := gb699) (o := .cells #[.int .i64 a1_0, .slice A1_1 l1_1.length c1_1, .slice A1_2 l1_2.length c1_2] 31 (0, 0)) (by exact BK699.out) hb); have n8_ := Aside0.mk (below_step (by exact HB.out) hb); have n9_ := Aside0.mk (hbox); have n10_ := Aside0.mk ((by rw [hg]; exact (below_size (by exact HB.out)) : w.heap.size ≤ gb723)); have n11_ := Aside0.mk ((by rw [hg]; exact (below_size (by exact HB.out)) : w.heap.size ≤ gb723)); have n12_ := Aside0.mk ((by rw [hg]; exact Nat.ne_of_lt (blk_lt (g := gb698) (o := .cells #[.int .i64 a0_0, .slice A0_1 l0_1.length c0_1, .slice A0_2 l0_2.length c0_2, .slice A0_3 l0_3.length c0_3, .slice A0_4 l0_4.length c0_4, .slice A0_5 l0_5.length c0_5] 26 (0, 0)) (by exact BK698.out)) : gb698 ≠ gb723)); have n13_ := Aside0.mk ((by rw [hg]; exact Nat.ne_of_gt (blk_lt (g := gb698) (o := .cells #[.int .i64 a0_0, .slice A0_1 l0_1.length c0_1, .slice A0_2 l0_2.length c0_2, .slice A0_3 l0_3.length c0_3, .slice A0_4 l0_4.length c0_4, .slice A0_5 l0_5.length c0_5] 26 (0, 0)) (by exact BK698.out)) : gb723 ≠ gb698)); have n14_ := Aside0.mk ((by rw [hg]; exact Nat.ne_of_lt (blk_lt (g := gb699) (o := .cells #[.int .i64 a1_0, .slice A1_1 l1_1.length c1_1, .slice A1_2 l1_2.length c1_2] 31 (0, 0)) (by exact BK699.out)) : gb699 ≠ gb723)); have n15_ := Aside0.mk ((by rw [hg]; exact Nat.ne_of_gt (blk_lt (g := gb699) (o := .cells #[.int .i64 a1_0, .slice A1_1 l1_1.length c1_1, .slice A1_2 l1_2.length c1_2] 31 (0, 0)) (by exact BK699.out)) : gb723 ≠ gb699)); clear HO706; clear HO709; clear HO712; clear HO715; clear HO718; clear HO721; clear BK698; clear BK699; clear HB; have HO706 := n0_; have HO709 := n1_; have HO712 := n2_; have HO715 := n3_; have HO718 := n4_; have HO721 := n5_; have BK698 := n6_; have BK699 := n7_; have HB := n8_; have BK723 := n9_; have GW723 := n10_; have GE723 := n11_; have NB698_723 := n12_; have NB723_698 := n13_; have NB699_723 := n14_; have NB723_699 := n15_; clear n0_ n1_ n2_ n3_ n4_ n5_ n6_ n7_ n8_ n9_ n10_ n11_ n12_ n13_ n14_ n15_; clear hb hbox hg; have hnb32 := NB723_698.out; have hnc32 := NB698_723.out; have hnb33 := NB723_699.out; have hnc33 := NB699_723.out; have hcz34_0 : w31.cell? ⟨gb723, 0, none⟩ = some (.int .i64 0) := (blk_cell BK723.out 0).trans rfl; have hcz34_1 : w31.cell? ⟨gb723, 1, none⟩ = some (.slice none 0 0) := (blk_cell BK723.out 1).trans rfl; have hcz34_2 : w31.cell? ⟨gb723, 2, none⟩ = some (.slice none 0 0) := (blk_cell BK723.out 2).trans rfl; have hcz34_3 : w31.cell? ⟨gb723, 3, none⟩ = some (.slice none 0 0) := (blk_cell BK723.out 3).trans rfl; have hcz34_4 : w31.cell? ⟨gb723, 4, none⟩ = some (.slice none 0 0) := (blk_cell BK723.out 4).trans rfl; have hcz34_5 : w31.cell? ⟨gb723, 5, none⟩ = some (.slice none 0 0) := (blk_cell BK723.out 5).trans rfl; have hfz34_0 := blk_frozen BK723.out 0; have hfz34_1 := blk_frozen BK723.out 1; have hfz34_2 := blk_frozen BK723.out 2; have hfz34_3 := blk_frozen BK723.out 3; have hfz34_4 := blk_frozen BK723.out 4; have hfz34_5 := blk_frozen BK723.out 5; obtain ⟨Ao35, co35, eo35⟩ := Kd.R_slice HO706.out; subst eo35; obtain ⟨Ao36, co36, eo36⟩ := Kd.R_slice HO709.out; subst eo36; obtain ⟨Ao37, co37, eo37⟩ := Kd.R_slice HO712.out; subst eo37; obtain ⟨Ao38, co38, eo38⟩ := Kd.R_slice HO715.out; subst eo38; obtain ⟨Ao39, co39, eo39⟩ := Kd.R_slice HO718.out; subst eo39))
     repeat (go_quiet (fail); try go_wp2)
     (try simp only [Act.put, List.setIfInBounds_toArray, List.set_cons_zero, List.set_cons_succ])
     refine flush_ (fun ws hws => ?_)
     have n0_ := (Kd.R_mono (Kd.R_far (p := ⟨gb723, 5, none⟩) (Kd.R_far (p := ⟨gb723, 4, none⟩) (Kd.R_far (p := ⟨gb723, 3, none⟩) (Kd.R_far (p := ⟨gb723, 2, none⟩) (Kd.R_far (p := ⟨gb723, 1, none⟩) (Kd.R_far (p := ⟨gb723, 0, none⟩) (Kd.R_types HO706.out BK723.out (by decide)) (fun _ hk => hk.2) (.int .i64 t703)) (fun _ hk => hk.2) (.slice Ao35 t704.length co35)) (fun _ hk => hk.2) (.slice Ao36 t707.length co36)) (fun _ hk => hk.2) (.slice Ao37 t710.length co37)) (fun _ hk => hk.2) (.slice Ao38 t713.length co38)) (fun _ hk => hk.2) (.slice Ao39 t716.length co39)) (fun _ h_ => h_.1))
     rw [← hws] at n0_
     replace n0_ := Aside0.mk n0_
     have n1_ := (Kd.R_mono (Kd.R_far (p := ⟨gb723, 5, none⟩) (Kd.R_far (p := ⟨gb723, 4, none⟩) (Kd.R_far (p := ⟨gb723, 3, none⟩) (Kd.R_far (p := ⟨gb723, 2, none⟩) (Kd.R_far (p := ⟨gb723, 1, none⟩) (Kd.R_far (p := ⟨gb723, 0, none⟩) (Kd.R_types HO709.out BK723.out (by decide)) (fun _ hk => hk.2) (.int .i64 t703)) (fun _ hk => hk.2) (.slice Ao35 t704.length co35)) (fun _ hk => hk.2) (.slice Ao36 t707.length co36)) (fun _ hk => hk.2) (.slice Ao37 t710.length co37)) (fun _ hk => hk.2) (.slice Ao38 t713.length co38)) (fun _ hk => hk.2) (.slice Ao39 t716.length co39)) (fun _ h_ => h_.1))
     rw [← hws] at n1_
     replace n1_ := Aside0.mk n1_
     have n2_ := (Kd.R_mono (Kd.R_far (p := ⟨gb723, 5, none⟩) (Kd.R_far (p := ⟨gb723, 4, none⟩) (Kd.R_far (p := ⟨gb723, 3, none⟩) (Kd.R_far (p := ⟨gb723, 2, none⟩) (Kd.R_far (p := ⟨gb723, 1, none⟩) (Kd.R_far (p := ⟨gb723, 0, none⟩) (Kd.R_types HO712.out BK723.out (by decide)) (fun _ hk => hk.2) (.int .i64 t703)) (fun _ hk => hk.2) (.slice Ao35 t704.length co35)) (fun _ hk => hk.2) (.slice Ao36 t707.length co36)) (fun _ hk => hk.2) (.slice Ao37 t710.length co37)) (fun _ hk => hk.2) (.slice Ao38 t713.length co38)) (fun _ hk => hk.2) (.slice Ao39 t716.length co39)) (fun _ h_ => h_.1))
     rw [← hws] at n2_
     replace n2_ := Aside0.mk n2_
     have n3_ := (Kd.R_mono (Kd.R_far (p := ⟨gb723, 5, none⟩) (Kd.R_far (p := ⟨gb723, 4, none⟩) (Kd.R_far (p := ⟨gb723, 3, none⟩) (Kd.R_far (p := ⟨gb723, 2, none⟩) (Kd.R_far (p := ⟨gb723, 1, none⟩) (Kd.R_far (p := ⟨gb723, 0, none⟩) (Kd.R_types HO715.out BK723.out (by decide)) (fun _ hk => hk.2) (.int .i64 t703)) (fun _ hk => hk.2) (.slice Ao35 t704.length co35)) (fun _ hk => hk.2) (.slice Ao36 t707.length co36)) (fun _ hk => hk.2) (.slice Ao37 t710.length co37)) (fun _ hk => hk.2) (.slice Ao38 t713.length co38)) (fun _ hk => hk.2) (.slice Ao39 t716.length co39)) (fun _ h_ => h_.1))
     rw [← hws] at n3_
     replace n3_ := Aside0.mk n3_
     have n4_ := (Kd.R_mono (Kd.R_far (p := ⟨gb723, 5, none⟩) (Kd.R_far (p := ⟨gb723, 4, none⟩) (Kd.R_far (p := ⟨gb723, 3, none⟩) (Kd.R_far (p := ⟨gb723, 2, none⟩) (Kd.R_far (p := ⟨gb723, 1, none⟩) (Kd.R_far (p := ⟨gb723, 0, none⟩) (Kd.R_types HO718.out BK723.out (by decide)) (fun _ hk => hk.2) (.int .i64 t703)) (fun _ hk => hk.2) (.slice Ao35 t704.length co35)) (fun _ hk => hk.2) (.slice Ao36 t707.length co36)) (fun _ hk => hk.2) (.slice Ao37 t710.length co37)) (fun _ hk => hk.2) (.slice Ao38 t713.length co38)) (fun _ hk => hk.2) (.slice Ao39 t716.length co39)) (fun _ h_ => h_.1))
     rw [← hws] at n4_
     replace n4_ := Aside0.mk n4_
     have n5_ := (Kd.R_mono (Kd.R_far (p := ⟨gb723, 5, none⟩) (Kd.R_far (p := ⟨gb723, 4, none⟩) (Kd.R_far (p := ⟨gb723, 3, none⟩) (Kd.R_far (p := ⟨gb723, 2, none⟩) (Kd.R_far (p := ⟨gb723, 1, none⟩) (Kd.R_far (p := ⟨gb723, 0, none⟩) (Kd.R_types HO721.out BK723.out (by decide)) (fun _ hk => hk.2) (.int .i64 t703)) (fun _ hk => hk.2) (.slice Ao35 t704.length co35)) (fun _ hk => hk.2) (.slice Ao36 t707.length co36)) (fun _ hk => hk.2) (.slice Ao37 t710.length co37)) (fun _ hk => hk.2) (.slice Ao38 t713.length co38)) (fun _ hk => hk.2) (.slice Ao39 t716.length co39)) (fun _ h_ => h_.1))
     rw [← hws] at n5_
     replace n5_ := Aside0.mk n5_
     have n6_ := Aside0.mk (show ws.heap[gb698]? = some (.cells #[.int .i64 a0_0, .slice A0_1 l0_1.length c0_1, .slice A0_2 l0_2.length c0_2, .slice A0_3 l0_3.length c0_3, .slice A0_4 l0_4.length c0_4, .slice A0_5 l0_5.length c0_5] 26 (0, 0)) from by rw [hws]; (with_reducible repeat (first | refine blk_drewN ?_ _ | refine blk_drew ?_ | refine blk_alloc ?_ _)); refine blk_far ?_ NB698_723.out _; (with_reducible repeat (first | refine blk_drewN ?_ _ | refine blk_drew ?_ | refine blk_alloc ?_ _)); refine blk_far ?_ NB698_723.out _; (with_reducible repeat (first | refine blk_drewN ?_ _ | refine blk_drew ?_ | refine blk_alloc ?_ _)); refine blk_far ?_ NB698_723.out _; (with_reducible repeat (first | refine blk_drewN ?_ _ | refine blk_drew ?_ | refine blk_alloc ?_ _)); refine blk_far ?_ NB698_723.out _; (with_reducible repeat (first | refine blk_drewN ?_ _ | refine blk_drew ?_ | refine blk_alloc ?_ _)); refine blk_far ?_ NB698_723.out _; (with_reducible repeat (first | refine blk_drewN ?_ _ | refine blk_drew ?_ | refine blk_alloc ?_ _)); refine blk_far ?_ NB698_723.out _; exact BK698.out)
     have n7_ := Aside0.mk (show ws.heap[gb699]? = some (.cells #[.int .i64 a1_0, .slice A1_1 l1_1.length c1_1, .slice A1_2 l1_2.length c1_2] 31 (0, 0)) from by rw [hws]; (with_reducible repeat (first | refine blk_drewN ?_ _ | refine blk_drew ?_ | refine blk_alloc ?_ _)); refine blk_far ?_ NB699_723.out _; (with_reducible repeat (first | refine blk_drewN ?_ _ | refine blk_drew ?_ | refine blk_alloc ?_ _)); refine blk_far ?_ NB699_723.out _; (with_reducible repeat (first | refine blk_drewN ?_ _ | refine blk_drew ?_ | refine blk_alloc ?_ _)); refine blk_far ?_ NB699_723.out _; (with_reducible repeat (first | refine blk_drewN ?_ _ | refine blk_drew ?_ | refine blk_alloc ?_ _)); refine blk_far ?_ NB699_723.out _; (with_reducible repeat (first | refine blk_drewN ?_ _ | refine blk_drew ?_ | refine blk_alloc ?_ _)); refine blk_far ?_ NB699_723.out _; (with_reducible repeat (first | refine blk_drewN ?_ _ | refine blk_drew ?_ | refine blk_alloc ?_ _)); refine blk_far ?_ NB699_723.out _; exact BK699.out)
     have n8_ := Aside0.mk (show ws.heap[gb723]? = some (.cells #[.int .i64 t703, .slice Ao35 t704.length co35, .slice Ao36 t707.length co36, .slice Ao37 t710.length co37, .slice Ao38 t713.length co38, .slice Ao39 t716.length co39] 26 (0, 0)) from by rw [hws]; (with_reducible repeat (first | refine blk_drewN ?_ _ | refine blk_drew ?_ | refine blk_alloc ?_ _)); refine blk_put (cs := #[.int .i64 t703, .slice Ao35 t704.length co35, .slice Ao36 t707.length co36, .slice Ao37 t710.length co37, .slice Ao38 t713.length co38, .slice none 0 0]) ?_ 5 _ rfl; (with_reducible repeat (first | refine blk_drewN ?_ _ | refine blk_drew ?_ | refine blk_alloc ?_ _)); refine blk_put (cs := #[.int .i64 t703, .slice Ao35 t704.length co35, .slice Ao36 t707.length co36, .slice Ao37 t710.length co37, .slice none 0 0, .slice none 0 0]) ?_ 4 _ rfl; (with_reducible repeat (first | refine blk_drewN ?_ _ | refine blk_drew ?_ | refine blk_alloc ?_ _)); refine blk_put (cs := #[.int .i64 t703, .slice Ao35 t704.length co35, .slice Ao36 t707.length co36, .slice none 0 0, .slice none 0 0, .slice none 0 0]) ?_ 3 _ rfl; (with_reducible repeat (first | refine blk_drewN ?_ _ | refine blk_drew ?_ | refine blk_alloc ?_ _)); refine blk_put (cs := #[.int .i64 t703, .slice Ao35 t704.length co35, .slice none 0 0, .slice none 0 0, .slice none 0 0, .slice none 0 0]) ?_ 2 _ rfl; (with_reducible repeat (first | refine blk_drewN ?_ _ | refine blk_drew ?_ | refine blk_alloc ?_ _)); refine blk_put (cs := #[.int .i64 t703, .slice none 0 0, .slice none 0 0, .slice none 0 0, .slice none 0 0, .slice none 0 0]) ?_ 1 _ rfl; (with_reducible repeat (first | refine blk_drewN ?_ _ | refine blk_drew ?_ | refine blk_alloc ?_ _)); refine blk_put (cs := #[.int .i64 0, .slice none 0 0, .slice none 0 0, .slice none 0 0, .slice none 0 0, .slice none 0 0]) ?_ 0 _ rfl; exact BK723.out)
     have n9_ := Aside0.mk (show Below w.heap.size w ws from by rw [hws]; repeat (first | (with_reducible first | exact HB.out | apply below_alloc | apply pw_below_drewN | apply below_drew1 | refine below_set ?_ GE698.out | refine below_set ?_ GE699.out | refine below_set ?_ GE723.out) | exact HB.out))
     clear HO706
     clear HO709
     clear HO712
     clear HO715
     clear HO718
     clear HO721
     clear BK698
     clear BK699
     clear BK723
     clear HB
     have HO706 := n0_
     have HO709 := n1_
     have HO712 := n2_
     have HO715 := n3_
     have HO718 := n4_
     have HO721 := n5_
     have BK698 := n6_
     have BK699 := n7_
     have BK723 := n8_
     have HB := n9_
     clear n0_ n1_ n2_ n3_ n4_ n5_ n6_ n7_ n8_ n9_
     clear hws
     go_cut [55] (fun v55 wc => ∃ (kq : Nat) (x55_26 : Bool), v55 = .bool x55_26 ∧ Aside0 (inquestlaw24_StrashRuns.j1 kq t719 x55_26 a0_0 l0_1 l0_2 l0_3 l0_4 l0_5 a1_0 l1_1 l1_2 t703 t704 t707 t710 t713 t716 = some r) ∧ Aside0 (kq ≤ kj2) ∧ Aside0 (Kd.R (Kd.int .u32) 39 wc w.heap.size (fun k_ => some k_ ≠ ((.slice Ao37 t710.length co37) : Value).ownBlock ∧ some k_ ≠ ((.slice Ao38 t713.length co38) : Value).ownBlock ∧ some k_ ≠ ((.slice Ao39 t716.length co39) : Value).ownBlock) v720 t719) ∧ Aside0 (Kd.R k41 41 wc w.heap.size (fun _ => True) (.slice Ao35 t704.length co35) t704) ∧ Aside0 (Kd.R k68 68 wc w.heap.size (fun _ => True) (.slice Ao36 t707.length co36) t707) ∧ Aside0 (Kd.R (Kd.int .u32) 39 wc w.heap.size (fun k_ => some k_ ≠ (v720 : Value).ownBlock ∧ some k_ ≠ ((.slice Ao38 t713.length co38) : Value).ownBlock ∧ some k_ ≠ ((.slice Ao39 t716.length co39) : Value).ownBlock) (.slice Ao37 t710.length co37) t710) ∧ Aside0 (Kd.R (Kd.int .u32) 39 wc w.heap.size (fun k_ => some k_ ≠ (v720 : Value).ownBlock ∧ some k_ ≠ ((.slice Ao37 t710.length co37) : Value).ownBlock ∧ some k_ ≠ ((.slice Ao39 t716.length co39) : Value).ownBlock) (.slice Ao38 t713.length co38) t713) ∧ Aside0 (Kd.R (Kd.int .u32) 39 wc w.heap.size (fun k_ => some k_ ≠ (v720 : Value).ownBlock ∧ some k_ ≠ ((.slice Ao37 t710.length co37) : Value).ownBlock ∧ some k_ ≠ ((.slice Ao38 t713.length co38) : Value).ownBlock) (.slice Ao39 t716.length co39) t716) ∧ Aside0 (wc.heap[gb698]? = some (.cells #[.int .i64 a0_0, (.slice A0_1 l0_1.length c0_1), (.slice A0_2 l0_2.length c0_2), (.slice A0_3 l0_3.length c0_3), (.slice A0_4 l0_4.length c0_4), (.slice A0_5 l0_5.length c0_5)] 26 (0, 0))) ∧ Aside0 (wc.heap[gb699]? = some (.cells #[.int .i64 a1_0, (.slice A1_1 l1_1.length c1_1), (.slice A1_2 l1_2.length c1_2)] 31 (0, 0))) ∧ Aside0 (wc.heap[gb723]? = some (.cells #[.int .i64 t703, (.slice Ao35 t704.length co35), (.slice Ao36 t707.length co36), (.slice Ao37 t710.length co37), (.slice Ao38 t713.length co38), (.slice Ao39 t716.length co39)] 26 (0, 0))) ∧ Aside0 (Below w.heap.size w wc))
     case first =>
      have H := HC27.out
      clear HC27
      by_cases c40 : t722 = 0
      ·
       rw [if_pos c40] at H
       have c40b0 : (t722 == 0) = true := beq_iff_eq.mpr c40
       have c40b1 : (t722 != 0) = false := bne_eq_false_iff_eq.mpr c40
       clear c40
       (first | rw [c40b0] | (simp only [i64_w, i32_w]; rw [c40b0]) | skip)
       replace H := Option.bind_eq_some_iff.mp H
       obtain ⟨t724, A410, H⟩ := H
       replace H : (if (t719.length : Int) = (wrap64 (t724 + 1)) then ((inquestref03_Fits.f kj2 t703 t704 t707 t710 t713 t716 a1_0 l1_1 l1_2).bind fun t725 => (inquestlaw24_StrashRuns.j1 kj2 t719 (!t725) a0_0 l0_1 l0_2 l0_3 l0_4 l0_5 a1_0 l1_1 l1_2 t703 t704 t707 t710 t713 t716)) else (inquestlaw24_StrashRuns.j1 kj2 t719 true a0_0 l0_1 l0_2 l0_3 l0_4 l0_5 a1_0 l1_1 l1_2 t703 t704 t707 t710 t713 t716)) = some r := H
       have A41 := Aside0.mk A410
       clear A410
       by_cases c42 : (t719.length : Int) = (wrap64 (t724 + 1))
       ·
        rw [if_pos c42] at H
        have c42b0 : ((t719.length : Int) == (wrap64 (t724 + 1))) = true := beq_iff_eq.mpr c42
        have c42b1 : ((t719.length : Int) != (wrap64 (t724 + 1))) = false := bne_eq_false_iff_eq.mpr c42
        clear c42
        replace H := Option.bind_eq_some_iff.mp H
        obtain ⟨t725, A430, H⟩ := H
        replace H : (inquestlaw24_StrashRuns.j1 kj2 t719 (!t725) a0_0 l0_1 l0_2 l0_3 l0_4 l0_5 a1_0 l1_1 l1_2 t703 t704 t707 t710 t713 t716) = some r := H
        have A43 := Aside0.mk A430
        clear A430
        have H' := Aside0.mk H
        clear H
        obtain ⟨Ao44, co44, eo44⟩ := Kd.R_slice HO721.out
        subst eo44
        have hnb45 := NB698_699.out
        have hnc45 := NB699_698.out
        have hnb46 := NB698_723.out
        have hnc46 := NB723_698.out
        have hcz47_0 : ws.cell? ⟨gb698, 0, none⟩ = some (.int .i64 a0_0) := (blk_cell BK698.out 0).trans rfl
        have hcz47_1 : ws.cell? ⟨gb698, 1, none⟩ = some (.slice A0_1 l0_1.length c0_1) := (blk_cell BK698.out 1).trans rfl
        have hcz47_2 : ws.cell? ⟨gb698, 2, none⟩ = some (.slice A0_2 l0_2.length c0_2) := (blk_cell BK698.out 2).trans rfl
        have hcz47_3 : ws.cell? ⟨gb698, 3, none⟩ = some (.slice A0_3 l0_3.length c0_3) := (blk_cell BK698.out 3).trans rfl
        have hcz47_4 : ws.cell? ⟨gb698, 4, none⟩ = some (.slice A0_4 l0_4.length c0_4) := (blk_cell BK698.out 4).trans rfl
        have hcz47_5 : ws.cell? ⟨gb698, 5, none⟩ = some (.slice A0_5 l0_5.length c0_5) := (blk_cell BK698.out 5).trans rfl
        have hfz47_0 := blk_frozen BK698.out 0
        have hfz47_1 := blk_frozen BK698.out 1
        have hfz47_2 := blk_frozen BK698.out 2
        have hfz47_3 := blk_frozen BK698.out 3
        have hfz47_4 := blk_frozen BK698.out 4
        have hfz47_5 := blk_frozen BK698.out 5
        go_wp2_with (first | (go_at_call 27; (with_reducible refine (inquestref03_Vars.calls kj2 a0_0 _ _ l0_1 _ _ l0_2 _ _ l0_3 _ _ l0_4 _ _ l0_5 t724 _ ?side1 ?side2 ?side3 ?side4 ?side5 ?side6 ?side7 ?side8 ?side9 ?side10 A41.out).mono ?_); (case side1 => exact Kd.C_below HR0_1.out (by exact HB.out)); (case side2 => exact HC0_1.out); (case side3 => exact Kd.C_below HR0_2.out (by exact HB.out)); (case side4 => exact HC0_2.out); (case side5 => exact Kd.C_below HR0_3.out (by exact HB.out)); (case side6 => exact HC0_3.out); (case side7 => exact Kd.C_below HR0_4.out (by exact HB.out)); (case side8 => exact HC0_4.out); (case side9 => exact Kd.C_below HR0_5.out (by exact HB.out)); (case side10 => exact HC0_5.out); rintro e w48 ⟨rfl, hb⟩; have n0_ := Aside0.mk (Kd.R_below (by exact HO706.out) hb); have n1_ := Aside0.mk (Kd.R_below (by exact HO709.out) hb); have n2_ := Aside0.mk (Kd.R_below (by exact HO712.out) hb); have n3_ := Aside0.mk (Kd.R_below (by exact HO715.out) hb); have n4_ := Aside0.mk (Kd.R_below (by exact HO718.out) hb); have n5_ := Aside0.mk (Kd.R_below (by exact HO721.out) hb); have n6_ := Aside0.mk (blk_below (g := gb698) (o := .cells #[.int .i64 a0_0, .slice A0_1 l0_1.length c0_1, .slice A0_2 l0_2.length c0_2, .slice A0_3 l0_3.length c0_3, .slice A0_4 l0_4.length c0_4, .slice A0_5 l0_5.length c0_5] 26 (0, 0)) (by exact BK698.out) hb); have n7_ := Aside0.mk (blk_below (g := gb699) (o := .cells #[.int .i64 a1_0, .slice A1_1 l1_1.length c1_1, .slice A1_2 l1_2.length c1_2] 31 (0, 0)) (by exact BK699.out) hb); have n8_ := Aside0.mk (blk_below (g := gb723) (o := .cells #[.int .i64 t703, .slice Ao35 t704.length co35, .slice Ao36 t707.length co36, .slice Ao37 t710.length co37, .slice Ao38 t713.length co38, .slice Ao39 t716.length co39] 26 (0, 0)) (by exact BK723.out) hb); have n9_ := Aside0.mk (below_step (by exact HB.out) hb); clear HO706; clear HO709; clear HO712; clear HO715; clear HO718; clear HO721; clear BK698; clear BK699; clear BK723; clear HB; have HO706 := n0_; have HO709 := n1_; have HO712 := n2_; have HO715 := n3_; have HO718 := n4_; have HO721 := n5_; have BK698 := n6_; have BK699 := n7_; have BK723 := n8_; have HB := n9_; clear n0_ n1_ n2_ n3_ n4_ n5_ n6_ n7_ n8_ n9_; (try clear hb); (try clear hb2); (try clear hk); (try clear hi); have hnb49 := NB723_699.out; have hnc49 := NB699_723.out; have hcz50_0 : w48.cell? ⟨gb723, 0, none⟩ = some (.int .i64 t703) := (blk_cell BK723.out 0).trans rfl; have hcz50_1 : w48.cell? ⟨gb723, 1, none⟩ = some (.slice Ao35 t704.length co35) := (blk_cell BK723.out 1).trans rfl; have hcz50_2 : w48.cell? ⟨gb723, 2, none⟩ = some (.slice Ao36 t707.length co36) := (blk_cell BK723.out 2).trans rfl; have hcz50_3 : w48.cell? ⟨gb723, 3, none⟩ = some (.slice Ao37 t710.length co37) := (blk_cell BK723.out 3).trans rfl; have hcz50_4 : w48.cell? ⟨gb723, 4, none⟩ = some (.slice Ao38 t713.length co38) := (blk_cell BK723.out 4).trans rfl; have hcz50_5 : w48.cell? ⟨gb723, 5, none⟩ = some (.slice Ao39 t716.length co39) := (blk_cell BK723.out 5).trans rfl; have hfz50_0 := blk_frozen BK723.out 0; have hfz50_1 := blk_frozen BK723.out 1; have hfz50_2 := blk_frozen BK723.out 2; have hfz50_3 := blk_frozen BK723.out 3; have hfz50_4 := blk_frozen BK723.out 4; have hfz50_5 := blk_frozen BK723.out 5; have hcz51_0 : w48.cell? ⟨gb699, 0, none⟩ = some (.int .i64 a1_0) := (blk_cell BK699.out 0).trans rfl; have hcz51_1 : w48.cell? ⟨gb699, 1, none⟩ = some (.slice A1_1 l1_1.length c1_1) := (blk_cell BK699.out 1).trans rfl; have hcz51_2 : w48.cell? ⟨gb699, 2, none⟩ = some (.slice A1_2 l1_2.length c1_2) := (blk_cell BK699.out 2).trans rfl; have hfz51_0 := blk_frozen BK699.out 0; have hfz51_1 := blk_frozen BK699.out 1; have hfz51_2 := blk_frozen BK699.out 2) | (go_at_call 48; (with_reducible refine (inquestref03_Fits.calls kj2 t703 _ _ t704 _ _ t707 _ _ t710 _ _ t713 _ _ t716 a1_0 _ _ l1_1 _ _ l1_2 t725 _ ?side1 ?side2 ?side3 ?side4 ?side5 ?side6 ?side7 ?side8 ?side9 ?side10 ?side11 ?side12 ?side13 ?side14 A43.out).mono ?_); (case side1 => repeat (first | exact (Kd.R_reads' HO706.out).2.2 | (with_reducible refine Kd.C_alloc ?_ _) | (with_reducible refine Kd.C_drewN ?_ _) | (with_reducible refine Kd.C_drew ?_))); (case side2 => exact (Kd.R_reads' HO706.out).2.1); (case side3 => repeat (first | exact (Kd.R_reads' HO709.out).2.2 | (with_reducible refine Kd.C_alloc ?_ _) | (with_reducible refine Kd.C_drewN ?_ _) | (with_reducible refine Kd.C_drew ?_))); (case side4 => exact (Kd.R_reads' HO709.out).2.1); (case side5 => repeat (first | exact (Kd.R_reads' HO712.out).2.2 | (with_reducible refine Kd.C_alloc ?_ _) | (with_reducible refine Kd.C_drewN ?_ _) | (with_reducible refine Kd.C_drew ?_))); (case side6 => exact (Kd.R_reads' HO712.out).2.1); (case side7 => repeat (first | exact (Kd.R_reads' HO715.out).2.2 | (with_reducible refine Kd.C_alloc ?_ _) | (with_reducible refine Kd.C_drewN ?_ _) | (with_reducible refine Kd.C_drew ?_))); (case side8 => exact (Kd.R_reads' HO715.out).2.1); (case side9 => repeat (first | exact (Kd.R_reads' HO718.out).2.2 | (with_reducible refine Kd.C_alloc ?_ _) | (with_reducible refine Kd.C_drewN ?_ _) | (with_reducible refine Kd.C_drew ?_))); (case side10 => exact (Kd.R_reads' HO718.out).2.1); (case side11 => exact (Kd.C_below HR1_1.out HB.out)); (case side12 => exact HC1_1.out); (case side13 => exact (Kd.C_below HR1_2.out HB.out)); (case side14 => exact HC1_2.out); rintro e w52 ⟨rfl, hb⟩; have n0_ := Aside0.mk (Kd.R_below (by exact HO706.out) hb); have n1_ := Aside0.mk (Kd.R_below (by exact HO709.out) hb); have n2_ := Aside0.mk (Kd.R_below (by exact HO712.out) hb); have n3_ := Aside0.mk (Kd.R_below (by exact HO715.out) hb); have n4_ := Aside0.mk (Kd.R_below (by exact HO718.out) hb); have n5_ := Aside0.mk (Kd.R_below (by exact HO721.out) hb); have n6_ := Aside0.mk (blk_below (g := gb698) (o := .cells #[.int .i64 a0_0, .slice A0_1 l0_1.length c0_1, .slice A0_2 l0_2.length c0_2, .slice A0_3 l0_3.length c0_3, .slice A0_4 l0_4.length c0_4, .slice A0_5 l0_5.length c0_5] 26 (0, 0)) (by exact BK698.out) hb); have n7_ := Aside0.mk (blk_below (g := gb699) (o := .cells #[.int .i64 a1_0, .slice A1_1 l1_1.length c1_1, .slice A1_2 l1_2.length c1_2] 31 (0, 0)) (by exact BK699.out) hb); have n8_ := Aside0.mk (blk_below (g := gb723) (o := .cells #[.int .i64 t703, .slice Ao35 t704.length co35, .slice Ao36 t707.length co36, .slice Ao37 t710.length co37, .slice Ao38 t713.length co38, .slice Ao39 t716.length co39] 26 (0, 0)) (by exact BK723.out) hb); have n9_ := Aside0.mk (below_step (by exact HB.out) hb); clear HO706; clear HO709; clear HO712; clear HO715; clear HO718; clear HO721; clear BK698; clear BK699; clear BK723; clear HB; have HO706 := n0_; have HO709 := n1_; have HO712 := n2_; have HO715 := n3_; have HO718 := n4_; have HO721 := n5_; have BK698 := n6_; have BK699 := n7_; have BK723 := n8_; have HB := n9_; clear n0_ n1_ n2_ n3_ n4_ n5_ n6_ n7_ n8_ n9_; (try clear hb); (try clear hb2); (try clear hk); (try clear hi)))
        repeat (go_quiet (fail); try go_wp2)
        go_meet
        case rel => exact ⟨_, (!t725), (by first | rfl | (simp; done) | (simp [*]; done)), H', ⟨by have := HJ2.out; first | omega | exact Nat.le_refl _⟩, ⟨by exact HO721.out⟩, ⟨by exact HO706.out⟩, ⟨by exact HO709.out⟩, ⟨by exact Kd.R_mono HO712.out (fun _ hk => ⟨hk.2.2, ⟨hk.1, hk.2.1⟩⟩)⟩, ⟨by exact Kd.R_mono HO715.out (fun _ hk => ⟨hk.2.2, ⟨hk.1, hk.2.1⟩⟩)⟩, ⟨by exact Kd.R_mono HO718.out (fun _ hk => ⟨hk.2.2, ⟨hk.1, hk.2.1⟩⟩)⟩, ⟨by exact BK698.out⟩, ⟨by exact BK699.out⟩, ⟨by exact BK723.out⟩, ⟨by exact HB.out⟩⟩
       ·
        rw [if_neg c42] at H
        have c42b0 : ((t719.length : Int) == (wrap64 (t724 + 1))) = false := beq_eq_false_iff_ne.mpr c42
        have c42b1 : ((t719.length : Int) != (wrap64 (t724 + 1))) = true := bne_iff_ne.mpr c42
        have H' := Aside0.mk H
        exact absurd (hrt.out.symm.trans (inquestlaw24_StrashRuns.j1_no H'.out)) (by decide)
      ·
       rw [if_neg c40] at H
       have c40b0 : (t722 == 0) = false := beq_eq_false_iff_ne.mpr c40
       have c40b1 : (t722 != 0) = true := bne_iff_ne.mpr c40
       (first | rw [c40b0] | (simp only [i64_w, i32_w]; rw [c40b0]) | skip)
       have H' := Aside0.mk H
       exact absurd (hrt.out.symm.trans (inquestlaw24_StrashRuns.j1_no H'.out)) (by decide)
     case rest =>
      as_aux_lemma =>
       clear HC27
       try clear c1
       try clear c2
       try clear p2
       try clear c3
       try clear c4
       try clear c5
       try clear c6
       try clear p6
       try clear c7
       try clear c8
       try clear c11
       try clear c11b0
       try clear c11b1
       try clear c12
       try clear c17
       try clear c23
       try clear c28
       try clear c32
       try clear c33
       try clear c40
       try clear c40b0
       try clear c40b1
       try clear c42
       try clear c42b0
       try clear c42b1
       try clear c45
       try clear c46
       try clear c49
       try clear c54
       try clear c55
       try clear hcz13_0
       try clear hcz13_1
       try clear hcz13_2
       try clear hcz13_3
       try clear hcz13_4
       try clear hcz13_5
       try clear hcz15_0
       try clear hcz15_1
       try clear hcz15_2
       try clear hcz18_0
       try clear hcz18_1
       try clear hcz18_2
       try clear hcz18_3
       try clear hcz18_4
       try clear hcz18_5
       try clear hcz20_0
       try clear hcz20_1
       try clear hcz20_2
       try clear hcz21_0
       try clear hcz21_1
       try clear hcz21_2
       try clear hcz21_3
       try clear hcz21_4
       try clear hcz21_5
       try clear hcz29_0
       try clear hcz29_1
       try clear hcz29_2
       try clear hcz29_3
       try clear hcz29_4
       try clear hcz29_5
       try clear hcz34_0
       try clear hcz34_1
       try clear hcz34_2
       try clear hcz34_3
       try clear hcz34_4
       try clear hcz34_5
       try clear hcz47_0
       try clear hcz47_1
       try clear hcz47_2
       try clear hcz47_3
       try clear hcz47_4
       try clear hcz47_5
       try clear hcz50_0
       try clear hcz50_1
       try clear hcz50_2
       try clear hcz50_3
       try clear hcz50_4
       try clear hcz50_5
       try clear hcz51_0
       try clear hcz51_1
       try clear hcz51_2
       try clear hcz56_0
       try clear hcz56_1
       try clear hcz56_2
       try clear hcz56_3
       try clear hcz56_4
       try clear hcz56_5
       try clear hcz9_0
       try clear hcz9_1
       try clear hcz9_2
       try clear hcz9_3
       try clear hcz9_4
       try clear hcz9_5
       try clear hfz13_0
       try clear hfz13_1
       try clear hfz13_2
       try clear hfz13_3
       try clear hfz13_4
       try clear hfz13_5
       try clear hfz15_0
       try clear hfz15_1
       try clear hfz15_2
       try clear hfz18_0
       try clear hfz18_1
       try clear hfz18_2
       try clear hfz18_3
       try clear hfz18_4
       try clear hfz18_5
       try clear hfz20_0
       try clear hfz20_1
       try clear hfz20_2
       try clear hfz21_0
       try clear hfz21_1
       try clear hfz21_2
       try clear hfz21_3
       try clear hfz21_4
       try clear hfz21_5
       try clear hfz29_0
       try clear hfz29_1
       try clear hfz29_2
       try clear hfz29_3
       try clear hfz29_4
       try clear hfz29_5
       try clear hfz34_0
       try clear hfz34_1
       try clear hfz34_2
       try clear hfz34_3
       try clear hfz34_4
       try clear hfz34_5
       try clear hfz47_0
       try clear hfz47_1
       try clear hfz47_2
       try clear hfz47_3
       try clear hfz47_4
       try clear hfz47_5
       try clear hfz50_0
       try clear hfz50_1
       try clear hfz50_2
       try clear hfz50_3
       try clear hfz50_4
       try clear hfz50_5
       try clear hfz51_0
       try clear hfz51_1
       try clear hfz51_2
       try clear hfz56_0
       try clear hfz56_1
       try clear hfz56_2
       try clear hfz56_3
       try clear hfz56_4
       try clear hfz56_5
       try clear hfz9_0
       try clear hfz9_1
       try clear hfz9_2
       try clear hfz9_3
       try clear hfz9_4
       try clear hfz9_5
       try clear p2
       obtain ⟨kq, x55_26, rfl, HA, HJ26, HO_6, HO_724001, HO_724002, HO_724003, HO_724004, HO_724005, BK698, BK699, BK723, HB⟩ := hcut
       cases kq with
       | zero => exact absurd HA.out (by simp [inquestlaw24_StrashRuns.j1])
       | succ kj26 =>
        have H := HA.out
        clear HA
        simp only [inquestlaw24_StrashRuns.j1] at H
        by_cases c58 : x55_26 = true
        ·
         subst c58
         have H1 : (some false) = some r := by rw [if_pos rfl] at H; exact H
         clear H
         have H := H1
         clear H1
         exact absurd (hrt.out.symm.trans (Option.some.inj H).symm) (by decide)
        ·
         replace c58 := Bool.eq_false_iff.mpr c58
         subst c58
         have H1 : ((inquestref07_Run.f kj26 a0_0 l0_1 l0_2 l0_3 l0_4 l0_5 a1_0 l1_1 l1_2).bind fun bt726 => ((inquestref07_Run.f kj26 t703 t704 t707 t710 t713 t716 a1_0 l1_1 l1_2).bind fun bt730 => (inquestlaw24_StrashRuns.l0 kj26 t719 bt726.1 bt730.1 (bt726.1.length : Int) 0 a0_0 l0_1 l0_2 l0_3 l0_4 l0_5 a1_0 l1_1 l1_2 t703 t704 t707 t710 t713 t716))) = some r := by rw [if_neg (show ¬ (false = true) by decide)] at H; exact H
         clear H
         have H := H1
         clear H1
         replace H := Option.bind_eq_some_iff.mp H
         obtain ⟨⟨t726, t729⟩, A590, H⟩ := H
         replace H : ((inquestref07_Run.f kj26 t703 t704 t707 t710 t713 t716 a1_0 l1_1 l1_2).bind fun bt730 => (inquestlaw24_StrashRuns.l0 kj26 t719 t726 bt730.1 (t726.length : Int) 0 a0_0 l0_1 l0_2 l0_3 l0_4 l0_5 a1_0 l1_1 l1_2 t703 t704 t707 t710 t713 t716)) = some r := H
         have A59 := Aside0.mk A590
         clear A590
         replace H := Option.bind_eq_some_iff.mp H
         obtain ⟨⟨t730, t733⟩, A600, H⟩ := H
         replace H : (inquestlaw24_StrashRuns.l0 kj26 t719 t726 t730 (t726.length : Int) 0 a0_0 l0_1 l0_2 l0_3 l0_4 l0_5 a1_0 l1_1 l1_2 t703 t704 t707 t710 t713 t716) = some r := H
         have A60 := Aside0.mk A600
         clear A600
         have H' := Aside0.mk H
         clear H
         have hnb61 := NB698_699.out
         have hnc61 := NB699_698.out
         have hnb62 := NB698_723.out
         have hnc62 := NB723_698.out
         have hcz63_0 : wc.cell? ⟨gb698, 0, none⟩ = some (.int .i64 a0_0) := (blk_cell BK698.out 0).trans rfl
         have hcz63_1 : wc.cell? ⟨gb698, 1, none⟩ = some (.slice A0_1 l0_1.length c0_1) := (blk_cell BK698.out 1).trans rfl
         have hcz63_2 : wc.cell? ⟨gb698, 2, none⟩ = some (.slice A0_2 l0_2.length c0_2) := (blk_cell BK698.out 2).trans rfl
         have hcz63_3 : wc.cell? ⟨gb698, 3, none⟩ = some (.slice A0_3 l0_3.length c0_3) := (blk_cell BK698.out 3).trans rfl
         have hcz63_4 : wc.cell? ⟨gb698, 4, none⟩ = some (.slice A0_4 l0_4.length c0_4) := (blk_cell BK698.out 4).trans rfl
         have hcz63_5 : wc.cell? ⟨gb698, 5, none⟩ = some (.slice A0_5 l0_5.length c0_5) := (blk_cell BK698.out 5).trans rfl
         have hfz63_0 := blk_frozen BK698.out 0
         have hfz63_1 := blk_frozen BK698.out 1
         have hfz63_2 := blk_frozen BK698.out 2
         have hfz63_3 := blk_frozen BK698.out 3
         have hfz63_4 := blk_frozen BK698.out 4
         have hfz63_5 := blk_frozen BK698.out 5
         have hnb64 := NB699_723.out
         have hnc64 := NB723_699.out
         have hcz65_0 : wc.cell? ⟨gb699, 0, none⟩ = some (.int .i64 a1_0) := (blk_cell BK699.out 0).trans rfl
         have hcz65_1 : wc.cell? ⟨gb699, 1, none⟩ = some (.slice A1_1 l1_1.length c1_1) := (blk_cell BK699.out 1).trans rfl
         have hcz65_2 : wc.cell? ⟨gb699, 2, none⟩ = some (.slice A1_2 l1_2.length c1_2) := (blk_cell BK699.out 2).trans rfl
         have hfz65_0 := blk_frozen BK699.out 0
         have hfz65_1 := blk_frozen BK699.out 1
         have hfz65_2 := blk_frozen BK699.out 2
         go_wp2_with (first | (go_at_call 49; (with_reducible refine (inquestref07_Run.calls kj26 a0_0 _ _ l0_1 _ _ l0_2 _ _ l0_3 _ _ l0_4 _ _ l0_5 a1_0 (fun k_ => k_ < w.heap.size) _ _ l1_1 _ _ l1_2 t726 t729 _ ?side1 ?side2 ?side3 ?side4 ?side5 ?side6 ?side7 ?side8 ?side9 ?side10 ?side11 ?side12 ?side13 A59.out).mono ?_); (case side1 => exact (Kd.C_below HR0_1.out HB.out)); (case side2 => exact HC0_1.out); (case side3 => exact (Kd.C_below HR0_2.out HB.out)); (case side4 => exact HC0_2.out); (case side5 => exact (Kd.C_below HR0_3.out HB.out)); (case side6 => exact HC0_3.out); (case side7 => exact (Kd.C_below HR0_4.out HB.out)); (case side8 => exact HC0_4.out); (case side9 => exact (Kd.C_below HR0_5.out HB.out)); (case side10 => exact HC0_5.out); (case side11 => exact Kd.V_mk HC1_1.out (Kd.F_below (Kd.C_F (Kd.heap_int .u8) HR1_1.out) (by exact HB.out))); (case side12 => exact (Kd.C_below HR1_2.out HB.out)); (case side13 => exact HC1_2.out); rintro e w66 ⟨v727, rfl, ho0, hb⟩; have n0_ := Aside0.mk (Kd.R_below (by exact HO_6.out) hb); have n1_ := Aside0.mk (Kd.R_below (by exact HO_724001.out) hb); have n2_ := Aside0.mk (Kd.R_below (by exact HO_724002.out) hb); have n3_ := Aside0.mk (Kd.R_below (by exact HO_724003.out) hb); have n4_ := Aside0.mk (Kd.R_below (by exact HO_724004.out) hb); have n5_ := Aside0.mk (Kd.R_below (by exact HO_724005.out) hb); have n6_ := Aside0.mk (Kd.S_lower (Kd.S_mono (ok' := fun k_ => True) ho0 (fun _ hk_ => trivial)) (below_size (by exact HB.out))); have n7_ := Aside0.mk (blk_below (g := gb698) (o := .cells #[.int .i64 a0_0, .slice A0_1 l0_1.length c0_1, .slice A0_2 l0_2.length c0_2, .slice A0_3 l0_3.length c0_3, .slice A0_4 l0_4.length c0_4, .slice A0_5 l0_5.length c0_5] 26 (0, 0)) (by exact BK698.out) hb); have n8_ := Aside0.mk (blk_below (g := gb699) (o := .cells #[.int .i64 a1_0, .slice A1_1 l1_1.length c1_1, .slice A1_2 l1_2.length c1_2] 31 (0, 0)) (by exact BK699.out) hb); have n9_ := Aside0.mk (blk_below (g := gb723) (o := .cells #[.int .i64 t703, .slice Ao35 t704.length co35, .slice Ao36 t707.length co36, .slice Ao37 t710.length co37, .slice Ao38 t713.length co38, .slice Ao39 t716.length co39] 26 (0, 0)) (by exact BK723.out) hb); have n10_ := Aside0.mk (below_step (by exact HB.out) hb); clear HO_6; clear HO_724001; clear HO_724002; clear HO_724003; clear HO_724004; clear HO_724005; clear BK698; clear BK699; clear BK723; clear HB; have HO_6 := n0_; have HO_724001 := n1_; have HO_724002 := n2_; have HO_724003 := n3_; have HO_724004 := n4_; have HO_724005 := n5_; have HO728 := n6_; have BK698 := n7_; have BK699 := n8_; have BK723 := n9_; have HB := n10_; clear n0_ n1_ n2_ n3_ n4_ n5_ n6_ n7_ n8_ n9_ n10_; (try clear hb); (try clear hb2); (try clear hk); (try clear hi); (try clear ho0); have hcz67_0 : w66.cell? ⟨gb723, 0, none⟩ = some (.int .i64 t703) := (blk_cell BK723.out 0).trans rfl; have hcz67_1 : w66.cell? ⟨gb723, 1, none⟩ = some (.slice Ao35 t704.length co35) := (blk_cell BK723.out 1).trans rfl; have hcz67_2 : w66.cell? ⟨gb723, 2, none⟩ = some (.slice Ao36 t707.length co36) := (blk_cell BK723.out 2).trans rfl; have hcz67_3 : w66.cell? ⟨gb723, 3, none⟩ = some (.slice Ao37 t710.length co37) := (blk_cell BK723.out 3).trans rfl; have hcz67_4 : w66.cell? ⟨gb723, 4, none⟩ = some (.slice Ao38 t713.length co38) := (blk_cell BK723.out 4).trans rfl; have hcz67_5 : w66.cell? ⟨gb723, 5, none⟩ = some (.slice Ao39 t716.length co39) := (blk_cell BK723.out 5).trans rfl; have hfz67_0 := blk_frozen BK723.out 0; have hfz67_1 := blk_frozen BK723.out 1; have hfz67_2 := blk_frozen BK723.out 2; have hfz67_3 := blk_frozen BK723.out 3; have hfz67_4 := blk_frozen BK723.out 4; have hfz67_5 := blk_frozen BK723.out 5; have hcz68_0 : w66.cell? ⟨gb699, 0, none⟩ = some (.int .i64 a1_0) := (blk_cell BK699.out 0).trans rfl; have hcz68_1 : w66.cell? ⟨gb699, 1, none⟩ = some (.slice A1_1 l1_1.length c1_1) := (blk_cell BK699.out 1).trans rfl; have hcz68_2 : w66.cell? ⟨gb699, 2, none⟩ = some (.slice A1_2 l1_2.length c1_2) := (blk_cell BK699.out 2).trans rfl; have hfz68_0 := blk_frozen BK699.out 0; have hfz68_1 := blk_frozen BK699.out 1; have hfz68_2 := blk_frozen BK699.out 2) | (go_at_call 49; (with_reducible refine (inquestref07_Run.calls kj26 t703 _ _ t704 _ _ t707 _ _ t710 _ _ t713 _ _ t716 a1_0 (fun k_ => k_ < w.heap.size) _ _ l1_1 _ _ l1_2 t730 t733 _ ?side1 ?side2 ?side3 ?side4 ?side5 ?side6 ?side7 ?side8 ?side9 ?side10 ?side11 ?side12 ?side13 A60.out).mono ?_); (case side1 => repeat (first | exact (Kd.R_reads' HO_724001.out).2.2 | (with_reducible refine Kd.C_alloc ?_ _) | (with_reducible refine Kd.C_drewN ?_ _) | (with_reducible refine Kd.C_drew ?_))); (case side2 => exact (Kd.R_reads' HO_724001.out).2.1); (case side3 => repeat (first | exact (Kd.R_reads' HO_724002.out).2.2 | (with_reducible refine Kd.C_alloc ?_ _) | (with_reducible refine Kd.C_drewN ?_ _) | (with_reducible refine Kd.C_drew ?_))); (case side4 => exact (Kd.R_reads' HO_724002.out).2.1); (case side5 => repeat (first | exact (Kd.R_reads' HO_724003.out).2.2 | (with_reducible refine Kd.C_alloc ?_ _) | (with_reducible refine Kd.C_drewN ?_ _) | (with_reducible refine Kd.C_drew ?_))); (case side6 => exact (Kd.R_reads' HO_724003.out).2.1); (case side7 => repeat (first | exact (Kd.R_reads' HO_724004.out).2.2 | (with_reducible refine Kd.C_alloc ?_ _) | (with_reducible refine Kd.C_drewN ?_ _) | (with_reducible refine Kd.C_drew ?_))); (case side8 => exact (Kd.R_reads' HO_724004.out).2.1); (case side9 => repeat (first | exact (Kd.R_reads' HO_724005.out).2.2 | (with_reducible refine Kd.C_alloc ?_ _) | (with_reducible refine Kd.C_drewN ?_ _) | (with_reducible refine Kd.C_drew ?_))); (case side10 => exact (Kd.R_reads' HO_724005.out).2.1); (case side11 => exact Kd.V_mk HC1_1.out (Kd.F_below (Kd.C_F (Kd.heap_int .u8) HR1_1.out) (by exact HB.out))); (case side12 => exact (Kd.C_below HR1_2.out HB.out)); (case side13 => exact HC1_2.out); rintro e w69 ⟨v731, rfl, ho0, hb⟩; have n0_ := Aside0.mk (Kd.R_below (by exact HO_6.out) hb); have n1_ := Aside0.mk (Kd.R_below (by exact HO_724001.out) hb); have n2_ := Aside0.mk (Kd.R_below (by exact HO_724002.out) hb); have n3_ := Aside0.mk (Kd.R_below (by exact HO_724003.out) hb); have n4_ := Aside0.mk (Kd.R_below (by exact HO_724004.out) hb); have n5_ := Aside0.mk (Kd.R_below (by exact HO_724005.out) hb); have n6_ := Aside0.mk (Kd.S_elder' (by exact HO728.out) (Kd.S_base ho0) hb); have n7_ := Aside0.mk (Kd.S_lower (Kd.S_new' (Kd.S_mono (ok' := fun k_ => True) ho0 (fun _ hk_ => trivial)) (Kd.S_lt (by exact HO728.out))) (below_size (by exact HB.out))); have n8_ := Aside0.mk (blk_below (g := gb698) (o := .cells #[.int .i64 a0_0, .slice A0_1 l0_1.length c0_1, .slice A0_2 l0_2.length c0_2, .slice A0_3 l0_3.length c0_3, .slice A0_4 l0_4.length c0_4, .slice A0_5 l0_5.length c0_5] 26 (0, 0)) (by exact BK698.out) hb); have n9_ := Aside0.mk (blk_below (g := gb699) (o := .cells #[.int .i64 a1_0, .slice A1_1 l1_1.length c1_1, .slice A1_2 l1_2.length c1_2] 31 (0, 0)) (by exact BK699.out) hb); have n10_ := Aside0.mk (blk_below (g := gb723) (o := .cells #[.int .i64 t703, .slice Ao35 t704.length co35, .slice Ao36 t707.length co36, .slice Ao37 t710.length co37, .slice Ao38 t713.length co38, .slice Ao39 t716.length co39] 26 (0, 0)) (by exact BK723.out) hb); have n11_ := Aside0.mk (below_step (by exact HB.out) hb); clear HO_6; clear HO_724001; clear HO_724002; clear HO_724003; clear HO_724004; clear HO_724005; clear HO728; clear BK698; clear BK699; clear BK723; clear HB; have HO_6 := n0_; have HO_724001 := n1_; have HO_724002 := n2_; have HO_724003 := n3_; have HO_724004 := n4_; have HO_724005 := n5_; have HO728 := n6_; have HO732 := n7_; have BK698 := n8_; have BK699 := n9_; have BK723 := n10_; have HB := n11_; clear n0_ n1_ n2_ n3_ n4_ n5_ n6_ n7_ n8_ n9_ n10_ n11_; (try clear hb); (try clear hb2); (try clear hk); (try clear hi); (try clear ho0); obtain ⟨Ao70, co70, eo70⟩ := Kd.S_slice HO728.out; subst eo70))
         repeat (go_quiet (fail); try go_wp2)
         go_loopg [70] kj26 (fun kq v70 w' => ∃ (x70_3 : Int), v70 = .int .i64 x70_3 ∧ Aside0 (inquestlaw24_StrashRuns.l0 kq t719 t726 t730 (t726.length : Int) x70_3 a0_0 l0_1 l0_2 l0_3 l0_4 l0_5 a1_0 l1_1 l1_2 t703 t704 t707 t710 t713 t716 = some r) ∧ Aside0 (kq ≤ kj26) ∧ Aside0 (Kd.R (Kd.int .u32) 39 w' w.heap.size (fun k_ => some k_ ≠ ((.slice Ao37 t710.length co37) : Value).ownBlock ∧ some k_ ≠ ((.slice Ao38 t713.length co38) : Value).ownBlock ∧ some k_ ≠ ((.slice Ao39 t716.length co39) : Value).ownBlock) v720 t719) ∧ Aside0 (Kd.S (Kd.slice 5 (Kd.int .u8)) 28 w' w.heap.size (fun k_ => some k_ ≠ (v731 : Value).ownBlock) (.slice Ao70 t726.length co70) t726) ∧ Aside0 (Kd.S (Kd.slice 5 (Kd.int .u8)) 28 w' w.heap.size (fun k_ => some k_ ≠ ((.slice Ao70 t726.length co70) : Value).ownBlock) v731 t730) ∧ Aside0 (Kd.R k41 41 w' w.heap.size (fun _ => True) (.slice Ao35 t704.length co35) t704) ∧ Aside0 (Kd.R k68 68 w' w.heap.size (fun _ => True) (.slice Ao36 t707.length co36) t707) ∧ Aside0 (Kd.R (Kd.int .u32) 39 w' w.heap.size (fun k_ => some k_ ≠ (v720 : Value).ownBlock ∧ some k_ ≠ ((.slice Ao38 t713.length co38) : Value).ownBlock ∧ some k_ ≠ ((.slice Ao39 t716.length co39) : Value).ownBlock) (.slice Ao37 t710.length co37) t710) ∧ Aside0 (Kd.R (Kd.int .u32) 39 w' w.heap.size (fun k_ => some k_ ≠ (v720 : Value).ownBlock ∧ some k_ ≠ ((.slice Ao37 t710.length co37) : Value).ownBlock ∧ some k_ ≠ ((.slice Ao39 t716.length co39) : Value).ownBlock) (.slice Ao38 t713.length co38) t713) ∧ Aside0 (Kd.R (Kd.int .u32) 39 w' w.heap.size (fun k_ => some k_ ≠ (v720 : Value).ownBlock ∧ some k_ ≠ ((.slice Ao37 t710.length co37) : Value).ownBlock ∧ some k_ ≠ ((.slice Ao38 t713.length co38) : Value).ownBlock) (.slice Ao39 t716.length co39) t716) ∧ Aside0 (w'.heap[gb698]? = some (.cells #[.int .i64 a0_0, (.slice A0_1 l0_1.length c0_1), (.slice A0_2 l0_2.length c0_2), (.slice A0_3 l0_3.length c0_3), (.slice A0_4 l0_4.length c0_4), (.slice A0_5 l0_5.length c0_5)] 26 (0, 0))) ∧ Aside0 (w'.heap[gb699]? = some (.cells #[.int .i64 a1_0, (.slice A1_1 l1_1.length c1_1), (.slice A1_2 l1_2.length c1_2)] 31 (0, 0))) ∧ Aside0 (w'.heap[gb723]? = some (.cells #[.int .i64 t703, (.slice Ao35 t704.length co35), (.slice Ao36 t707.length co36), (.slice Ao37 t710.length co37), (.slice Ao38 t713.length co38), (.slice Ao39 t716.length co39)] 26 (0, 0))) ∧ Aside0 (Below w.heap.size w w'))
         case atStart => exact ⟨(0), (by first | rfl | (simp; done) | (simp [*]; done)), H', ⟨Nat.le_refl _⟩, ⟨by exact HO_6.out⟩, ⟨by exact Kd.S_mono HO728.out (fun _ hk => hk.2)⟩, ⟨by exact Kd.S_mono HO732.out (fun _ hk => hk.2)⟩, ⟨by exact HO_724001.out⟩, ⟨by exact HO_724002.out⟩, ⟨by exact HO_724003.out⟩, ⟨by exact HO_724004.out⟩, ⟨by exact HO_724005.out⟩, ⟨by exact BK698.out⟩, ⟨by exact BK699.out⟩, ⟨by exact BK723.out⟩, ⟨by exact HB.out⟩⟩
         case round =>
          as_aux_lemma =>
           clear H'
           try clear c1
           try clear c2
           try clear p2
           try clear c3
           try clear c4
           try clear c5
           try clear c6
           try clear p6
           try clear c7
           try clear c8
           try clear c11
           try clear c11b0
           try clear c11b1
           try clear c12
           try clear c17
           try clear c23
           try clear c28
           try clear c32
           try clear c33
           try clear c40
           try clear c40b0
           try clear c40b1
           try clear c42
           try clear c42b0
           try clear c42b1
           try clear c45
           try clear c46
           try clear c49
           try clear c54
           try clear c55
           try clear c58
           try clear c61
           try clear c62
           try clear c64
           try clear p64
           try clear hcz13_0
           try clear hcz13_1
           try clear hcz13_2
           try clear hcz13_3
           try clear hcz13_4
           try clear hcz13_5
           try clear hcz15_0
           try clear hcz15_1
           try clear hcz15_2
           try clear hcz18_0
           try clear hcz18_1
           try clear hcz18_2
           try clear hcz18_3
           try clear hcz18_4
           try clear hcz18_5
           try clear hcz20_0
           try clear hcz20_1
           try clear hcz20_2
           try clear hcz21_0
           try clear hcz21_1
           try clear hcz21_2
           try clear hcz21_3
           try clear hcz21_4
           try clear hcz21_5
           try clear hcz29_0
           try clear hcz29_1
           try clear hcz29_2
           try clear hcz29_3
           try clear hcz29_4
           try clear hcz29_5
           try clear hcz34_0
           try clear hcz34_1
           try clear hcz34_2
           try clear hcz34_3
           try clear hcz34_4
           try clear hcz34_5
           try clear hcz47_0
           try clear hcz47_1
           try clear hcz47_2
           try clear hcz47_3
           try clear hcz47_4
           try clear hcz47_5
           try clear hcz50_0
           try clear hcz50_1
           try clear hcz50_2
           try clear hcz50_3
           try clear hcz50_4
           try clear hcz50_5
           try clear hcz51_0
           try clear hcz51_1
           try clear hcz51_2
           try clear hcz56_0
           try clear hcz56_1
           try clear hcz56_2
           try clear hcz56_3
           try clear hcz56_4
           try clear hcz56_5
           try clear hcz63_0
           try clear hcz63_1
           try clear hcz63_2
           try clear hcz63_3
           try clear hcz63_4
           try clear hcz63_5
           try clear hcz65_0
           try clear hcz65_1
           try clear hcz65_2
           try clear hcz67_0
           try clear hcz67_1
           try clear hcz67_2
           try clear hcz67_3
           try clear hcz67_4
           try clear hcz67_5
           try clear hcz68_0
           try clear hcz68_1
           try clear hcz68_2
           try clear hcz9_0
           try clear hcz9_1
           try clear hcz9_2
           try clear hcz9_3
           try clear hcz9_4
           try clear hcz9_5
           try clear hfz13_0
           try clear hfz13_1
           try clear hfz13_2
           try clear hfz13_3
           try clear hfz13_4
           try clear hfz13_5
           try clear hfz15_0
           try clear hfz15_1
           try clear hfz15_2
           try clear hfz18_0
           try clear hfz18_1
           try clear hfz18_2
           try clear hfz18_3
           try clear hfz18_4
           try clear hfz18_5
           try clear hfz20_0
           try clear hfz20_1
           try clear hfz20_2
           try clear hfz21_0
           try clear hfz21_1
           try clear hfz21_2
           try clear hfz21_3
           try clear hfz21_4
           try clear hfz21_5
           try clear hfz29_0
           try clear hfz29_1
           try clear hfz29_2
           try clear hfz29_3
           try clear hfz29_4
           try clear hfz29_5
           try clear hfz34_0
           try clear hfz34_1
           try clear hfz34_2
           try clear hfz34_3
           try clear hfz34_4
           try clear hfz34_5
           try clear hfz47_0
           try clear hfz47_1
           try clear hfz47_2
           try clear hfz47_3
           try clear hfz47_4
           try clear hfz47_5
           try clear hfz50_0
           try clear hfz50_1
           try clear hfz50_2
           try clear hfz50_3
           try clear hfz50_4
           try clear hfz50_5
           try clear hfz51_0
           try clear hfz51_1
           try clear hfz51_2
           try clear hfz56_0
           try clear hfz56_1
           try clear hfz56_2
           try clear hfz56_3
           try clear hfz56_4
           try clear hfz56_5
           try clear hfz63_0
           try clear hfz63_1
           try clear hfz63_2
           try clear hfz63_3
           try clear hfz63_4
           try clear hfz63_5
           try clear hfz65_0
           try clear hfz65_1
           try clear hfz65_2
           try clear hfz67_0
           try clear hfz67_1
           try clear hfz67_2
           try clear hfz67_3
           try clear hfz67_4
           try clear hfz67_5
           try clear hfz68_0
           try clear hfz68_1
           try clear hfz68_2
           try clear hfz9_0
           try clear hfz9_1
           try clear hfz9_2
           try clear hfz9_3
           try clear hfz9_4
           try clear hfz9_5
           try clear p2
           try clear p6
           obtain ⟨x70_3, rfl, HA, HK3, HO_6, HO_8, HO_10, HO_724001, HO_724002, HO_724003, HO_724004, HO_724005, BK698, BK699, BK723, HB⟩ := hrel
           cases gk with
           | zero => exact absurd HA.out (by simp [inquestlaw24_StrashRuns.l0])
           | succ k3 =>
            have H := HA.out
            clear HA
            simp only [inquestlaw24_StrashRuns.l0] at H
            by_cases c71 : x70_3 < (t726.length : Int)
            ·
             rw [if_pos c71] at H
             have c71b0 : decide (x70_3 < (t726.length : Int)) = true := decide_eq_true c71
             clear c71
             by_cases c72 : 0 ≤ x70_3
             ·
              rw [if_pos c72] at H
              have c72b0 : decide (0 ≤ x70_3) = true := decide_eq_true c72
              clear c72
              by_cases c73 : x70_3 < (t726.length : Int)
              ·
               rw [if_pos c73] at H
               have c73b0 : decide (x70_3 < (t726.length : Int)) = true := decide_eq_true c73
               clear c73
               have H' := Aside0.mk H
               clear H
               have p739 : 0 ≤ (x70_3 : Int) := of_decide_eq_true (by first | (with_reducible assumption) | assumption)
               have q739 : x70_3 < (t726.length : Int) := of_decide_eq_true (by first | (with_reducible assumption) | assumption)
               obtain ⟨ad739, A739_0, c739_0, e739, hx739_0, hl739_0, hi739_0⟩ := at_L9 (Kd.S_reads' HO_8.out).2.2 x70_3 p739 q739
               cases e739
               obtain ⟨ce739, hce739, hMe739, hcc739⟩ := Kd.S_get HO_8.out [] x70_3 p739 (by first | exact q739 | exact of_decide_eq_true (by first | (with_reducible assumption) | assumption) | (have e_ := (Kd.S_reads' HO_8.out).1; omega))
               obtain ⟨ve739_0, rfl, ge739_0⟩ := hMe739
               have hv739_0 := hcc739 0 _ rfl
               rw [Nat.add_zero, show ((Kd.slice 5 (Kd.int .u8))).sz = 1 from rfl, Nat.mul_one] at hv739_0
               replace hv739_0 := Option.some.inj (hv739_0.symm.trans hx739_0)
               rw [hv739_0] at ge739_0
               have HL739_0 := Aside0.mk (show Kd.R (Kd.int .u8) 5 _ _ _ _ (rd_L9 t726 x70_3) from ge739_0)
               clear hv739_0 ge739_0
               clear hcc739 hce739
               have HR739_0 := Aside0.mk hi739_0
               have HC739_0 := Aside0.mk hl739_0
               clear hi739_0 hl739_0
               replace p739 := eq_true p739
               replace q739 := eq_true q739
               go_wp2
               repeat (go_quiet (fail); try go_wp2)
               go_loopg [78] k3 (fun kq v78 w' => ∃ (x78_4 : Int), v78 = .int .i64 x78_4 ∧ Aside0 (inquestlaw24_StrashRuns.l1 kq t719 t726 t730 x70_3 (t726.length : Int) x70_3 ((rd_L9 t726 x70_3).length : Int) x78_4 a0_0 l0_1 l0_2 l0_3 l0_4 l0_5 a1_0 l1_1 l1_2 t703 t704 t707 t710 t713 t716 = some r) ∧ Aside0 (kq ≤ k3) ∧ Aside0 (Kd.R (Kd.int .u32) 39 w' w.heap.size (fun k_ => some k_ ≠ ((.slice Ao37 t710.length co37) : Value).ownBlock ∧ some k_ ≠ ((.slice Ao38 t713.length co38) : Value).ownBlock ∧ some k_ ≠ ((.slice Ao39 t716.length co39) : Value).ownBlock) v720 t719) ∧ Aside0 (Kd.S (Kd.slice 5 (Kd.int .u8)) 28 w' w.heap.size (fun k_ => some k_ ≠ (v731 : Value).ownBlock) (.slice (some ad739) t726.length co70) t726) ∧ Aside0 (Kd.S (Kd.slice 5 (Kd.int .u8)) 28 w' w.heap.size (fun k_ => some k_ ≠ ((.slice (some ad739) t726.length co70) : Value).ownBlock) v731 t730) ∧ Aside0 (Kd.R k41 41 w' w.heap.size (fun _ => True) (.slice Ao35 t704.length co35) t704) ∧ Aside0 (Kd.R k68 68 w' w.heap.size (fun _ => True) (.slice Ao36 t707.length co36) t707) ∧ Aside0 (Kd.R (Kd.int .u32) 39 w' w.heap.size (fun k_ => some k_ ≠ (v720 : Value).ownBlock ∧ some k_ ≠ ((.slice Ao38 t713.length co38) : Value).ownBlock ∧ some k_ ≠ ((.slice Ao39 t716.length co39) : Value).ownBlock) (.slice Ao37 t710.length co37) t710) ∧ Aside0 (Kd.R (Kd.int .u32) 39 w' w.heap.size (fun k_ => some k_ ≠ (v720 : Value).ownBlock ∧ some k_ ≠ ((.slice Ao37 t710.length co37) : Value).ownBlock ∧ some k_ ≠ ((.slice Ao39 t716.length co39) : Value).ownBlock) (.slice Ao38 t713.length co38) t713) ∧ Aside0 (Kd.R (Kd.int .u32) 39 w' w.heap.size (fun k_ => some k_ ≠ (v720 : Value).ownBlock ∧ some k_ ≠ ((.slice Ao37 t710.length co37) : Value).ownBlock ∧ some k_ ≠ ((.slice Ao38 t713.length co38) : Value).ownBlock) (.slice Ao39 t716.length co39) t716) ∧ Aside0 (w'.heap[gb698]? = some (.cells #[.int .i64 a0_0, (.slice A0_1 l0_1.length c0_1), (.slice A0_2 l0_2.length c0_2), (.slice A0_3 l0_3.length c0_3), (.slice A0_4 l0_4.length c0_4), (.slice A0_5 l0_5.length c0_5)] 26 (0, 0))) ∧ Aside0 (w'.heap[gb699]? = some (.cells #[.int .i64 a1_0, (.slice A1_1 l1_1.length c1_1), (.slice A1_2 l1_2.length c1_2)] 31 (0, 0))) ∧ Aside0 (w'.heap[gb723]? = some (.cells #[.int .i64 t703, (.slice Ao35 t704.length co35), (.slice Ao36 t707.length co36), (.slice Ao37 t710.length co37), (.slice Ao38 t713.length co38), (.slice Ao39 t716.length co39)] 26 (0, 0))) ∧ Aside0 (Kd.C (Kd.int .u8) w' A739_0 (rd_L9 t726 x70_3).length (rd_L9 t726 x70_3)) ∧ Aside0 (Below w.heap.size w w'))
               case atStart => exact ⟨(0), (by first | rfl | (simp; done) | (simp [*]; done)), H', ⟨Nat.le_refl _⟩, ⟨by exact HO_6.out⟩, ⟨by exact HO_8.out⟩, ⟨by exact HO_10.out⟩, ⟨by exact HO_724001.out⟩, ⟨by exact HO_724002.out⟩, ⟨by exact HO_724003.out⟩, ⟨by exact HO_724004.out⟩, ⟨by exact HO_724005.out⟩, ⟨by exact BK698.out⟩, ⟨by exact BK699.out⟩, ⟨by exact BK723.out⟩, ⟨by repeat (first | (with_reducible exact HR739_0.out) | (with_reducible refine Kd.C_alloc ?_ _) | (with_reducible refine Kd.C_drewN ?_ _) | (with_reducible refine Kd.C_drew ?_) | exact HR739_0.out)⟩, ⟨by exact HB.out⟩⟩
               case round =>
                as_aux_lemma =>
                 clear H'
                 try clear c1
                 try clear c2
                 try clear p2
                 try clear c3
                 try clear c4
                 try clear c5
                 try clear c6
                 try clear p6
                 try clear c7
                 try clear p7
                 try clear q7
                 try clear hx7
                 try clear c8
                 try clear c11
                 try clear c11b0
                 try clear c11b1
                 try clear c12
                 try clear c17
                 try clear c23
                 try clear c28
                 try clear c32
                 try clear c33
                 try clear c40
                 try clear c40b0
                 try clear c40b1
                 try clear c42
                 try clear c42b0
                 try clear c42b1
                 try clear c45
                 try clear c46
                 try clear c49
                 try clear c54
                 try clear c55
                 try clear c58
                 try clear c61
                 try clear c62
                 try clear c64
                 try clear p64
                 try clear c71
                 try clear c71b0
                 try clear c72
                 try clear c72b0
                 try clear c73
                 try clear c73b0
                 try clear p73
                 try clear q73
                 try clear hx73
                 try clear hcz13_0
                 try clear hcz13_1
                 try clear hcz13_2
                 try clear hcz13_3
                 try clear hcz13_4
                 try clear hcz13_5
                 try clear hcz15_0
                 try clear hcz15_1
                 try clear hcz15_2
                 try clear hcz18_0
                 try clear hcz18_1
                 try clear hcz18_2
                 try clear hcz18_3
                 try clear hcz18_4
                 try clear hcz18_5
                 try clear hcz20_0
                 try clear hcz20_1
                 try clear hcz20_2
                 try clear hcz21_0
                 try clear hcz21_1
                 try clear hcz21_2
                 try clear hcz21_3
                 try clear hcz21_4
                 try clear hcz21_5
                 try clear hcz29_0
                 try clear hcz29_1
                 try clear hcz29_2
                 try clear hcz29_3
                 try clear hcz29_4
                 try clear hcz29_5
                 try clear hcz34_0
                 try clear hcz34_1
                 try clear hcz34_2
                 try clear hcz34_3
                 try clear hcz34_4
                 try clear hcz34_5
                 try clear hcz47_0
                 try clear hcz47_1
                 try clear hcz47_2
                 try clear hcz47_3
                 try clear hcz47_4
                 try clear hcz47_5
                 try clear hcz50_0
                 try clear hcz50_1
                 try clear hcz50_2
                 try clear hcz50_3
                 try clear hcz50_4
                 try clear hcz50_5
                 try clear hcz51_0
                 try clear hcz51_1
                 try clear hcz51_2
                 try clear hcz56_0
                 try clear hcz56_1
                 try clear hcz56_2
                 try clear hcz56_3
                 try clear hcz56_4
                 try clear hcz56_5
                 try clear hcz63_0
                 try clear hcz63_1
                 try clear hcz63_2
                 try clear hcz63_3
                 try clear hcz63_4
                 try clear hcz63_5
                 try clear hcz65_0
                 try clear hcz65_1
                 try clear hcz65_2
                 try clear hcz67_0
                 try clear hcz67_1
                 try clear hcz67_2
                 try clear hcz67_3
                 try clear hcz67_4
                 try clear hcz67_5
                 try clear hcz68_0
                 try clear hcz68_1
                 try clear hcz68_2
                 try clear hcz9_0
                 try clear hcz9_1
                 try clear hcz9_2
                 try clear hcz9_3
                 try clear hcz9_4
                 try clear hcz9_5
                 try clear hfz13_0
                 try clear hfz13_1
                 try clear hfz13_2
                 try clear hfz13_3
                 try clear hfz13_4
                 try clear hfz13_5
                 try clear hfz15_0
                 try clear hfz15_1
                 try clear hfz15_2
                 try clear hfz18_0
                 try clear hfz18_1
                 try clear hfz18_2
                 try clear hfz18_3
                 try clear hfz18_4
                 try clear hfz18_5
                 try clear hfz20_0
                 try clear hfz20_1
                 try clear hfz20_2
                 try clear hfz21_0
                 try clear hfz21_1
                 try clear hfz21_2
                 try clear hfz21_3
                 try clear hfz21_4
                 try clear hfz21_5
                 try clear hfz29_0
                 try clear hfz29_1
                 try clear hfz29_2
                 try clear hfz29_3
                 try clear hfz29_4
                 try clear hfz29_5
                 try clear hfz34_0
                 try clear hfz34_1
                 try clear hfz34_2
                 try clear hfz34_3
                 try clear hfz34_4
                 try clear hfz34_5
                 try clear hfz47_0
                 try clear hfz47_1
                 try clear hfz47_2
                 try clear hfz47_3
                 try clear hfz47_4
                 try clear hfz47_5
                 try clear hfz50_0
                 try clear hfz50_1
                 try clear hfz50_2
                 try clear hfz50_3
                 try clear hfz50_4
                 try clear hfz50_5
                 try clear hfz51_0
                 try clear hfz51_1
                 try clear hfz51_2
                 try clear hfz56_0
                 try clear hfz56_1
                 try clear hfz56_2
                 try clear hfz56_3
                 try clear hfz56_4
                 try clear hfz56_5
                 try clear hfz63_0
                 try clear hfz63_1
                 try clear hfz63_2
                 try clear hfz63_3
                 try clear hfz63_4
                 try clear hfz63_5
                 try clear hfz65_0
                 try clear hfz65_1
                 try clear hfz65_2
                 try clear hfz67_0
                 try clear hfz67_1
                 try clear hfz67_2
                 try clear hfz67_3
                 try clear hfz67_4
                 try clear hfz67_5
                 try clear hfz68_0
                 try clear hfz68_1
                 try clear hfz68_2
                 try clear hfz9_0
                 try clear hfz9_1
                 try clear hfz9_2
                 try clear hfz9_3
                 try clear hfz9_4
                 try clear hfz9_5
                 try clear hx739_0
                 try clear p2
                 try clear p6
                 try clear p64
                 try clear p739
                 try clear q739
                 obtain ⟨x78_4, rfl, HA, HK4, HO_6, HO_8, HO_10, HO_724001, HO_724002, HO_724003, HO_724004, HO_724005, BK698, BK699, BK723, HR739_0, HB⟩ := hrel
                 cases gk with
                 | zero => exact absurd HA.out (by simp [inquestlaw24_StrashRuns.l1])
                 | succ k4 =>
                  have H := HA.out
                  clear HA
                  simp only [inquestlaw24_StrashRuns.l1] at H
                  by_cases c74 : x78_4 < ((rd_L9 t726 x70_3).length : Int)
                  ·
                   rw [if_pos c74] at H
                   have c74b0 : decide (x78_4 < ((rd_L9 t726 x70_3).length : Int)) = true := decide_eq_true c74
                   clear c74
                   by_cases c75 : 0 ≤ x70_3
                   ·
                    rw [if_pos c75] at H
                    have c75b0 : decide (0 ≤ x70_3) = true := decide_eq_true c75
                    clear c75
                    by_cases c76 : x70_3 < (t730.length : Int)
                    ·
                     rw [if_pos c76] at H
                     have c76b0 : decide (x70_3 < (t730.length : Int)) = true := decide_eq_true c76
                     clear c76
                     by_cases c77 : 0 ≤ x78_4
                     ·
                      rw [if_pos c77] at H
                      have c77b0 : decide (0 ≤ x78_4) = true := decide_eq_true c77
                      clear c77
                      by_cases c78 : x78_4 < (t719.length : Int)
                      ·
                       rw [if_pos c78] at H
                       have c78b0 : decide (x78_4 < (t719.length : Int)) = true := decide_eq_true c78
                       clear c78
                       replace H := Option.bind_eq_some_iff.mp H
                       obtain ⟨t742, A790, H⟩ := H
                       replace H : (if x70_3 < (t726.length : Int) then (if x78_4 < ((rd_L9 t726 x70_3).length : Int) then (if (rd (rd_L9 t726 x70_3) x78_4) = 2 then (inquestlaw24_StrashRuns.l1 k4 t719 t726 t730 x70_3 (t726.length : Int) x70_3 ((rd_L9 t726 x70_3).length : Int) (wrap64 (x78_4 + 1)) a0_0 l0_1 l0_2 l0_3 l0_4 l0_5 a1_0 l1_1 l1_2 t703 t704 t707 t710 t713 t716) else (if (rd (rd_L9 t726 x70_3) x78_4) = t742 then (inquestlaw24_StrashRuns.l1 k4 t719 t726 t730 x70_3 (t726.length : Int) x70_3 ((rd_L9 t726 x70_3).length : Int) (wrap64 (x78_4 + 1)) a0_0 l0_1 l0_2 l0_3 l0_4 l0_5 a1_0 l1_1 l1_2 t703 t704 t707 t710 t713 t716) else (some false))) else (none)) else (none)) = some r := H
                       have A79 := Aside0.mk A790
                       clear A790
                       by_cases c80 : x70_3 < (t726.length : Int)
                       ·
                        rw [if_pos c80] at H
                        have c80b0 : decide (x70_3 < (t726.length : Int)) = true := decide_eq_true c80
                        clear c80
                        by_cases c81 : x78_4 < ((rd_L9 t726 x70_3).length : Int)
                        ·
                         rw [if_pos c81] at H
                         have c81b0 : decide (x78_4 < ((rd_L9 t726 x70_3).length : Int)) = true := decide_eq_true c81
                         clear c81
                         by_cases c82 : (rd (rd_L9 t726 x70_3) x78_4) = 2
                         ·
                          rw [if_pos c82] at H
                          have c82b0 : ((rd (rd_L9 t726 x70_3) x78_4) == 2) = true := beq_iff_eq.mpr c82
                          have c82b1 : ((rd (rd_L9 t726 x70_3) x78_4) != 2) = false := bne_eq_false_iff_eq.mpr c82
                          clear c82
                          have H' := Aside0.mk H
                          clear H
                          obtain ⟨Ao83, co83, eo83⟩ := Kd.S_slice HO_10.out
                          subst eo83
                          have p740 : 0 ≤ (x70_3 : Int) := of_decide_eq_true (by first | (with_reducible assumption) | assumption)
                          have q740 : x70_3 < (t730.length : Int) := of_decide_eq_true (by first | (with_reducible assumption) | assumption)
                          obtain ⟨ad740, A740_0, c740_0, e740, hx740_0, hl740_0, hi740_0⟩ := at_L9 (Kd.S_reads' HO_10.out).2.2 x70_3 p740 q740
                          cases e740
                          obtain ⟨ce740, hce740, hMe740, hcc740⟩ := Kd.S_get HO_10.out [] x70_3 p740 (by first | exact q740 | exact of_decide_eq_true (by first | (with_reducible assumption) | assumption) | (have e_ := (Kd.S_reads' HO_10.out).1; omega))
                          obtain ⟨ve740_0, rfl, ge740_0⟩ := hMe740
                          have hv740_0 := hcc740 0 _ rfl
                          rw [Nat.add_zero, show ((Kd.slice 5 (Kd.int .u8))).sz = 1 from rfl, Nat.mul_one] at hv740_0
                          replace hv740_0 := Option.some.inj (hv740_0.symm.trans hx740_0)
                          rw [hv740_0] at ge740_0
                          have HL740_0 := Aside0.mk (show Kd.R (Kd.int .u8) 5 _ _ _ _ (rd_L9 t730 x70_3) from ge740_0)
                          clear hv740_0 ge740_0
                          clear hcc740 hce740
                          have HR740_0 := Aside0.mk hi740_0
                          have HC740_0 := Aside0.mk hl740_0
                          clear hi740_0 hl740_0
                          replace p740 := eq_true p740
                          replace q740 := eq_true q740
                          obtain ⟨Ao84, co84, eo84⟩ := Kd.R_slice HO_6.out
                          subst eo84
                          have p741 : 0 ≤ (x78_4 : Int) := of_decide_eq_true (by first | (with_reducible assumption) | assumption)
                          have q741 : x78_4 < (t719.length : Int) := of_decide_eq_true (by first | (with_reducible assumption) | assumption)
                          obtain ⟨ad741, e741, hx741_0⟩ := Kd.at_int (Kd.R_reads' HO_6.out).2.2 x78_4 p741 q741
                          cases e741
                          replace p741 := eq_true p741
                          replace q741 := eq_true q741
                          go_wp2_with (first | (go_at_call 50; (with_reducible refine (inquestref07_Value.calls k4 _ _ (rd_L9 t730 x70_3) (rd t719 x78_4) t742 _ ?side1 ?side2 A79.out).mono ?_); (case side1 => repeat (first | exact (by repeat (first | (with_reducible exact HR740_0.out) | (with_reducible refine Kd.C_alloc ?_ _) | (with_reducible refine Kd.C_drewN ?_ _) | (with_reducible refine Kd.C_drew ?_) | exact HR740_0.out)) | (with_reducible refine Kd.C_alloc ?_ _) | (with_reducible refine Kd.C_drewN ?_ _) | (with_reducible refine Kd.C_drew ?_))); (case side2 => exact HC740_0.out); rintro e w' ⟨rfl, ⟨nd, rfl⟩⟩; (try first | exact ⟨rfl, _, World.drewN_drewN _ _ _⟩ | exact ⟨rfl, _, Eq.trans (World.drewN_drewN _ _ _) (congrArg (World.drewN _) (Nat.add_assoc _ _ _))⟩); have p743 : 0 ≤ (x70_3 : Int) := of_decide_eq_true (by first | (with_reducible assumption) | assumption); have q743 : x70_3 < (t726.length : Int) := of_decide_eq_true (by first | (with_reducible assumption) | assumption); obtain ⟨ad743, A743_0, c743_0, e743, hx743_0, hl743_0, hi743_0⟩ := at_L9 (Kd.S_reads' HO_8.out).2.2 x70_3 p743 q743; obtain rfl : ad739 = ad743 := (by injection e743); obtain ⟨ce743, hce743, hMe743, hcc743⟩ := Kd.S_get HO_8.out [] x70_3 p743 (by first | exact q743 | exact of_decide_eq_true (by first | (with_reducible assumption) | assumption) | (have e_ := (Kd.S_reads' HO_8.out).1; omega)); obtain ⟨ve743_0, rfl, ge743_0⟩ := hMe743; have hv743_0 := hcc743 0 _ rfl; rw [Nat.add_zero, show ((Kd.slice 5 (Kd.int .u8))).sz = 1 from rfl, Nat.mul_one] at hv743_0; replace hv743_0 := Option.some.inj (hv743_0.symm.trans hx743_0); rw [hv743_0] at ge743_0; have HL743_0 := Aside0.mk (show Kd.R (Kd.int .u8) 5 _ _ _ _ (rd_L9 t726 x70_3) from ge743_0); clear hv743_0 ge743_0; clear hcc743 hce743; have HR743_0 := Aside0.mk hi743_0; have HC743_0 := Aside0.mk hl743_0; clear hi743_0 hl743_0; replace p743 := eq_true p743; replace q743 := eq_true q743; have p744 : 0 ≤ (x78_4 : Int) := of_decide_eq_true (by first | (with_reducible assumption) | assumption); have q744 : x78_4 < ((rd_L9 t726 x70_3).length : Int) := of_decide_eq_true (by first | (with_reducible assumption) | assumption); obtain ⟨ad744, e744, hx744_0⟩ := Kd.at_int (by repeat (first | (with_reducible exact HR743_0.out) | (with_reducible refine Kd.C_alloc ?_ _) | (with_reducible refine Kd.C_drewN ?_ _) | (with_reducible refine Kd.C_drew ?_) | exact HR743_0.out)) x78_4 p744 q744; cases e744; replace p744 := eq_true p744; replace q744 := eq_true q744))
                          repeat (go_quiet (first | (go_at_call 50; (with_reducible refine (inquestref07_Value.calls k4 _ _ (rd_L9 t730 x70_3) (rd t719 x78_4) t742 _ ?side1 ?side2 A79.out).mono ?_); (case side1 => repeat (first | exact (by repeat (first | (with_reducible exact HR740_0.out) | (with_reducible refine Kd.C_alloc ?_ _) | (with_reducible refine Kd.C_drewN ?_ _) | (with_reducible refine Kd.C_drew ?_) | exact HR740_0.out)) | (with_reducible refine Kd.C_alloc ?_ _) | (with_reducible refine Kd.C_drewN ?_ _) | (with_reducible refine Kd.C_drew ?_))); (case side2 => exact HC740_0.out); rintro e w' ⟨rfl, ⟨nd, rfl⟩⟩; (try first | exact ⟨rfl, _, World.drewN_drewN _ _ _⟩ | exact ⟨rfl, _, Eq.trans (World.drewN_drewN _ _ _) (congrArg (World.drewN _) (Nat.add_assoc _ _ _))⟩); have p743 : 0 ≤ (x70_3 : Int) := of_decide_eq_true (by first | (with_reducible assumption) | assumption); have q743 : x70_3 < (t726.length : Int) := of_decide_eq_true (by first | (with_reducible assumption) | assumption); obtain ⟨ad743, A743_0, c743_0, e743, hx743_0, hl743_0, hi743_0⟩ := at_L9 (Kd.S_reads' HO_8.out).2.2 x70_3 p743 q743; obtain rfl : ad739 = ad743 := (by injection e743); obtain ⟨ce743, hce743, hMe743, hcc743⟩ := Kd.S_get HO_8.out [] x70_3 p743 (by first | exact q743 | exact of_decide_eq_true (by first | (with_reducible assumption) | assumption) | (have e_ := (Kd.S_reads' HO_8.out).1; omega)); obtain ⟨ve743_0, rfl, ge743_0⟩ := hMe743; have hv743_0 := hcc743 0 _ rfl; rw [Nat.add_zero, show ((Kd.slice 5 (Kd.int .u8))).sz = 1 from rfl, Nat.mul_one] at hv743_0; replace hv743_0 := Option.some.inj (hv743_0.symm.trans hx743_0); rw [hv743_0] at ge743_0; have HL743_0 := Aside0.mk (show Kd.R (Kd.int .u8) 5 _ _ _ _ (rd_L9 t726 x70_3) from ge743_0); clear hv743_0 ge743_0; clear hcc743 hce743; have HR743_0 := Aside0.mk hi743_0; have HC743_0 := Aside0.mk hl743_0; clear hi743_0 hl743_0; replace p743 := eq_true p743; replace q743 := eq_true q743; have p744 : 0 ≤ (x78_4 : Int) := of_decide_eq_true (by first | (with_reducible assumption) | assumption); have q744 : x78_4 < ((rd_L9 t726 x70_3).length : Int) := of_decide_eq_true (by first | (with_reducible assumption) | assumption); obtain ⟨ad744, e744, hx744_0⟩ := Kd.at_int (by repeat (first | (with_reducible exact HR743_0.out) | (with_reducible refine Kd.C_alloc ?_ _) | (with_reducible refine Kd.C_drewN ?_ _) | (with_reducible refine Kd.C_drew ?_) | exact HR743_0.out)) x78_4 p744 q744; cases e744; replace p744 := eq_true p744; replace q744 := eq_true q744)); try go_wp2_with (first | (go_at_call 50; (with_reducible refine (inquestref07_Value.calls k4 _ _ (rd_L9 t730 x70_3) (rd t719 x78_4) t742 _ ?side1 ?side2 A79.out).mono ?_); (case side1 => repeat (first | exact (by repeat (first | (with_reducible exact HR740_0.out) | (with_reducible refine Kd.C_alloc ?_ _) | (with_reducible refine Kd.C_drewN ?_ _) | (with_reducible refine Kd.C_drew ?_) | exact HR740_0.out)) | (with_reducible refine Kd.C_alloc ?_ _) | (with_reducible refine Kd.C_drewN ?_ _) | (with_reducible refine Kd.C_drew ?_))); (case side2 => exact HC740_0.out); rintro e w' ⟨rfl, ⟨nd, rfl⟩⟩; (try first | exact ⟨rfl, _, World.drewN_drewN _ _ _⟩ | exact ⟨rfl, _, Eq.trans (World.drewN_drewN _ _ _) (congrArg (World.drewN _) (Nat.add_assoc _ _ _))⟩); have p743 : 0 ≤ (x70_3 : Int) := of_decide_eq_true (by first | (with_reducible assumption) | assumption); have q743 : x70_3 < (t726.length : Int) := of_decide_eq_true (by first | (with_reducible assumption) | assumption); obtain ⟨ad743, A743_0, c743_0, e743, hx743_0, hl743_0, hi743_0⟩ := at_L9 (Kd.S_reads' HO_8.out).2.2 x70_3 p743 q743; obtain rfl : ad739 = ad743 := (by injection e743); obtain ⟨ce743, hce743, hMe743, hcc743⟩ := Kd.S_get HO_8.out [] x70_3 p743 (by first | exact q743 | exact of_decide_eq_true (by first | (with_reducible assumption) | assumption) | (have e_ := (Kd.S_reads' HO_8.out).1; omega)); obtain ⟨ve743_0, rfl, ge743_0⟩ := hMe743; have hv743_0 := hcc743 0 _ rfl; rw [Nat.add_zero, show ((Kd.slice 5 (Kd.int .u8))).sz = 1 from rfl, Nat.mul_one] at hv743_0; replace hv743_0 := Option.some.inj (hv743_0.symm.trans hx743_0); rw [hv743_0] at ge743_0; have HL743_0 := Aside0.mk (show Kd.R (Kd.int .u8) 5 _ _ _ _ (rd_L9 t726 x70_3) from ge743_0); clear hv743_0 ge743_0; clear hcc743 hce743; have HR743_0 := Aside0.mk hi743_0; have HC743_0 := Aside0.mk hl743_0; clear hi743_0 hl743_0; replace p743 := eq_true p743; replace q743 := eq_true q743; have p744 : 0 ≤ (x78_4 : Int) := of_decide_eq_true (by first | (with_reducible assumption) | assumption); have q744 : x78_4 < ((rd_L9 t726 x70_3).length : Int) := of_decide_eq_true (by first | (with_reducible assumption) | assumption); obtain ⟨ad744, e744, hx744_0⟩ := Kd.at_int (by repeat (first | (with_reducible exact HR743_0.out) | (with_reducible refine Kd.C_alloc ?_ _) | (with_reducible refine Kd.C_drewN ?_ _) | (with_reducible refine Kd.C_drew ?_) | exact HR743_0.out)) x78_4 p744 q744; cases e744; replace p744 := eq_true p744; replace q744 := eq_true q744)))
                          go_roundg k4
                          case measure => have := HJ2.out; have := HJ26.out; have := HK3.out; have := HK4.out; omega
                          case rel => exact ⟨(wrap64 (x78_4 + 1)), (by first | rfl | (simp; done) | (simp [*]; done)), H', ⟨by have := HJ2.out; have := HJ26.out; have := HK3.out; have := HK4.out; omega⟩, ⟨by (with_reducible repeat (first | apply Kd.R_alloc | apply Kd.R_drewN | apply Kd.R_drew)); exact HO_6.out⟩, ⟨by (with_reducible repeat (first | apply Kd.S_alloc | apply Kd.S_drewN | apply Kd.S_drew)); exact HO_8.out⟩, ⟨by (with_reducible repeat (first | apply Kd.S_alloc | apply Kd.S_drewN | apply Kd.S_drew)); exact HO_10.out⟩, ⟨by (with_reducible repeat (first | apply Kd.R_alloc | apply Kd.R_drewN | apply Kd.R_drew)); exact HO_724001.out⟩, ⟨by (with_reducible repeat (first | apply Kd.R_alloc | apply Kd.R_drewN | apply Kd.R_drew)); exact HO_724002.out⟩, ⟨by (with_reducible repeat (first | apply Kd.R_alloc | apply Kd.R_drewN | apply Kd.R_drew)); exact HO_724003.out⟩, ⟨by (with_reducible repeat (first | apply Kd.R_alloc | apply Kd.R_drewN | apply Kd.R_drew)); exact HO_724004.out⟩, ⟨by (with_reducible repeat (first | apply Kd.R_alloc | apply Kd.R_drewN | apply Kd.R_drew)); exact HO_724005.out⟩, ⟨by (with_reducible repeat (first | refine blk_drewN ?_ _ | refine blk_drew ?_ | refine blk_alloc ?_ _)); exact BK698.out⟩, ⟨by (with_reducible repeat (first | refine blk_drewN ?_ _ | refine blk_drew ?_ | refine blk_alloc ?_ _)); exact BK699.out⟩, ⟨by (with_reducible repeat (first | refine blk_drewN ?_ _ | refine blk_drew ?_ | refine blk_alloc ?_ _)); exact BK723.out⟩, ⟨by repeat (first | (with_reducible exact HR739_0.out) | (with_reducible refine Kd.C_alloc ?_ _) | (with_reducible refine Kd.C_drewN ?_ _) | (with_reducible refine Kd.C_drew ?_) | exact HR739_0.out)⟩, ⟨by repeat (first | (with_reducible first | exact HB.out | apply below_alloc | apply pw_below_drewN | apply below_drew1 | refine below_set ?_ GE698.out | refine below_set ?_ GE699.out | refine below_set ?_ GE723.out) | exact HB.out)⟩⟩
                         ·
                          rw [if_neg c82] at H
                          have c82b0 : ((rd (rd_L9 t726 x70_3) x78_4) == 2) = false := beq_eq_false_iff_ne.mpr c82
                          have c82b1 : ((rd (rd_L9 t726 x70_3) x78_4) != 2) = true := bne_iff_ne.mpr c82
                          by_cases c85 : (rd (rd_L9 t726 x70_3) x78_4) = t742
                          ·
                           rw [if_pos c85] at H
                           have c85b0 : ((rd (rd_L9 t726 x70_3) x78_4) == t742) = true := beq_iff_eq.mpr c85
                           have c85b1 : ((rd (rd_L9 t726 x70_3) x78_4) != t742) = false := bne_eq_false_iff_eq.mpr c85
                           clear c85
                           have H' := Aside0.mk H
                           clear H
                           obtain ⟨Ao86, co86, eo86⟩ := Kd.S_slice HO_10.out
                           subst eo86
                           have p740 : 0 ≤ (x70_3 : Int) := of_decide_eq_true (by first | (with_reducible assumption) | assumption)
                           have q740 : x70_3 < (t730.length : Int) := of_decide_eq_true (by first | (with_reducible assumption) | assumption)
                           obtain ⟨ad740, A740_0, c740_0, e740, hx740_0, hl740_0, hi740_0⟩ := at_L9 (Kd.S_reads' HO_10.out).2.2 x70_3 p740 q740
                           cases e740
                           obtain ⟨ce740, hce740, hMe740, hcc740⟩ := Kd.S_get HO_10.out [] x70_3 p740 (by first | exact q740 | exact of_decide_eq_true (by first | (with_reducible assumption) | assumption) | (have e_ := (Kd.S_reads' HO_10.out).1; omega))
                           obtain ⟨ve740_0, rfl, ge740_0⟩ := hMe740
                           have hv740_0 := hcc740 0 _ rfl
                           rw [Nat.add_zero, show ((Kd.slice 5 (Kd.int .u8))).sz = 1 from rfl, Nat.mul_one] at hv740_0
                           replace hv740_0 := Option.some.inj (hv740_0.symm.trans hx740_0)
                           rw [hv740_0] at ge740_0
                           have HL740_0 := Aside0.mk (show Kd.R (Kd.int .u8) 5 _ _ _ _ (rd_L9 t730 x70_3) from ge740_0)
                           clear hv740_0 ge740_0
                           clear hcc740 hce740
                           have HR740_0 := Aside0.mk hi740_0
                           have HC740_0 := Aside0.mk hl740_0
                           clear hi740_0 hl740_0
                           replace p740 := eq_true p740
                           replace q740 := eq_true q740
                           obtain ⟨Ao87, co87, eo87⟩ := Kd.R_slice HO_6.out
                           subst eo87
                           have p741 : 0 ≤ (x78_4 : Int) := of_decide_eq_true (by first | (with_reducible assumption) | assumption)
                           have q741 : x78_4 < (t719.length : Int) := of_decide_eq_true (by first | (with_reducible assumption) | assumption)
                           obtain ⟨ad741, e741, hx741_0⟩ := Kd.at_int (Kd.R_reads' HO_6.out).2.2 x78_4 p741 q741
                           cases e741
                           replace p741 := eq_true p741
                           replace q741 := eq_true q741
                           go_wp2_with (first | (go_at_call 50; (with_reducible refine (inquestref07_Value.calls k4 _ _ (rd_L9 t730 x70_3) (rd t719 x78_4) t742 _ ?side1 ?side2 A79.out).mono ?_); (case side1 => repeat (first | exact (by repeat (first | (with_reducible exact HR740_0.out) | (with_reducible refine Kd.C_alloc ?_ _) | (with_reducible refine Kd.C_drewN ?_ _) | (with_reducible refine Kd.C_drew ?_) | exact HR740_0.out)) | (with_reducible refine Kd.C_alloc ?_ _) | (with_reducible refine Kd.C_drewN ?_ _) | (with_reducible refine Kd.C_drew ?_))); (case side2 => exact HC740_0.out); rintro e w' ⟨rfl, ⟨nd, rfl⟩⟩; (try first | exact ⟨rfl, _, World.drewN_drewN _ _ _⟩ | exact ⟨rfl, _, Eq.trans (World.drewN_drewN _ _ _) (congrArg (World.drewN _) (Nat.add_assoc _ _ _))⟩); have p743 : 0 ≤ (x70_3 : Int) := of_decide_eq_true (by first | (with_reducible assumption) | assumption); have q743 : x70_3 < (t726.length : Int) := of_decide_eq_true (by first | (with_reducible assumption) | assumption); obtain ⟨ad743, A743_0, c743_0, e743, hx743_0, hl743_0, hi743_0⟩ := at_L9 (Kd.S_reads' HO_8.out).2.2 x70_3 p743 q743; obtain rfl : ad739 = ad743 := (by injection e743); obtain ⟨ce743, hce743, hMe743, hcc743⟩ := Kd.S_get HO_8.out [] x70_3 p743 (by first | exact q743 | exact of_decide_eq_true (by first | (with_reducible assumption) | assumption) | (have e_ := (Kd.S_reads' HO_8.out).1; omega)); obtain ⟨ve743_0, rfl, ge743_0⟩ := hMe743; have hv743_0 := hcc743 0 _ rfl; rw [Nat.add_zero, show ((Kd.slice 5 (Kd.int .u8))).sz = 1 from rfl, Nat.mul_one] at hv743_0; replace hv743_0 := Option.some.inj (hv743_0.symm.trans hx743_0); rw [hv743_0] at ge743_0; have HL743_0 := Aside0.mk (show Kd.R (Kd.int .u8) 5 _ _ _ _ (rd_L9 t726 x70_3) from ge743_0); clear hv743_0 ge743_0; clear hcc743 hce743; have HR743_0 := Aside0.mk hi743_0; have HC743_0 := Aside0.mk hl743_0; clear hi743_0 hl743_0; replace p743 := eq_true p743; replace q743 := eq_true q743; have p744 : 0 ≤ (x78_4 : Int) := of_decide_eq_true (by first | (with_reducible assumption) | assumption); have q744 : x78_4 < ((rd_L9 t726 x70_3).length : Int) := of_decide_eq_true (by first | (with_reducible assumption) | assumption); obtain ⟨ad744, e744, hx744_0⟩ := Kd.at_int (by repeat (first | (with_reducible exact HR743_0.out) | (with_reducible refine Kd.C_alloc ?_ _) | (with_reducible refine Kd.C_drewN ?_ _) | (with_reducible refine Kd.C_drew ?_) | exact HR743_0.out)) x78_4 p744 q744; cases e744; replace p744 := eq_true p744; replace q744 := eq_true q744; have p745 : 0 ≤ (x70_3 : Int) := of_decide_eq_true (by first | (with_reducible assumption) | assumption); have q745 : x70_3 < (t726.length : Int) := of_decide_eq_true (by first | (with_reducible assumption) | assumption); obtain ⟨ad745, A745_0, c745_0, e745, hx745_0, hl745_0, hi745_0⟩ := at_L9 (Kd.S_reads' HO_8.out).2.2 x70_3 p745 q745; obtain rfl : ad739 = ad745 := (by injection e745); obtain ⟨ce745, hce745, hMe745, hcc745⟩ := Kd.S_get HO_8.out [] x70_3 p745 (by first | exact q745 | exact of_decide_eq_true (by first | (with_reducible assumption) | assumption) | (have e_ := (Kd.S_reads' HO_8.out).1; omega)); obtain ⟨ve745_0, rfl, ge745_0⟩ := hMe745; have hv745_0 := hcc745 0 _ rfl; rw [Nat.add_zero, show ((Kd.slice 5 (Kd.int .u8))).sz = 1 from rfl, Nat.mul_one] at hv745_0; replace hv745_0 := Option.some.inj (hv745_0.symm.trans hx745_0); rw [hv745_0] at ge745_0; have HL745_0 := Aside0.mk (show Kd.R (Kd.int .u8) 5 _ _ _ _ (rd_L9 t726 x70_3) from ge745_0); clear hv745_0 ge745_0; clear hcc745 hce745; have HR745_0 := Aside0.mk hi745_0; have HC745_0 := Aside0.mk hl745_0; clear hi745_0 hl745_0; replace p745 := eq_true p745; replace q745 := eq_true q745; have ea_ := Option.some.inj (hx743_0.symm.trans hx745_0); injection ea_ with ea_ en_ ec_; subst ea_; subst ec_; clear en_; have p746 : 0 ≤ (x78_4 : Int) := of_decide_eq_true (by first | (with_reducible assumption) | assumption); have q746 : x78_4 < ((rd_L9 t726 x70_3).length : Int) := of_decide_eq_true (by first | (with_reducible assumption) | assumption); obtain ⟨ad746, e746, hx746_0⟩ := Kd.at_int (by repeat (first | (with_reducible exact HR745_0.out) | (with_reducible refine Kd.C_alloc ?_ _) | (with_reducible refine Kd.C_drewN ?_ _) | (with_reducible refine Kd.C_drew ?_) | exact HR745_0.out)) x78_4 p746 q746; cases e746; replace p746 := eq_true p746; replace q746 := eq_true q746))
                           repeat (go_quiet (first | (go_at_call 50; (with_reducible refine (inquestref07_Value.calls k4 _ _ (rd_L9 t730 x70_3) (rd t719 x78_4) t742 _ ?side1 ?side2 A79.out).mono ?_); (case side1 => repeat (first | exact (by repeat (first | (with_reducible exact HR740_0.out) | (with_reducible refine Kd.C_alloc ?_ _) | (with_reducible refine Kd.C_drewN ?_ _) | (with_reducible refine Kd.C_drew ?_) | exact HR740_0.out)) | (with_reducible refine Kd.C_alloc ?_ _) | (with_reducible refine Kd.C_drewN ?_ _) | (with_reducible refine Kd.C_drew ?_))); (case side2 => exact HC740_0.out); rintro e w' ⟨rfl, ⟨nd, rfl⟩⟩; (try first | exact ⟨rfl, _, World.drewN_drewN _ _ _⟩ | exact ⟨rfl, _, Eq.trans (World.drewN_drewN _ _ _) (congrArg (World.drewN _) (Nat.add_assoc _ _ _))⟩); have p743 : 0 ≤ (x70_3 : Int) := of_decide_eq_true (by first | (with_reducible assumption) | assumption); have q743 : x70_3 < (t726.length : Int) := of_decide_eq_true (by first | (with_reducible assumption) | assumption); obtain ⟨ad743, A743_0, c743_0, e743, hx743_0, hl743_0, hi743_0⟩ := at_L9 (Kd.S_reads' HO_8.out).2.2 x70_3 p743 q743; obtain rfl : ad739 = ad743 := (by injection e743); obtain ⟨ce743, hce743, hMe743, hcc743⟩ := Kd.S_get HO_8.out [] x70_3 p743 (by first | exact q743 | exact of_decide_eq_true (by first | (with_reducible assumption) | assumption) | (have e_ := (Kd.S_reads' HO_8.out).1; omega)); obtain ⟨ve743_0, rfl, ge743_0⟩ := hMe743; have hv743_0 := hcc743 0 _ rfl; rw [Nat.add_zero, show ((Kd.slice 5 (Kd.int .u8))).sz = 1 from rfl, Nat.mul_one] at hv743_0; replace hv743_0 := Option.some.inj (hv743_0.symm.trans hx743_0); rw [hv743_0] at ge743_0; have HL743_0 := Aside0.mk (show Kd.R (Kd.int .u8) 5 _ _ _ _ (rd_L9 t726 x70_3) from ge743_0); clear hv743_0 ge743_0; clear hcc743 hce743; have HR743_0 := Aside0.mk hi743_0; have HC743_0 := Aside0.mk hl743_0; clear hi743_0 hl743_0; replace p743 := eq_true p743; replace q743 := eq_true q743; have p744 : 0 ≤ (x78_4 : Int) := of_decide_eq_true (by first | (with_reducible assumption) | assumption); have q744 : x78_4 < ((rd_L9 t726 x70_3).length : Int) := of_decide_eq_true (by first | (with_reducible assumption) | assumption); obtain ⟨ad744, e744, hx744_0⟩ := Kd.at_int (by repeat (first | (with_reducible exact HR743_0.out) | (with_reducible refine Kd.C_alloc ?_ _) | (with_reducible refine Kd.C_drewN ?_ _) | (with_reducible refine Kd.C_drew ?_) | exact HR743_0.out)) x78_4 p744 q744; cases e744; replace p744 := eq_true p744; replace q744 := eq_true q744; have p745 : 0 ≤ (x70_3 : Int) := of_decide_eq_true (by first | (with_reducible assumption) | assumption); have q745 : x70_3 < (t726.length : Int) := of_decide_eq_true (by first | (with_reducible assumption) | assumption); obtain ⟨ad745, A745_0, c745_0, e745, hx745_0, hl745_0, hi745_0⟩ := at_L9 (Kd.S_reads' HO_8.out).2.2 x70_3 p745 q745; obtain rfl : ad739 = ad745 := (by injection e745); obtain ⟨ce745, hce745, hMe745, hcc745⟩ := Kd.S_get HO_8.out [] x70_3 p745 (by first | exact q745 | exact of_decide_eq_true (by first | (with_reducible assumption) | assumption) | (have e_ := (Kd.S_reads' HO_8.out).1; omega)); obtain ⟨ve745_0, rfl, ge745_0⟩ := hMe745; have hv745_0 := hcc745 0 _ rfl; rw [Nat.add_zero, show ((Kd.slice 5 (Kd.int .u8))).sz = 1 from rfl, Nat.mul_one] at hv745_0; replace hv745_0 := Option.some.inj (hv745_0.symm.trans hx745_0); rw [hv745_0] at ge745_0; have HL745_0 := Aside0.mk (show Kd.R (Kd.int .u8) 5 _ _ _ _ (rd_L9 t726 x70_3) from ge745_0); clear hv745_0 ge745_0; clear hcc745 hce745; have HR745_0 := Aside0.mk hi745_0; have HC745_0 := Aside0.mk hl745_0; clear hi745_0 hl745_0; replace p745 := eq_true p745; replace q745 := eq_true q745; have ea_ := Option.some.inj (hx743_0.symm.trans hx745_0); injection ea_ with ea_ en_ ec_; subst ea_; subst ec_; clear en_; have p746 : 0 ≤ (x78_4 : Int) := of_decide_eq_true (by first | (with_reducible assumption) | assumption); have q746 : x78_4 < ((rd_L9 t726 x70_3).length : Int) := of_decide_eq_true (by first | (with_reducible assumption) | assumption); obtain ⟨ad746, e746, hx746_0⟩ := Kd.at_int (by repeat (first | (with_reducible exact HR745_0.out) | (with_reducible refine Kd.C_alloc ?_ _) | (with_reducible refine Kd.C_drewN ?_ _) | (with_reducible refine Kd.C_drew ?_) | exact HR745_0.out)) x78_4 p746 q746; cases e746; replace p746 := eq_true p746; replace q746 := eq_true q746)); try go_wp2_with (first | (go_at_call 50; (with_reducible refine (inquestref07_Value.calls k4 _ _ (rd_L9 t730 x70_3) (rd t719 x78_4) t742 _ ?side1 ?side2 A79.out).mono ?_); (case side1 => repeat (first | exact (by repeat (first | (with_reducible exact HR740_0.out) | (with_reducible refine Kd.C_alloc ?_ _) | (with_reducible refine Kd.C_drewN ?_ _) | (with_reducible refine Kd.C_drew ?_) | exact HR740_0.out)) | (with_reducible refine Kd.C_alloc ?_ _) | (with_reducible refine Kd.C_drewN ?_ _) | (with_reducible refine Kd.C_drew ?_))); (case side2 => exact HC740_0.out); rintro e w' ⟨rfl, ⟨nd, rfl⟩⟩; (try first | exact ⟨rfl, _, World.drewN_drewN _ _ _⟩ | exact ⟨rfl, _, Eq.trans (World.drewN_drewN _ _ _) (congrArg (World.drewN _) (Nat.add_assoc _ _ _))⟩); have p743 : 0 ≤ (x70_3 : Int) := of_decide_eq_true (by first | (with_reducible assumption) | assumption); have q743 : x70_3 < (t726.length : Int) := of_decide_eq_true (by first | (with_reducible assumption) | assumption); obtain ⟨ad743, A743_0, c743_0, e743, hx743_0, hl743_0, hi743_0⟩ := at_L9 (Kd.S_reads' HO_8.out).2.2 x70_3 p743 q743; obtain rfl : ad739 = ad743 := (by injection e743); obtain ⟨ce743, hce743, hMe743, hcc743⟩ := Kd.S_get HO_8.out [] x70_3 p743 (by first | exact q743 | exact of_decide_eq_true (by first | (with_reducible assumption) | assumption) | (have e_ := (Kd.S_reads' HO_8.out).1; omega)); obtain ⟨ve743_0, rfl, ge743_0⟩ := hMe743; have hv743_0 := hcc743 0 _ rfl; rw [Nat.add_zero, show ((Kd.slice 5 (Kd.int .u8))).sz = 1 from rfl, Nat.mul_one] at hv743_0; replace hv743_0 := Option.some.inj (hv743_0.symm.trans hx743_0); rw [hv743_0] at ge743_0; have HL743_0 := Aside0.mk (show Kd.R (Kd.int .u8) 5 _ _ _ _ (rd_L9 t726 x70_3) from ge743_0); clear hv743_0 ge743_0; clear hcc743 hce743; have HR743_0 := Aside0.mk hi743_0; have HC743_0 := Aside0.mk hl743_0; clear hi743_0 hl743_0; replace p743 := eq_true p743; replace q743 := eq_true q743; have p744 : 0 ≤ (x78_4 : Int) := of_decide_eq_true (by first | (with_reducible assumption) | assumption); have q744 : x78_4 < ((rd_L9 t726 x70_3).length : Int) := of_decide_eq_true (by first | (with_reducible assumption) | assumption); obtain ⟨ad744, e744, hx744_0⟩ := Kd.at_int (by repeat (first | (with_reducible exact HR743_0.out) | (with_reducible refine Kd.C_alloc ?_ _) | (with_reducible refine Kd.C_drewN ?_ _) | (with_reducible refine Kd.C_drew ?_) | exact HR743_0.out)) x78_4 p744 q744; cases e744; replace p744 := eq_true p744; replace q744 := eq_true q744; have p745 : 0 ≤ (x70_3 : Int) := of_decide_eq_true (by first | (with_reducible assumption) | assumption); have q745 : x70_3 < (t726.length : Int) := of_decide_eq_true (by first | (with_reducible assumption) | assumption); obtain ⟨ad745, A745_0, c745_0, e745, hx745_0, hl745_0, hi745_0⟩ := at_L9 (Kd.S_reads' HO_8.out).2.2 x70_3 p745 q745; obtain rfl : ad739 = ad745 := (by injection e745); obtain ⟨ce745, hce745, hMe745, hcc745⟩ := Kd.S_get HO_8.out [] x70_3 p745 (by first | exact q745 | exact of_decide_eq_true (by first | (with_reducible assumption) | assumption) | (have e_ := (Kd.S_reads' HO_8.out).1; omega)); obtain ⟨ve745_0, rfl, ge745_0⟩ := hMe745; have hv745_0 := hcc745 0 _ rfl; rw [Nat.add_zero, show ((Kd.slice 5 (Kd.int .u8))).sz = 1 from rfl, Nat.mul_one] at hv745_0; replace hv745_0 := Option.some.inj (hv745_0.symm.trans hx745_0); rw [hv745_0] at ge745_0; have HL745_0 := Aside0.mk (show Kd.R (Kd.int .u8) 5 _ _ _ _ (rd_L9 t726 x70_3) from ge745_0); clear hv745_0 ge745_0; clear hcc745 hce745; have HR745_0 := Aside0.mk hi745_0; have HC745_0 := Aside0.mk hl745_0; clear hi745_0 hl745_0; replace p745 := eq_true p745; replace q745 := eq_true q745; have ea_ := Option.some.inj (hx743_0.symm.trans hx745_0); injection ea_ with ea_ en_ ec_; subst ea_; subst ec_; clear en_; have p746 : 0 ≤ (x78_4 : Int) := of_decide_eq_true (by first | (with_reducible assumption) | assumption); have q746 : x78_4 < ((rd_L9 t726 x70_3).length : Int) := of_decide_eq_true (by first | (with_reducible assumption) | assumption); obtain ⟨ad746, e746, hx746_0⟩ := Kd.at_int (by repeat (first | (with_reducible exact HR745_0.out) | (with_reducible refine Kd.C_alloc ?_ _) | (with_reducible refine Kd.C_drewN ?_ _) | (with_reducible refine Kd.C_drew ?_) | exact HR745_0.out)) x78_4 p746 q746; cases e746; replace p746 := eq_true p746; replace q746 := eq_true q746)))
                           go_roundg k4
                           case measure => have := HJ2.out; have := HJ26.out; have := HK3.out; have := HK4.out; omega
                           case rel => exact ⟨(wrap64 (x78_4 + 1)), (by first | rfl | (simp; done) | (simp [*]; done)), H', ⟨by have := HJ2.out; have := HJ26.out; have := HK3.out; have := HK4.out; omega⟩, ⟨by (with_reducible repeat (first | apply Kd.R_alloc | apply Kd.R_drewN | apply Kd.R_drew)); exact HO_6.out⟩, ⟨by (with_reducible repeat (first | apply Kd.S_alloc | apply Kd.S_drewN | apply Kd.S_drew)); exact HO_8.out⟩, ⟨by (with_reducible repeat (first | apply Kd.S_alloc | apply Kd.S_drewN | apply Kd.S_drew)); exact HO_10.out⟩, ⟨by (with_reducible repeat (first | apply Kd.R_alloc | apply Kd.R_drewN | apply Kd.R_drew)); exact HO_724001.out⟩, ⟨by (with_reducible repeat (first | apply Kd.R_alloc | apply Kd.R_drewN | apply Kd.R_drew)); exact HO_724002.out⟩, ⟨by (with_reducible repeat (first | apply Kd.R_alloc | apply Kd.R_drewN | apply Kd.R_drew)); exact HO_724003.out⟩, ⟨by (with_reducible repeat (first | apply Kd.R_alloc | apply Kd.R_drewN | apply Kd.R_drew)); exact HO_724004.out⟩, ⟨by (with_reducible repeat (first | apply Kd.R_alloc | apply Kd.R_drewN | apply Kd.R_drew)); exact HO_724005.out⟩, ⟨by (with_reducible repeat (first | refine blk_drewN ?_ _ | refine blk_drew ?_ | refine blk_alloc ?_ _)); exact BK698.out⟩, ⟨by (with_reducible repeat (first | refine blk_drewN ?_ _ | refine blk_drew ?_ | refine blk_alloc ?_ _)); exact BK699.out⟩, ⟨by (with_reducible repeat (first | refine blk_drewN ?_ _ | refine blk_drew ?_ | refine blk_alloc ?_ _)); exact BK723.out⟩, ⟨by repeat (first | (with_reducible exact HR739_0.out) | (with_reducible refine Kd.C_alloc ?_ _) | (with_reducible refine Kd.C_drewN ?_ _) | (with_reducible refine Kd.C_drew ?_) | exact HR739_0.out)⟩, ⟨by repeat (first | (with_reducible first | exact HB.out | apply below_alloc | apply pw_below_drewN | apply below_drew1 | refine below_set ?_ GE698.out | refine below_set ?_ GE699.out | refine below_set ?_ GE723.out) | exact HB.out)⟩⟩
                          ·
                           rw [if_neg c85] at H
                           have c85b0 : ((rd (rd_L9 t726 x70_3) x78_4) == t742) = false := beq_eq_false_iff_ne.mpr c85
                           have c85b1 : ((rd (rd_L9 t726 x70_3) x78_4) != t742) = true := bne_iff_ne.mpr c85
                           exact absurd (hrt.out.symm.trans (Option.some.inj H).symm) (by decide)
                        ·
                         rw [if_neg c81] at H
                         exact absurd H (by simp)
                       ·
                        rw [if_neg c80] at H
                        exact absurd H (by simp)
                      ·
                       rw [if_neg c78] at H
                       exact absurd H (by simp)
                     ·
                      rw [if_neg c77] at H
                      exact absurd H (by simp)
                    ·
                     rw [if_neg c76] at H
                     exact absurd H (by simp)
                   ·
                    rw [if_neg c75] at H
                    exact absurd H (by simp)
                  ·
                   rw [if_neg c74] at H
                   have c74b0 : decide (x78_4 < ((rd_L9 t726 x70_3).length : Int)) = false := decide_eq_false c74
                   clear c74
                   have H' := Aside0.mk H
                   clear H
                   go_wp2
                   repeat (go_quiet (fail); try go_wp2)
                   go_roundg k4
                   case measure => have := HJ2.out; have := HJ26.out; have := HK3.out; have := HK4.out; omega
                   case rel => exact ⟨(wrap64 (x70_3 + 1)), (by first | rfl | (simp; done) | (simp [*]; done)), H', ⟨by have := HJ2.out; have := HJ26.out; have := HK3.out; have := HK4.out; omega⟩, ⟨by exact HO_6.out⟩, ⟨by exact HO_8.out⟩, ⟨by exact HO_10.out⟩, ⟨by exact HO_724001.out⟩, ⟨by exact HO_724002.out⟩, ⟨by exact HO_724003.out⟩, ⟨by exact HO_724004.out⟩, ⟨by exact HO_724005.out⟩, ⟨by exact BK698.out⟩, ⟨by exact BK699.out⟩, ⟨by exact BK723.out⟩, ⟨by exact HB.out⟩⟩
              ·
               rw [if_neg c73] at H
               exact absurd H (by simp)
             ·
              rw [if_neg c72] at H
              exact absurd H (by simp)
            ·
             rw [if_neg c71] at H
             have c71b0 : decide (x70_3 < (t726.length : Int)) = false := decide_eq_false c71
             clear c71
             replace H := Option.bind_eq_some_iff.mp H
             obtain ⟨⟨t734, t735⟩, A900, H⟩ := H
             replace H : ((inquestref07_Fails.f k3 t703 t704 t707 t710 t713 t716 a1_0 l1_1 l1_2).bind fun bt736 => (if bt736.2 = 0 then (if (t734 == bt736.1) = true then ((inquestlaw24_lives.f k3).bind fun t738 => (some t738)) else (some false)) else (some false))) = some r := H
             have A90 := Aside0.mk A900
             clear A900
             replace H := Option.bind_eq_some_iff.mp H
             obtain ⟨⟨t736, t737⟩, A910, H⟩ := H
             replace H : (if t737 = 0 then (if (t734 == t736) = true then ((inquestlaw24_lives.f k3).bind fun t738 => (some t738)) else (some false)) else (some false)) = some r := H
             have A91 := Aside0.mk A910
             clear A910
             by_cases c92 : t737 = 0
             ·
              rw [if_pos c92] at H
              have c92b0 : (t737 == 0) = true := beq_iff_eq.mpr c92
              have c92b1 : (t737 != 0) = false := bne_eq_false_iff_eq.mpr c92
              clear c92
              by_cases c93 : (t734 == t736) = true
              ·
               rw [if_pos c93] at H
               have c93b0 : (t734 == t736) = true := c93
               (try (have c93b1 : decide (t734 = t736) = true := by simpa using c93))
               (try (have c93b2 : (t734 == t736) = true := by simpa using c93))
               clear c93
               replace H := Option.bind_eq_some_iff.mp H
               obtain ⟨t738, A940, H⟩ := H
               replace H : (some t738) = some r := H
               have A94 := Aside0.mk A940
               clear A940
               obtain rfl := Option.some.inj H
               have hnb95 := NB698_699.out
               have hnc95 := NB699_698.out
               have hnb96 := NB698_723.out
               have hnc96 := NB723_698.out
               have hcz97_0 : wr.cell? ⟨gb698, 0, none⟩ = some (.int .i64 a0_0) := (blk_cell BK698.out 0).trans rfl
               have hcz97_1 : wr.cell? ⟨gb698, 1, none⟩ = some (.slice A0_1 l0_1.length c0_1) := (blk_cell BK698.out 1).trans rfl
               have hcz97_2 : wr.cell? ⟨gb698, 2, none⟩ = some (.slice A0_2 l0_2.length c0_2) := (blk_cell BK698.out 2).trans rfl
               have hcz97_3 : wr.cell? ⟨gb698, 3, none⟩ = some (.slice A0_3 l0_3.length c0_3) := (blk_cell BK698.out 3).trans rfl
               have hcz97_4 : wr.cell? ⟨gb698, 4, none⟩ = some (.slice A0_4 l0_4.length c0_4) := (blk_cell BK698.out 4).trans rfl
               have hcz97_5 : wr.cell? ⟨gb698, 5, none⟩ = some (.slice A0_5 l0_5.length c0_5) := (blk_cell BK698.out 5).trans rfl
               have hfz97_0 := blk_frozen BK698.out 0
               have hfz97_1 := blk_frozen BK698.out 1
               have hfz97_2 := blk_frozen BK698.out 2
               have hfz97_3 := blk_frozen BK698.out 3
               have hfz97_4 := blk_frozen BK698.out 4
               have hfz97_5 := blk_frozen BK698.out 5
               have hnb98 := NB699_723.out
               have hnc98 := NB723_699.out
               have hcz99_0 : wr.cell? ⟨gb699, 0, none⟩ = some (.int .i64 a1_0) := (blk_cell BK699.out 0).trans rfl
               have hcz99_1 : wr.cell? ⟨gb699, 1, none⟩ = some (.slice A1_1 l1_1.length c1_1) := (blk_cell BK699.out 1).trans rfl
               have hcz99_2 : wr.cell? ⟨gb699, 2, none⟩ = some (.slice A1_2 l1_2.length c1_2) := (blk_cell BK699.out 2).trans rfl
               have hfz99_0 := blk_frozen BK699.out 0
               have hfz99_1 := blk_frozen BK699.out 1
               have hfz99_2 := blk_frozen BK699.out 2
               go_wp2_with (first | (go_at_call 51; (with_reducible refine (inquestref07_Fails.calls k3 a0_0 _ _ l0_1 _ _ l0_2 _ _ l0_3 _ _ l0_4 _ _ l0_5 a1_0 _ _ l1_1 _ _ l1_2 t734 t735 _ ?side1 ?side2 ?side3 ?side4 ?side5 ?side6 ?side7 ?side8 ?side9 ?side10 ?side11 ?side12 ?side13 ?side14 A90.out).mono ?_); (case side1 => exact (Kd.C_below HR0_1.out HB.out)); (case side2 => exact HC0_1.out); (case side3 => exact (Kd.C_below HR0_2.out HB.out)); (case side4 => exact HC0_2.out); (case side5 => exact (Kd.C_below HR0_3.out HB.out)); (case side6 => exact HC0_3.out); (case side7 => exact (Kd.C_below HR0_4.out HB.out)); (case side8 => exact HC0_4.out); (case side9 => exact (Kd.C_below HR0_5.out HB.out)); (case side10 => exact HC0_5.out); (case side11 => exact (Kd.C_below HR1_1.out HB.out)); (case side12 => exact HC1_1.out); (case side13 => exact (Kd.C_below HR1_2.out HB.out)); (case side14 => exact HC1_2.out); rintro e w100 ⟨rfl, hb⟩; have n0_ := Aside0.mk (Kd.R_below (by exact HO_6.out) hb); have n1_ := Aside0.mk (Kd.S_below (by exact HO_8.out) hb); have n2_ := Aside0.mk (Kd.S_below (by exact HO_10.out) hb); have n3_ := Aside0.mk (Kd.R_below (by exact HO_724001.out) hb); have n4_ := Aside0.mk (Kd.R_below (by exact HO_724002.out) hb); have n5_ := Aside0.mk (Kd.R_below (by exact HO_724003.out) hb); have n6_ := Aside0.mk (Kd.R_below (by exact HO_724004.out) hb); have n7_ := Aside0.mk (Kd.R_below (by exact HO_724005.out) hb); have n8_ := Aside0.mk (blk_below (g := gb698) (o := .cells #[.int .i64 a0_0, .slice A0_1 l0_1.length c0_1, .slice A0_2 l0_2.length c0_2, .slice A0_3 l0_3.length c0_3, .slice A0_4 l0_4.length c0_4, .slice A0_5 l0_5.length c0_5] 26 (0, 0)) (by exact BK698.out) hb); have n9_ := Aside0.mk (blk_below (g := gb699) (o := .cells #[.int .i64 a1_0, .slice A1_1 l1_1.length c1_1, .slice A1_2 l1_2.length c1_2] 31 (0, 0)) (by exact BK699.out) hb); have n10_ := Aside0.mk (blk_below (g := gb723) (o := .cells #[.int .i64 t703, .slice Ao35 t704.length co35, .slice Ao36 t707.length co36, .slice Ao37 t710.length co37, .slice Ao38 t713.length co38, .slice Ao39 t716.length co39] 26 (0, 0)) (by exact BK723.out) hb); have n11_ := Aside0.mk (below_step (by exact HB.out) hb); clear HO_6; clear HO_8; clear HO_10; clear HO_724001; clear HO_724002; clear HO_724003; clear HO_724004; clear HO_724005; clear BK698; clear BK699; clear BK723; clear HB; have HO_6 := n0_; have HO_8 := n1_; have HO_10 := n2_; have HO_724001 := n3_; have HO_724002 := n4_; have HO_724003 := n5_; have HO_724004 := n6_; have HO_724005 := n7_; have BK698 := n8_; have BK699 := n9_; have BK723 := n10_; have HB := n11_; clear n0_ n1_ n2_ n3_ n4_ n5_ n6_ n7_ n8_ n9_ n10_ n11_; (try clear hb); (try clear hb2); (try clear hk); (try clear hi); have hcz101_0 : w100.cell? ⟨gb723, 0, none⟩ = some (.int .i64 t703) := (blk_cell BK723.out 0).trans rfl; have hcz101_1 : w100.cell? ⟨gb723, 1, none⟩ = some (.slice Ao35 t704.length co35) := (blk_cell BK723.out 1).trans rfl; have hcz101_2 : w100.cell? ⟨gb723, 2, none⟩ = some (.slice Ao36 t707.length co36) := (blk_cell BK723.out 2).trans rfl; have hcz101_3 : w100.cell? ⟨gb723, 3, none⟩ = some (.slice Ao37 t710.length co37) := (blk_cell BK723.out 3).trans rfl; have hcz101_4 : w100.cell? ⟨gb723, 4, none⟩ = some (.slice Ao38 t713.length co38) := (blk_cell BK723.out 4).trans rfl; have hcz101_5 : w100.cell? ⟨gb723, 5, none⟩ = some (.slice Ao39 t716.length co39) := (blk_cell BK723.out 5).trans rfl; have hfz101_0 := blk_frozen BK723.out 0; have hfz101_1 := blk_frozen BK723.out 1; have hfz101_2 := blk_frozen BK723.out 2; have hfz101_3 := blk_frozen BK723.out 3; have hfz101_4 := blk_frozen BK723.out 4; have hfz101_5 := blk_frozen BK723.out 5; have hcz102_0 : w100.cell? ⟨gb699, 0, none⟩ = some (.int .i64 a1_0) := (blk_cell BK699.out 0).trans rfl; have hcz102_1 : w100.cell? ⟨gb699, 1, none⟩ = some (.slice A1_1 l1_1.length c1_1) := (blk_cell BK699.out 1).trans rfl; have hcz102_2 : w100.cell? ⟨gb699, 2, none⟩ = some (.slice A1_2 l1_2.length c1_2) := (blk_cell BK699.out 2).trans rfl; have hfz102_0 := blk_frozen BK699.out 0; have hfz102_1 := blk_frozen BK699.out 1; have hfz102_2 := blk_frozen BK699.out 2) | (go_at_call 51; (with_reducible refine (inquestref07_Fails.calls k3 t703 _ _ t704 _ _ t707 _ _ t710 _ _ t713 _ _ t716 a1_0 _ _ l1_1 _ _ l1_2 t736 t737 _ ?side1 ?side2 ?side3 ?side4 ?side5 ?side6 ?side7 ?side8 ?side9 ?side10 ?side11 ?side12 ?side13 ?side14 A91.out).mono ?_); (case side1 => repeat (first | exact (Kd.R_reads' HO_724001.out).2.2 | (with_reducible refine Kd.C_alloc ?_ _) | (with_reducible refine Kd.C_drewN ?_ _) | (with_reducible refine Kd.C_drew ?_))); (case side2 => exact (Kd.R_reads' HO_724001.out).2.1); (case side3 => repeat (first | exact (Kd.R_reads' HO_724002.out).2.2 | (with_reducible refine Kd.C_alloc ?_ _) | (with_reducible refine Kd.C_drewN ?_ _) | (with_reducible refine Kd.C_drew ?_))); (case side4 => exact (Kd.R_reads' HO_724002.out).2.1); (case side5 => repeat (first | exact (Kd.R_reads' HO_724003.out).2.2 | (with_reducible refine Kd.C_alloc ?_ _) | (with_reducible refine Kd.C_drewN ?_ _) | (with_reducible refine Kd.C_drew ?_))); (case side6 => exact (Kd.R_reads' HO_724003.out).2.1); (case side7 => repeat (first | exact (Kd.R_reads' HO_724004.out).2.2 | (with_reducible refine Kd.C_alloc ?_ _) | (with_reducible refine Kd.C_drewN ?_ _) | (with_reducible refine Kd.C_drew ?_))); (case side8 => exact (Kd.R_reads' HO_724004.out).2.1); (case side9 => repeat (first | exact (Kd.R_reads' HO_724005.out).2.2 | (with_reducible refine Kd.C_alloc ?_ _) | (with_reducible refine Kd.C_drewN ?_ _) | (with_reducible refine Kd.C_drew ?_))); (case side10 => exact (Kd.R_reads' HO_724005.out).2.1); (case side11 => exact (Kd.C_below HR1_1.out HB.out)); (case side12 => exact HC1_1.out); (case side13 => exact (Kd.C_below HR1_2.out HB.out)); (case side14 => exact HC1_2.out); rintro e w103 ⟨rfl, hb⟩; have n0_ := Aside0.mk (Kd.R_below (by exact HO_6.out) hb); have n1_ := Aside0.mk (Kd.S_below (by exact HO_8.out) hb); have n2_ := Aside0.mk (Kd.S_below (by exact HO_10.out) hb); have n3_ := Aside0.mk (Kd.R_below (by exact HO_724001.out) hb); have n4_ := Aside0.mk (Kd.R_below (by exact HO_724002.out) hb); have n5_ := Aside0.mk (Kd.R_below (by exact HO_724003.out) hb); have n6_ := Aside0.mk (Kd.R_below (by exact HO_724004.out) hb); have n7_ := Aside0.mk (Kd.R_below (by exact HO_724005.out) hb); have n8_ := Aside0.mk (blk_below (g := gb698) (o := .cells #[.int .i64 a0_0, .slice A0_1 l0_1.length c0_1, .slice A0_2 l0_2.length c0_2, .slice A0_3 l0_3.length c0_3, .slice A0_4 l0_4.length c0_4, .slice A0_5 l0_5.length c0_5] 26 (0, 0)) (by exact BK698.out) hb); have n9_ := Aside0.mk (blk_below (g := gb699) (o := .cells #[.int .i64 a1_0, .slice A1_1 l1_1.length c1_1, .slice A1_2 l1_2.length c1_2] 31 (0, 0)) (by exact BK699.out) hb); have n10_ := Aside0.mk (blk_below (g := gb723) (o := .cells #[.int .i64 t703, .slice Ao35 t704.length co35, .slice Ao36 t707.length co36, .slice Ao37 t710.length co37, .slice Ao38 t713.length co38, .slice Ao39 t716.length co39] 26 (0, 0)) (by exact BK723.out) hb); have n11_ := Aside0.mk (below_step (by exact HB.out) hb); clear HO_6; clear HO_8; clear HO_10; clear HO_724001; clear HO_724002; clear HO_724003; clear HO_724004; clear HO_724005; clear BK698; clear BK699; clear BK723; clear HB; have HO_6 := n0_; have HO_8 := n1_; have HO_10 := n2_; have HO_724001 := n3_; have HO_724002 := n4_; have HO_724003 := n5_; have HO_724004 := n6_; have HO_724005 := n7_; have BK698 := n8_; have BK699 := n9_; have BK723 := n10_; have HB := n11_; clear n0_ n1_ n2_ n3_ n4_ n5_ n6_ n7_ n8_ n9_ n10_ n11_; (try clear hb); (try clear hb2); (try clear hk); (try clear hi)) | (go_at_call 37; (with_reducible refine (inquestlaw24_lives.calls k3  t738 _ A94.out).mono ?_); rintro e w104 ⟨rfl, hb⟩; have n0_ := Aside0.mk (Kd.R_below (by exact HO_6.out) hb); have n1_ := Aside0.mk (Kd.S_below (by exact HO_8.out) hb); have n2_ := Aside0.mk (Kd.S_below (by exact HO_10.out) hb); have n3_ := Aside0.mk (Kd.R_below (by exact HO_724001.out) hb); have n4_ := Aside0.mk (Kd.R_below (by exact HO_724002.out) hb); have n5_ := Aside0.mk (Kd.R_below (by exact HO_724003.out) hb); have n6_ := Aside0.mk (Kd.R_below (by exact HO_724004.out) hb); have n7_ := Aside0.mk (Kd.R_below (by exact HO_724005.out) hb); have n8_ := Aside0.mk (blk_below (g := gb698) (o := .cells #[.int .i64 a0_0, .slice A0_1 l0_1.length c0_1, .slice A0_2 l0_2.length c0_2, .slice A0_3 l0_3.length c0_3, .slice A0_4 l0_4.length c0_4, .slice A0_5 l0_5.length c0_5] 26 (0, 0)) (by exact BK698.out) hb); have n9_ := Aside0.mk (blk_below (g := gb699) (o := .cells #[.int .i64 a1_0, .slice A1_1 l1_1.length c1_1, .slice A1_2 l1_2.length c1_2] 31 (0, 0)) (by exact BK699.out) hb); have n10_ := Aside0.mk (blk_below (g := gb723) (o := .cells #[.int .i64 t703, .slice Ao35 t704.length co35, .slice Ao36 t707.length co36, .slice Ao37 t710.length co37, .slice Ao38 t713.length co38, .slice Ao39 t716.length co39] 26 (0, 0)) (by exact BK723.out) hb); have n11_ := Aside0.mk (below_step (by exact HB.out) hb); clear HO_6; clear HO_8; clear HO_10; clear HO_724001; clear HO_724002; clear HO_724003; clear HO_724004; clear HO_724005; clear BK698; clear BK699; clear BK723; clear HB; have HO_6 := n0_; have HO_8 := n1_; have HO_10 := n2_; have HO_724001 := n3_; have HO_724002 := n4_; have HO_724003 := n5_; have HO_724004 := n6_; have HO_724005 := n7_; have BK698 := n8_; have BK699 := n9_; have BK723 := n10_; have HB := n11_; clear n0_ n1_ n2_ n3_ n4_ n5_ n6_ n7_ n8_ n9_ n10_ n11_; (try clear hb); (try clear hb2); (try clear hk); (try clear hi)))
               repeat (go_quiet (fail); try go_wp2)
               go_ret
               exact ⟨by first | rfl | (simp [errW_none, errW_some] <;> rfl) | (simp [*, errW_none, errW_some] <;> rfl), by exact HB.out⟩
              ·
               rw [if_neg c93] at H
               have c93b0 : (t734 == t736) = false := by simpa using c93
               (try (have c93b1 : decide (t734 = t736) = false := by simpa using c93))
               (try (have c93b2 : (t734 == t736) = false := by simpa using c93))
               (try (have c93b3 : ¬ (t734 = t736) := by simpa using c93))
               clear c93
               exact absurd (hrt.out.symm.trans (Option.some.inj H).symm) (by decide)
             ·
              rw [if_neg c92] at H
              have c92b0 : (t737 == 0) = false := beq_eq_false_iff_ne.mpr c92
              have c92b1 : (t737 != 0) = true := bne_iff_ne.mpr c92
              exact absurd (hrt.out.symm.trans (Option.some.inj H).symm) (by decide)
end Go.Proofs.Yteiiodlgdbiimaa.F
end
section
namespace Go.Proofs.Yteiiodlgdbiimaa.F
open Go.RowKit Go.Shelf Go.Proofs.YteiiodlgdbiimaaW.PrintWords Go.Proofs.YteiiodlgdbiimaaW.PrintLast Go.Proofs.YteiiodlgdbiimaaW.PrintMore
set_option linter.unusedVariables false
set_option linter.unusedSimpArgs false
theorem lits_ev {l : List Int} {V : Int} (hu : InU32 l) (hl : l.length ≤ 1024) (hb : ∀ x ∈ l, wrap64 (x / 2) ≤ V) : Ev (fun k => inquestref03_lits.f k l V) true := by
  have key : ∀ (d i : Nat), l.length - i = d → i ≤ l.length → Ev (fun k => inquestref03_lits.l0 k l V (i : Int)) true := by
    intro d
    induction d with
    | zero =>
      intro i hd hi
      refine Ev.step (f := fun _ => some true) (fun k => ?_) (Ev.now true)
      simp only [inquestref03_lits.l0]
      rw [if_neg (by omega), decide_eq_true (by omega)]
    | succ d ih =>
      intro i hd hi
      have hlt : i < l.length := by omega
      have hx := hu _ (List.getElem_mem hlt)
      have hy := hb _ (List.getElem_mem hlt)
      rw [wrap64_id (by omega) (by omega)] at hy
      refine Ev.step (fun k => ?_) (ih (i + 1) (by omega) (by omega))
      simp only [inquestref03_lits.l0]
      rw [if_pos (by omega), if_pos (by omega), rd_at hlt, half_u32 hx.1 hx.2, if_neg (by omega), wrap_nat (by omega)]
  exact key l.length 0 (by omega) (by omega)
section
variable {a0 : Int} {l1 : List S41} {l2 : List S68} {l3 l4 l5 : List Int}
theorem mayr_ev (hv : Valid a0 l1 l2 l3 l4 l5) (h1 : In41 l1) (h2 : In68 l2) (h3 : InU32 l3) (h4 : InU32 l4) (h5 : InU32 l5) : Ev (fun k => inquestref03_May.f k a0 l1 l2 l3 l4 l5) true := by
  have hp := hv.pos
  have hle := hv.le
  obtain ⟨V, hV⟩ : ∃ V, a0 + (l1.length : Int) + (l2.length : Int) = V := ⟨_, rfl⟩
  have hend : Ev (fun k => (inquestref03_lits.f k l3 V).bind fun t166 => (if t166 = true then ((inquestref03_lits.f k l4 V).bind fun t167 => (if t167 = true then ((inquestref03_lits.f k l5 V).bind fun t168 => (some t168)) else (some false))) else (some false))) true := by
    refine Ev.bind (lits_ev h3 hv.outs.1 (by rw [← hV]; exact hv.outs.2)) (Ev.ifp rfl ?_)
    refine Ev.bind (lits_ev h4 hv.bads.1 (by rw [← hV]; exact hv.bads.2)) (Ev.ifp rfl ?_)
    exact Ev.bind (lits_ev h5 hv.cons.1 (by rw [← hV]; exact hv.cons.2)) (Ev.now true)
  have key2 : ∀ (d i : Nat), l2.length - i = d → i ≤ l2.length → Ev (fun k => inquestref03_May.l1 k V (i : Int) a0 l1 l2 l3 l4 l5) true := by
    intro d
    induction d with
    | zero =>
      intro i hd hi
      refine Ev.step (fun k => ?_) hend
      simp only [inquestref03_May.l1]
      rw [if_neg (by omega)]
    | succ d ih =>
      intro i hd hi
      have hlt : i < l2.length := by omega
      have hx := h2 _ (List.getElem_mem hlt)
      have hy := hv.gate i hlt
      refine Ev.step (fun k => ?_) (ih (i + 1) (by omega) (by omega))
      simp only [inquestref03_May.l1]
      rw [if_pos (by omega), if_pos (by omega), rd68_at hlt, half_u32 hx.1.1 hx.1.2, wrap64_id (x := a0 + (l1.length : Int)) (by omega) (by omega), wrap64_id (x := a0 + (l1.length : Int) + 1) (by omega) (by omega), wrap64_id (x := a0 + (l1.length : Int) + 1 + (i : Int)) (by omega) (by omega), if_neg (by omega), if_neg (by omega), wrap_nat (by omega)]
  have key1 : ∀ (d i : Nat), l1.length - i = d → i ≤ l1.length → Ev (fun k => inquestref03_May.l0 k V (i : Int) a0 l1 l2 l3 l4 l5) true := by
    intro d
    induction d with
    | zero =>
      intro i hd hi
      refine Ev.step (fun k => ?_) (key2 l2.length 0 (by omega) (by omega))
      simp only [inquestref03_May.l0]
      rw [if_neg (by omega)]
      rfl
    | succ d ih =>
      intro i hd hi
      have hlt : i < l1.length := by omega
      have hx := h1 _ (List.getElem_mem hlt)
      have hy := hv.next i hlt
      have hz := hv.reset i hlt
      refine Ev.step (fun k => ?_) (ih (i + 1) (by omega) (by omega))
      simp only [inquestref03_May.l0]
      rw [if_pos (by omega), if_pos (by omega), rd41_at hlt, half_u32 hx.1.1 hx.1.2, if_neg (by omega), if_neg (by omega), wrap_nat (by omega)]
  have hj : Ev (fun k => inquestref03_May.j0 k false a0 l1 l2 l3 l4 l5) true := by
    refine Ev.step (fun k => ?_) (key1 l1.length 0 (by omega) (by omega))
    simp only [inquestref03_May.j0]
    rw [if_neg (by decide), wrap64_id (x := a0 + (l1.length : Int)) (by omega) (by omega), wrap64_id (x := a0 + (l1.length : Int) + (l2.length : Int)) (by omega) (by omega), hV, if_neg (by omega)]
    rfl
  refine Ev.congr (fun k => ?_) hj
  unfold inquestref03_May.f
  rw [if_neg (by omega), if_neg (by omega), if_neg (by omega), decide_eq_false (by omega)]
end
end Go.Proofs.Yteiiodlgdbiimaa.F
end
section
namespace Go.Proofs.Yteiiodlgdbiimaa.F
open Go.RowKit Go.Shelf Go.Proofs.YteiiodlgdbiimaaW.PrintWords Go.Proofs.YteiiodlgdbiimaaW.PrintLast Go.Proofs.YteiiodlgdbiimaaW.PrintMore
set_option linter.unusedVariables false
set_option linter.unusedSimpArgs false
theorem wrap_nat' {i : Nat} (h : i + 1 < 9223372036854775808) : wrap64 ((i : Int) + 1) = ((i + 1 : Nat) : Int) := by
  have e : ((i + 1 : Nat) : Int) = (i : Int) + 1 := by push_cast; rfl
  rw [e]
  exact wrap64_id (by omega) (by omega)
theorem drop_at {α : Type} {l : List α} {i : Nat} (h : i < l.length) : l.drop i = l[i] :: l.drop (i + 1) := List.drop_eq_getElem_cons h
theorem lits_all {l : List Int} {V : Int} (hu : InU32 l) (hl : l.length < 9223372036854775808) : Ev (fun k => inquestref03_lits.f k l V) (l.all (fun x => decide (x / 2 ≤ V)) && decide ((l.length : Int) ≤ 1024)) := by
  have key : ∀ (d i : Nat), l.length - i = d → i ≤ l.length → Ev (fun k => inquestref03_lits.l0 k l V (i : Int)) ((l.drop i).all (fun x => decide (x / 2 ≤ V)) && decide ((l.length : Int) ≤ 1024)) := by
    intro d
    induction d with
    | zero =>
      intro i hd hi
      obtain rfl : i = l.length := by omega
      refine Ev.step (f := fun _ => some (decide ((l.length : Int) ≤ 1024))) (fun k => ?_) (by rw [List.drop_length]; exact Ev.now _)
      simp only [inquestref03_lits.l0]
      rw [if_neg (by omega)]
    | succ d ih =>
      intro i hd hi
      have hlt : i < l.length := by omega
      have hx := hu _ (List.getElem_mem hlt)
      rw [drop_at hlt, List.all_cons]
      by_cases hc : l[i] / 2 ≤ V
      · rw [decide_eq_true hc, Bool.true_and]
        refine Ev.step (fun k => ?_) (ih (i + 1) (by omega) (by omega))
        simp only [inquestref03_lits.l0]
        rw [if_pos (by omega), if_pos (by omega), rd_at hlt, half_u32 hx.1 hx.2, if_neg (by omega), wrap_nat' (by omega)]
      · rw [decide_eq_false hc, Bool.false_and, Bool.false_and]
        refine Ev.step (f := fun _ => some false) (fun k => ?_) (Ev.now _)
        simp only [inquestref03_lits.l0]
        rw [if_pos (by omega), if_pos (by omega), rd_at hlt, half_u32 hx.1 hx.2, if_pos (by omega)]
  exact key l.length 0 (by omega) (by omega)
def gok : Int → List S68 → Bool
  | _, [] => true
  | o, g :: r => decide (g.f0 / 2 < o) && decide (g.f1 ≤ g.f0) && gok (o + 1) r
theorem gok_is : ∀ (l : List S68) (o : Int), 0 ≤ o → o + (l.length : Int) < 4294967296 → gatesOk o l = gok (o + 1) l
  | [], _, _, _ => rfl
  | g :: r, o, h0, h1 => by
    rw [List.length_cons] at h1
    unfold gatesOk gok
    rw [u32_id (by omega) (by omega), gok_is r (o + 1) (by omega) (by omega)]
    have e1 : (!decide (o + 1 ≤ g.f0 / 2)) = decide (g.f0 / 2 < o + 1) := by
      by_cases h : o + 1 ≤ g.f0 / 2
      · rw [decide_eq_true h, decide_eq_false (by omega)]; rfl
      · rw [decide_eq_false h, decide_eq_true (by omega)]; rfl
    have e2 : (!decide (g.f0 < g.f1)) = decide (g.f1 ≤ g.f0) := by
      by_cases h : g.f0 < g.f1
      · rw [decide_eq_true h, decide_eq_false (by omega)]; rfl
      · rw [decide_eq_false h, decide_eq_true (by omega)]; rfl
    rw [e1, e2]
section
variable {a0 : Int} {l1 : List S41} {l2 : List S68} {l3 l4 l5 : List Int}
theorem list_is {V : Int} {l : List Int} (hu : InU32 l) : listOk V l = (l.all (fun x => decide (x / 2 ≤ V)) && decide ((l.length : Int) ≤ 1024)) := by
  unfold listOk
  have e1 : (!decide (1024 < (l.length : Int))) = decide ((l.length : Int) ≤ 1024) := by
    by_cases h : 1024 < (l.length : Int)
    · rw [decide_eq_true h, decide_eq_false (by omega)]; rfl
    · rw [decide_eq_false h, decide_eq_true (by omega)]; rfl
  have e2 : ∀ l : List Int, InU32 l → (!l.any (beyW V)) = l.all (fun x => decide (x / 2 ≤ V)) := by
    intro l hu
    induction l with
    | nil => rfl
    | cons x r ih =>
      have hx := hu x (List.mem_cons_self ..)
      rw [List.any_cons, List.all_cons, Bool.not_or, ih (fun y hy => hu y (List.mem_cons_of_mem _ hy))]
      congr 1
      unfold beyW
      rw [wrap64_id (by omega) (by omega)]
      by_cases h : V < x / 2
      · rw [decide_eq_true h, decide_eq_false (by omega)]; rfl
      · rw [decide_eq_false h, decide_eq_true (by omega)]; rfl
  rw [e1, e2 l hu, Bool.and_comm]
theorem mayr_all (ha : -9223372036854775808 ≤ a0 ∧ a0 < 9223372036854775808) (n1 : l1.length ≤ 16384) (n2 : l2.length ≤ 16384) (n3 : l3.length < 9223372036854775808) (n4 : l4.length < 9223372036854775808) (n5 : l5.length < 9223372036854775808)
  (h1 : In41 l1) (h2 : In68 l2) (h3 : InU32 l3) (h4 : InU32 l4) (h5 : InU32 l5) : Ev (fun k => inquestref03_May.f k a0 l1 l2 l3 l4 l5) (mayB a0 l1 l2 l3 l4 l5) := by
 have hjt : Ev (fun k => inquestref03_May.j0 k true a0 l1 l2 l3 l4 l5) false := by
  refine Ev.step (f := fun _ => some false) (fun k => ?_) (Ev.now false)
  simp only [inquestref03_May.j0]
  rw [if_pos trivial]
 by_cases g1 : a0 < 0
 ·
  have e : mayB a0 l1 l2 l3 l4 l5 = false := by unfold mayB; rw [decide_eq_true g1]; simp
  rw [e]
  refine Ev.congr (fun k => ?_) hjt
  unfold inquestref03_May.f
  rw [if_pos g1]
 by_cases g2 : 16384 < a0
 ·
  have e : mayB a0 l1 l2 l3 l4 l5 = false := by unfold mayB; rw [decide_eq_true g2]; simp
  rw [e]
  refine Ev.congr (fun k => ?_) hjt
  unfold inquestref03_May.f
  rw [if_neg g1, if_pos g2]
 have hV := varsW_id (a0 := a0) (n := l1.length) (m := l2.length) (by omega) (by omega) (by omega) (by omega)
 obtain ⟨V, eV⟩ : ∃ V, a0 + (l1.length : Int) + (l2.length : Int) = V := ⟨_, rfl⟩
 rw [eV] at hV
 have hw : wrap64 ((wrap64 (a0 + (l1.length : Int))) + (l2.length : Int)) = V := hV
 have hf : ∀ b, Ev (fun k => inquestref03_May.j0 k false a0 l1 l2 l3 l4 l5) b → Ev (fun k => inquestref03_May.f k a0 l1 l2 l3 l4 l5) b := fun b h => by
  refine Ev.congr (fun k => ?_) h
  unfold inquestref03_May.f
  rw [if_neg g1, if_neg g2, if_neg (by omega), decide_eq_false (by omega)]
 by_cases g3 : 16384 < V
 ·
  have e : mayB a0 l1 l2 l3 l4 l5 = false := by unfold mayB; rw [hV, decide_eq_true g3]; simp
  rw [e]
  refine hf _ (Ev.step (f := fun _ => some false) (fun k => ?_) (Ev.now false))
  simp only [inquestref03_May.j0]
  rw [if_neg (by decide), hw, if_pos g3]
 have hend : Ev (fun k => (inquestref03_lits.f k l3 V).bind fun t166 => (if t166 = true then ((inquestref03_lits.f k l4 V).bind fun t167 => (if t167 = true then ((inquestref03_lits.f k l5 V).bind fun t168 => (some t168)) else (some false))) else (some false))) (listOk V l3 && listOk V l4 && listOk V l5) := by
  rw [list_is h3, list_is h4, list_is h5]
  refine Ev.bind (lits_all h3 n3) ?_
  by_cases c3 : (l3.all (fun x => decide (x / 2 ≤ V)) && decide ((l3.length : Int) ≤ 1024)) = true
  ·
   rw [c3]
   refine Ev.ifp rfl (Ev.bind (lits_all h4 n4) ?_)
   by_cases c4 : (l4.all (fun x => decide (x / 2 ≤ V)) && decide ((l4.length : Int) ≤ 1024)) = true
   ·
    rw [c4]
    exact Ev.ifp rfl (Ev.bind (lits_all h5 n5) (Ev.now _))
   ·
    rw [Bool.not_eq_true] at c4
    rw [c4]
    exact Ev.ifn (by decide) (Ev.now _)
  ·
   rw [Bool.not_eq_true] at c3
   rw [c3]
   exact Ev.ifn (by decide) (Ev.now _)
 generalize hE : (listOk V l3 && listOk V l4 && listOk V l5) = E at hend
 have key2 : ∀ (d i : Nat), l2.length - i = d → i ≤ l2.length → Ev (fun k => inquestref03_May.l1 k V (i : Int) a0 l1 l2 l3 l4 l5) (gok (a0 + (l1.length : Int) + 1 + (i : Int)) (l2.drop i) && E) := by
  intro d
  induction d with
  | zero =>
   intro i hd hi
   obtain rfl : i = l2.length := by omega
   rw [List.drop_length]
   refine Ev.step (fun k => ?_) (show Ev _ (true && E) from by rw [Bool.true_and]; exact hend)
   simp only [inquestref03_May.l1]
   rw [if_neg (by omega)]
  | succ d ih =>
   intro i hd hi
   have hlt : i < l2.length := by omega
   have hx := h2 _ (List.getElem_mem hlt)
   have e1 : a0 + (l1.length : Int) + 1 + (i : Int) + 1 = a0 + (l1.length : Int) + 1 + ((i + 1 : Nat) : Int) := by omega
   rw [drop_at hlt]
   unfold gok
   by_cases c1 : l2[i].f0 / 2 < a0 + (l1.length : Int) + 1 + (i : Int)
   ·
    by_cases c2 : l2[i].f1 ≤ l2[i].f0
    ·
     rw [decide_eq_true c1, decide_eq_true c2, Bool.true_and, Bool.true_and, e1]
     refine Ev.step (fun k => ?_) (ih (i + 1) (by omega) (by omega))
     simp only [inquestref03_May.l1]
     rw [if_pos (by omega), if_pos (by omega), rd68_at hlt, half_u32 hx.1.1 hx.1.2, wrap64_id (x := a0 + (l1.length : Int)) (by omega) (by omega), wrap64_id (x := a0 + (l1.length : Int) + 1) (by omega) (by omega), wrap64_id (x := a0 + (l1.length : Int) + 1 + (i : Int)) (by omega) (by omega), if_neg (by omega), if_neg (by omega), wrap_nat (by omega)]
    ·
     rw [decide_eq_true c1, decide_eq_false c2, Bool.true_and, Bool.false_and, Bool.false_and]
     refine Ev.step (f := fun _ => some false) (fun k => ?_) (Ev.now false)
     simp only [inquestref03_May.l1]
     rw [if_pos (by omega), if_pos (by omega), rd68_at hlt, half_u32 hx.1.1 hx.1.2, wrap64_id (x := a0 + (l1.length : Int)) (by omega) (by omega), wrap64_id (x := a0 + (l1.length : Int) + 1) (by omega) (by omega), wrap64_id (x := a0 + (l1.length : Int) + 1 + (i : Int)) (by omega) (by omega), if_neg (by omega), if_pos (by omega)]
   ·
    rw [decide_eq_false c1, Bool.false_and, Bool.false_and, Bool.false_and]
    refine Ev.step (f := fun _ => some false) (fun k => ?_) (Ev.now false)
    simp only [inquestref03_May.l1]
    rw [if_pos (by omega), if_pos (by omega), rd68_at hlt, half_u32 hx.1.1 hx.1.2, wrap64_id (x := a0 + (l1.length : Int)) (by omega) (by omega), wrap64_id (x := a0 + (l1.length : Int) + 1) (by omega) (by omega), wrap64_id (x := a0 + (l1.length : Int) + 1 + (i : Int)) (by omega) (by omega), if_pos (by omega)]
 have key1 : ∀ (d i : Nat), l1.length - i = d → i ≤ l1.length → Ev (fun k => inquestref03_May.l0 k V (i : Int) a0 l1 l2 l3 l4 l5) ((l1.drop i).all (latchOk V) && (gok (a0 + (l1.length : Int) + 1) l2 && E)) := by
  intro d
  induction d with
  | zero =>
   intro i hd hi
   obtain rfl : i = l1.length := by omega
   rw [List.drop_length]
   have := key2 l2.length 0 (by omega) (by omega)
   rw [List.drop_zero] at this
   refine Ev.step (fun k => ?_) (show Ev _ (true && (gok (a0 + (l1.length : Int) + 1) l2 && E)) from by rw [Bool.true_and]; simpa using this)
   simp only [inquestref03_May.l0]
   rw [if_neg (by omega)]
  | succ d ih =>
   intro i hd hi
   have hlt : i < l1.length := by omega
   have hx := h1 _ (List.getElem_mem hlt)
   rw [drop_at hlt, List.all_cons]
   have el : latchOk V l1[i] = (!decide (2 < l1[i].f1) && !decide (V < l1[i].f0 / 2)) := by
    unfold latchOk beyW
    rw [wrap64_id (by omega) (by omega)]
   rw [el]
   by_cases c1 : V < l1[i].f0 / 2
   ·
    rw [decide_eq_true c1, Bool.not_true, Bool.and_false, Bool.false_and, Bool.false_and]
    refine Ev.step (f := fun _ => some false) (fun k => ?_) (Ev.now false)
    simp only [inquestref03_May.l0]
    rw [if_pos (by omega), if_pos (by omega), rd41_at hlt, half_u32 hx.1.1 hx.1.2, if_pos c1]
   ·
    by_cases c2 : 2 < l1[i].f1
    ·
     rw [decide_eq_true c2, Bool.not_true, Bool.false_and, Bool.false_and, Bool.false_and]
     refine Ev.step (f := fun _ => some false) (fun k => ?_) (Ev.now false)
     simp only [inquestref03_May.l0]
     rw [if_pos (by omega), if_pos (by omega), rd41_at hlt, half_u32 hx.1.1 hx.1.2, if_neg c1, if_pos c2]
    ·
     rw [decide_eq_false c1, decide_eq_false c2, Bool.not_false, Bool.true_and, Bool.true_and]
     refine Ev.step (fun k => ?_) (ih (i + 1) (by omega) (by omega))
     simp only [inquestref03_May.l0]
     rw [if_pos (by omega), if_pos (by omega), rd41_at hlt, half_u32 hx.1.1 hx.1.2, if_neg c1, if_neg c2, wrap_nat (by omega)]
 have hm : mayB a0 l1 l2 l3 l4 l5 = (l1.all (latchOk V) && (gok (a0 + (l1.length : Int) + 1) l2 && E)) := by
  unfold mayB
  rw [hV, decide_eq_false g1, decide_eq_false g2, decide_eq_false g3, wrap64_id (x := a0 + (l1.length : Int)) (by omega) (by omega), u32_id (by omega) (by omega), gok_is l2 _ (by omega) (by omega), ← hE]
  generalize listOk V l3 = x
  generalize listOk V l4 = y
  generalize listOk V l5 = z
  generalize l1.all (latchOk V) = u
  generalize gok (a0 + (l1.length : Int) + 1) l2 = v
  cases x <;> cases y <;> cases z <;> cases u <;> cases v <;> rfl
 have := key1 l1.length 0 (by omega) (by omega)
 rw [List.drop_zero, ← hm] at this
 refine hf _ (Ev.step (fun k => ?_) this)
 simp only [inquestref03_May.j0]
 rw [if_neg (by decide), hw, if_neg (by omega)]
 rfl
end
end Go.Proofs.Yteiiodlgdbiimaa.F
end
section
namespace Go.Proofs.Yteiiodlgdbiimaa.F
open Go.RowKit Go.Shelf Go.Proofs.YteiiodlgdbiimaaW.PrintWords Go.Proofs.YteiiodlgdbiimaaW.PrintLast Go.Proofs.YteiiodlgdbiimaaW.PrintMore
set_option linter.unusedVariables false
set_option linter.unusedSimpArgs false
def Nice (g : S68) : Prop := 2 ≤ g.f1 ∧ g.f1 < g.f0 ∧ g.f1 / 2 ≠ g.f0 / 2 ∧ g.f0 < 4294967296
structure ShW (F : Int) (tl : List Int) (gs : List S68) (k : Nat) : Prop where
  len : tl.length = k
  u32 : InU32 tl
  inb : ∀ v : Nat, v < k → rd tl (v : Int) / 2 < F + (gs.length : Int)
  nice : ∀ (j : Nat) (g : S68), gs[j]? = some g → Nice g ∧ g.f0 / 2 < F + (j : Int)
  ap : Apart68 gs
  few : gs.length = 0 ∨ F + (gs.length : Int) ≤ (k : Int)
theorem rd_snoc' {l : List Int} {y : Int} {v : Nat} (h : v < l.length) : rd (l ++ [y]) (v : Int) = rd l (v : Int) := by
  unfold rd
  rw [List.getD_eq_getElem?_getD, List.getD_eq_getElem?_getD, List.getElem?_append_left (by simp; omega)]
theorem rd_last' {l : List Int} {y : Int} : rd (l ++ [y]) (l.length : Int) = y := by
  unfold rd
  simp
section
variable {F : Int} {tl : List Int} {gs : List S68} {k : Nat}
theorem ShW.litb (h : ShW F tl gs k) (hf : 1 ≤ F ∧ F ≤ 40000) {x : Int} (h0 : 0 ≤ x) (h1 : x < 4294967296) : litP tl x / 2 < F + (gs.length : Int) := by
  unfold litP
  split
  · rename_i hlt
    have hr := rd_u32 h.u32 (x / 2)
    obtain ⟨v, hv⟩ : ∃ v : Nat, x / 2 = (v : Int) := ⟨(x / 2).toNat, by omega⟩
    have hlen := h.len
    have hi := h.inb v (by omega)
    rw [and_one h0 h1, hv]
    rw [hv] at hr
    rcases (show x % 2 = 0 ∨ x % 2 = 1 by omega) with e | e
    · rw [e, xor_zero32 hr.1 hr.2]
      exact hi
    · rw [e, xor_one hr.1 hr.2]
      omega
  · omega
theorem ShW.snoc (h : ShW F tl gs k) {y : Int} (hy : 0 ≤ y ∧ y < 4294967296) (hyb : y / 2 < F + (gs.length : Int)) : ShW F (tl ++ [y]) gs (k + 1) := by
  have hlen := h.len
  have hfw := h.few
  refine ⟨by rw [List.length_append, hlen]; rfl, fun x hx => ?_, fun v hv => ?_, h.nice, h.ap, by omega⟩
  · rcases List.mem_append.1 hx with hx | hx
    · exact h.u32 x hx
    · rw [List.mem_singleton.1 hx]
      exact hy
  · by_cases e : v = k
    · subst e
      have e1 : rd (tl ++ [y]) (v : Int) = y := by rw [← hlen]; exact rd_last'
      rw [e1]
      exact hyb
    · rw [rd_snoc' (by omega)]
      exact h.inb v (by omega)
theorem ShW.gate (h : ShW F tl gs k) (hf : 1 ≤ F ∧ F ≤ 40000) (hg : gs.length ≤ 40000) (hk : F ≤ (k : Int)) {a b : Int} (ha : 0 ≤ a ∧ a < 4294967296) (hb : 0 ≤ b ∧ b < 4294967296) (hai : a / 2 < F + (gs.length : Int)) (hbi : b / 2 < F + (gs.length : Int)) :
    ShW F (tl ++ [(gateP F gs a b).1]) (gateP F gs a b).2 (k + 1) := by
  have hHI : (0 ≤ mx a b ∧ mx a b < 4294967296) ∧ mx a b / 2 < F + (gs.length : Int) := by unfold mx; split <;> exact ⟨by omega, by omega⟩
  have hLO : (0 ≤ mn a b ∧ mn a b < 4294967296) ∧ mn a b / 2 < F + (gs.length : Int) := by unfold mn; split <;> exact ⟨by omega, by omega⟩
  have hML : mn a b ≤ mx a b := by unfold mn mx; split <;> split <;> omega
  unfold gateP
  generalize mx a b = hi at hHI hML ⊢
  generalize mn a b = lo at hLO hML ⊢
  have hlen := h.len
  have hfw := h.few
  by_cases c0 : lo = 0
  · rw [if_pos c0]
    exact h.snoc ⟨by dsimp only; omega, by dsimp only; omega⟩ (by dsimp only; omega)
  rw [if_neg c0]
  by_cases c1 : hi = Go.bits .xor .u32 lo 1
  · rw [if_pos c1]
    exact h.snoc ⟨by dsimp only; omega, by dsimp only; omega⟩ (by dsimp only; omega)
  rw [if_neg c1]
  by_cases c2 : lo = 1
  · rw [if_pos c2]
    exact h.snoc hHI.1 hHI.2
  rw [if_neg c2]
  by_cases c3 : hi = lo
  · rw [if_pos c3]
    exact h.snoc hHI.1 hHI.2
  rw [if_neg c3]
  rw [xor_one hLO.1.1 hLO.1.2] at c1
  cases hx : idxG gs hi lo with
  | some j =>
    have hjl := idxG_lt hx
    exact h.snoc ⟨by dsimp only; omega, by dsimp only; omega⟩ (by dsimp only; omega)
  | none =>
    dsimp only
    have hno := idxG_none gs hx
    refine ⟨by simp [hlen], fun x hx => ?_, fun v hv => ?_, fun j g hj => ?_, Apart68.snoc h.ap hno, by simp; omega⟩
    · rcases List.mem_append.1 hx with hx | hx
      · exact h.u32 x hx
      · rw [List.mem_singleton.1 hx]
        omega
    · rw [List.length_append, List.length_singleton]
      by_cases e : v = k
      · subst e
        have e1 : rd (tl ++ [2 * (F + (gs.length : Int))]) (v : Int) = 2 * (F + (gs.length : Int)) := by rw [← hlen]; exact rd_last'
        rw [e1]
        omega
      · rw [rd_snoc' (by omega)]
        have := h.inb v (by omega)
        omega
    · by_cases e : j < gs.length
      · rw [List.getElem?_append_left e] at hj
        exact h.nice j g hj
      · have hjl := (List.getElem?_eq_some_iff.1 hj).1
        rw [List.length_append, List.length_singleton] at hjl
        obtain rfl : j = gs.length := by omega
        rw [List.getElem?_append_right (Nat.le_refl _), Nat.sub_self] at hj
        cases hj
        refine ⟨⟨by dsimp only; omega, by dsimp only; omega, by dsimp only; omega, by dsimp only; omega⟩, by dsimp only; omega⟩
theorem run_shape {l2 : List S68} {is : List Int} (hf : 1 ≤ F ∧ F ≤ 20000) (h2 : In68 l2) (hi : ∀ i : Int, 0 ≤ rd is i ∧ rd is i ≤ 2) : ∀ k : Nat, k ≤ 40000 → ShW F (runW F l2 is k).1 (runW F l2 is k).2 k
  | 0, _ => ⟨rfl, (fun x hx => nomatch hx), (fun v hv => absurd hv (Nat.not_lt_zero v)), (fun j g hj => by cases hj), (fun i j g h hi hj => by cases hi), .inl rfl⟩
  | k + 1, hk => by
    have hS := run_shape hf h2 hi k (by omega)
    have hx := hi (k : Int)
    unfold runW
    generalize runW F l2 is k = s at hS ⊢
    have hfw := hS.few
    unfold stepW
    by_cases h : rd is (k : Int) = 2
    · rw [if_neg (by simpa using h)]
      by_cases hk2 : (k : Int) < F
      · rw [if_pos hk2]
        exact hS.snoc ⟨by omega, by omega⟩ (by omega)
      · rw [if_neg hk2]
        have hu := rd68_ok h2 ((k : Int) - F)
        exact hS.gate ⟨hf.1, by omega⟩ (by omega) (by omega) (litP_u32 hS.u32 hu.1.1 hu.1.2) (litP_u32 hS.u32 hu.2.1 hu.2.2) (hS.litb ⟨hf.1, by omega⟩ hu.1.1 hu.1.2) (hS.litb ⟨hf.1, by omega⟩ hu.2.1 hu.2.2)
    · rw [if_pos h]
      exact hS.snoc ⟨by omega, by omega⟩ (by omega)
end
def latM (tl : List Int) (l1 : List S41) : List S41 := l1.map (fun g => ⟨litP tl g.f0, g.f1⟩)
theorem map_u32 {tl l : List Int} (ht : InU32 tl) (hl : InU32 l) : InU32 (l.map (litP tl)) := fun x hx => by
  obtain ⟨y, hy, rfl⟩ := List.mem_map.1 hx
  have := hl y hy
  exact litP_u32 ht this.1 this.2
theorem lat_in {tl : List Int} {l1 : List S41} (ht : InU32 tl) (h1 : In41 l1) : In41 (latM tl l1) := fun g hg => by
  obtain ⟨y, hy, rfl⟩ := List.mem_map.1 hg
  have := h1 y hy
  exact ⟨litP_u32 ht this.1.1 this.1.2, this.2⟩
theorem with_valid {a0 : Int} {l1 : List S41} {l2 : List S68} {l3 l4 l5 is : List Int} (hv : Valid a0 l1 l2 l3 l4 l5) (h1 : In41 l1) (h2 : In68 l2) (h3 : InU32 l3) (h4 : InU32 l4) (h5 : InU32 l5) (hi : ∀ i : Int, 0 ≤ rd is i ∧ rd is i ≤ 2) (hil : (is.length : Int) = a0 + (l1.length : Int) + (l2.length : Int) + 1) :
    ShW (1 + a0 + (l1.length : Int)) (wasW a0 l1 l2 is).1 (wasW a0 l1 l2 is).2 is.length ∧ (wasW a0 l1 l2 is).2.length ≤ l2.length ∧ In41 (latM (wasW a0 l1 l2 is).1 l1) ∧ In68 (wasW a0 l1 l2 is).2 ∧ InU32 (l3.map (litP (wasW a0 l1 l2 is).1)) ∧ InU32 (l4.map (litP (wasW a0 l1 l2 is).1)) ∧ InU32 (l5.map (litP (wasW a0 l1 l2 is).1)) ∧
    Valid a0 (latM (wasW a0 l1 l2 is).1 l1) (wasW a0 l1 l2 is).2 (l3.map (litP (wasW a0 l1 l2 is).1)) (l4.map (litP (wasW a0 l1 l2 is).1)) (l5.map (litP (wasW a0 l1 l2 is).1)) := by
  have hp := hv.pos
  have hle := hv.le
  have hS : ShW (1 + a0 + (l1.length : Int)) (wasW a0 l1 l2 is).1 (wasW a0 l1 l2 is).2 is.length := run_shape ⟨by omega, by omega⟩ h2 hi is.length (by omega)
  generalize wasW a0 l1 l2 is = s at hS ⊢
  have hfw := hS.few
  have hg : s.2.length ≤ l2.length := by omega
  have ho : ∀ l : List Int, InU32 l → l.length ≤ 1024 → (l.map (litP s.1)).length ≤ 1024 ∧ ∀ x ∈ l.map (litP s.1), wrap64 (x / 2) ≤ a0 + ((latM s.1 l1).length : Int) + (s.2.length : Int) := fun l hl hn => by
    refine ⟨by rw [List.length_map]; exact hn, fun x hx => ?_⟩
    obtain ⟨y, hy, rfl⟩ := List.mem_map.1 hx
    have hu := hl y hy
    have hb := hS.litb ⟨by omega, by omega⟩ hu.1 hu.2
    have hr := litP_u32 hS.u32 hu.1 hu.2
    unfold latM
    rw [wrap64_id (by omega) (by omega), List.length_map]
    omega
  refine ⟨hS, hg, lat_in hS.u32 h1, fun g hgm => ?_, map_u32 hS.u32 h3, map_u32 hS.u32 h4, map_u32 hS.u32 h5, ⟨hp, by unfold latM; rw [List.length_map]; omega, fun k hk => ?_, fun k hk => ?_, fun k hk => ?_, ho l3 h3 hv.outs.1, ho l4 h4 hv.bads.1, ho l5 h5 hv.cons.1⟩⟩
  · obtain ⟨j, hj⟩ := List.getElem?_of_mem hgm
    obtain ⟨⟨n1, n2, n3, n4⟩, n5⟩ := hS.nice j g hj
    exact ⟨⟨by omega, by omega⟩, by omega, by omega⟩
  · have hk' : k < l1.length := by unfold latM at hk; rw [List.length_map] at hk; exact hk
    have hu := h1 _ (List.getElem_mem hk')
    have hb := hS.litb ⟨by omega, by omega⟩ hu.1.1 hu.1.2
    have hr := litP_u32 hS.u32 hu.1.1 hu.1.2
    have e : ((latM s.1 l1)[k]).f0 = litP s.1 l1[k].f0 := by simp only [latM, List.getElem_map]
    have el : (latM s.1 l1).length = l1.length := by unfold latM; rw [List.length_map]
    rw [e, el]
    exact ⟨hr.1, by omega⟩
  · have hk' : k < l1.length := by unfold latM at hk; rw [List.length_map] at hk; exact hk
    have e : ((latM s.1 l1)[k]).f1 = l1[k].f1 := by simp only [latM, List.getElem_map]
    rw [e]
    exact hv.reset k hk'
  · obtain ⟨⟨n1, n2, n3, n4⟩, n5⟩ := hS.nice k s.2[k] (List.getElem?_eq_getElem hk)
    have el : (latM s.1 l1).length = l1.length := by unfold latM; rw [List.length_map]
    rw [el]
    exact ⟨by omega, by omega, by omega⟩
end Go.Proofs.Yteiiodlgdbiimaa.F
end
section
namespace Go.Proofs.Yteiiodlgdbiimaa.F
open Go.RowKit Go.Shelf Go.Proofs.YteiiodlgdbiimaaW.PrintWords Go.Proofs.YteiiodlgdbiimaaW.PrintLast Go.Proofs.YteiiodlgdbiimaaW.PrintMore
set_option linter.unusedVariables false
set_option linter.unusedSimpArgs false
def notP (x : Int) : Int := if x = 0 then 1 else if x = 1 then 0 else 2
def andP (x y : Int) : Int := if x = 0 ∨ y = 0 then 0 else if x = 1 ∧ y = 1 then 1 else 2
def valP (vars : List Int) (x : Int) : Int := if (vars.length : Int) ≤ x / 2 then 2 else if 2 < rd vars (x / 2) then 2 else if x % 2 = 1 then notP (rd vars (x / 2)) else rd vars (x / 2)
def runV (base : List Int) (l2 : List S68) : Nat → List Int
  | 0 => base
  | k + 1 => runV base l2 k ++ [andP (valP (runV base l2 k) (rd_T68 l2 (k : Int)).f0) (valP (runV base l2 k) (rd_T68 l2 (k : Int)).f1)]
def le3 (x y : Int) : Prop := x = 2 ∨ y = x
def Tri (x : Int) : Prop := x = 0 ∨ x = 1 ∨ x = 2
theorem le3_refl (x : Int) : le3 x x := .inr rfl
theorem le3_trans {x y z : Int} (h : le3 x y) (k : le3 y z) : le3 x z := by unfold le3 at *; omega
theorem not_tri (x : Int) : Tri (notP x) := by unfold notP Tri; split <;> (try split) <;> omega
theorem and_tri (x y : Int) : Tri (andP x y) := by unfold andP Tri; split <;> (try split) <;> omega
theorem not_mono {x y : Int} (h : le3 x y) : le3 (notP x) (notP y) := by
  rcases h with rfl | rfl
  · exact .inl rfl
  · exact le3_refl _
theorem and_comm3 (x y : Int) : andP x y = andP y x := by
  unfold andP
  by_cases h1 : x = 0 <;> by_cases h2 : y = 0 <;> by_cases h3 : x = 1 <;> by_cases h4 : y = 1 <;> simp [h1, h2, h3, h4]
theorem and_mono {x y x' y' : Int} (h : le3 x x') (k : le3 y y') : le3 (andP x y) (andP x' y') := by
  unfold le3 andP at *
  rcases h with rfl | rfl
  · rcases k with rfl | rfl
    · left
      simp
    · by_cases hy : y' = 0
      · right
        simp [hy]
      · left
        simp [hy]
  · rcases k with rfl | rfl
    · by_cases hx : x' = 0
      · right
        simp [hx]
      · left
        simp [hx]
    · exact .inr rfl
theorem and_one3 {x : Int} (h : Tri x) : andP x 1 = x := by
  rcases h with rfl | rfl | rfl <;> rfl
theorem and_self3 {x : Int} (h : Tri x) : andP x x = x := by
  rcases h with rfl | rfl | rfl <;> rfl
theorem and_not3 {x : Int} (h : Tri x) : le3 (andP (notP x) x) 0 := by
  rcases h with rfl | rfl | rfl
  · exact .inr rfl
  · exact .inr rfl
  · exact .inl rfl
theorem not_not3 {x : Int} (h : Tri x) : notP (notP x) = x := by
  rcases h with rfl | rfl | rfl <;> rfl
def TriL (l : List Int) : Prop := ∀ x ∈ l, Tri x
theorem rd_tri {l : List Int} (h : TriL l) (i : Int) : Tri (rd l i) := by
  unfold rd
  rw [List.getD_eq_getElem?_getD]
  cases hg : l[i.toNat]? with
  | none => exact .inl rfl
  | some v => exact h v (List.mem_of_getElem? hg)
theorem val_tri {l : List Int} (h : TriL l) (x : Int) : Tri (valP l x) := by
  unfold valP
  split
  · exact .inr (.inr rfl)
  split
  · exact .inr (.inr rfl)
  split
  · exact not_tri _
  · exact rd_tri h _
theorem val_in {l : List Int} (h : TriL l) {x : Int} (hx : x / 2 < (l.length : Int)) : valP l x = if x % 2 = 1 then notP (rd l (x / 2)) else rd l (x / 2) := by
  unfold valP
  have := rd_tri h (x / 2)
  unfold Tri at this
  rw [if_neg (by omega), if_neg (by omega)]
theorem rd_app {l t : List Int} {i : Int} (h0 : 0 ≤ i) (h : i < (l.length : Int)) : rd (l ++ t) i = rd l i := by
  unfold rd
  rw [List.getD_eq_getElem?_getD, List.getD_eq_getElem?_getD, List.getElem?_append_left (by omega)]
theorem rd_last {l : List Int} {y : Int} : rd (l ++ [y]) (l.length : Int) = y := by
  unfold rd
  simp
theorem val_app {l t : List Int} {x : Int} (h0 : 0 ≤ x) (h : x / 2 < (l.length : Int)) : valP (l ++ t) x = valP l x := by
  unfold valP
  have h1 : ¬ ((l ++ t).length : Int) ≤ x / 2 := by rw [List.length_append]; omega
  have h2 : ¬ (l.length : Int) ≤ x / 2 := by omega
  rw [rd_app (by omega) h, if_neg h1, if_neg h2]
theorem run_len {base : List Int} {l2 : List S68} : ∀ k : Nat, (runV base l2 k).length = base.length + k
  | 0 => rfl
  | k + 1 => by
    unfold runV
    rw [List.length_append, run_len k]
    simp
    omega
theorem run_tri {base : List Int} {l2 : List S68} (hb : TriL base) : ∀ k : Nat, TriL (runV base l2 k)
  | 0 => hb
  | k + 1 => fun x hx => by
    unfold runV at hx
    rcases List.mem_append.1 hx with hx | hx
    · exact run_tri hb k x hx
    · rw [List.mem_singleton.1 hx]
      exact and_tri _ _
theorem run_app {base : List Int} {l2 : List S68} (k : Nat) : ∀ d : Nat, ∃ t, runV base l2 (k + d) = runV base l2 k ++ t
  | 0 => ⟨[], by simp⟩
  | d + 1 => by
    obtain ⟨t, h⟩ := run_app k d
    refine ⟨t ++ [andP (valP (runV base l2 (k + d)) (rd_T68 l2 ((k + d : Nat) : Int)).f0) (valP (runV base l2 (k + d)) (rd_T68 l2 ((k + d : Nat) : Int)).f1)], ?_⟩
    show runV base l2 (k + d + 1) = _
    rw [runV, ← List.append_assoc, ← h]
theorem run_more {base : List Int} {l2 t : List S68} : ∀ k : Nat, k ≤ l2.length → runV base (l2 ++ t) k = runV base l2 k
  | 0, _ => rfl
  | k + 1, h => by
    have e : rd_T68 (l2 ++ t) (k : Int) = rd_T68 l2 (k : Int) := by
      unfold rd_T68
      rw [List.getD_eq_getElem?_getD, List.getD_eq_getElem?_getD, List.getElem?_append_left (by simp; omega)]
    unfold runV
    rw [run_more k (by omega), e]
theorem run_at {base : List Int} {l2 : List S68} {m j : Nat} (hj : j < m) (h0 : 0 ≤ (rd_T68 l2 (j : Int)).f0 ∧ (rd_T68 l2 (j : Int)).f0 / 2 < (base.length : Int) + (j : Int)) (h1 : 0 ≤ (rd_T68 l2 (j : Int)).f1 ∧ (rd_T68 l2 (j : Int)).f1 / 2 < (base.length : Int) + (j : Int)) :
    rd (runV base l2 m) ((base.length : Int) + (j : Int)) = andP (valP (runV base l2 m) (rd_T68 l2 (j : Int)).f0) (valP (runV base l2 m) (rd_T68 l2 (j : Int)).f1) := by
  obtain ⟨d, rfl⟩ : ∃ d, m = j + 1 + d := ⟨m - (j + 1), by omega⟩
  obtain ⟨t, ht⟩ := run_app (base := base) (l2 := l2) (j + 1) d
  have hl := run_len (base := base) (l2 := l2) j
  have hl1 := run_len (base := base) (l2 := l2) (j + 1)
  rw [ht, rd_app (by omega) (by omega), val_app h0.1 (by omega), val_app h1.1 (by omega)]
  rw [runV, val_app h0.1 (by omega), val_app h1.1 (by omega)]
  have e : (base.length : Int) + (j : Int) = ((runV base l2 j).length : Int) := by omega
  rw [e, rd_last]
theorem lit_val {now tl : List Int} {x : Int} (hn : TriL now) (ht : InU32 tl) (h0 : 0 ≤ x) (h1 : x < 4294967296) (hlt : x / 2 < (tl.length : Int)) (hin : rd tl (x / 2) / 2 < (now.length : Int)) :
    valP now (litP tl x) = if x % 2 = 1 then notP (valP now (rd tl (x / 2))) else valP now (rd tl (x / 2)) := by
  have hr := rd_u32 ht (x / 2)
  unfold litP
  rw [if_pos hlt, and_one h0 h1]
  generalize rd tl (x / 2) = r at hr hin ⊢
  rcases (show x % 2 = 0 ∨ x % 2 = 1 by omega) with e | e
  · rw [e, xor_zero32 hr.1 hr.2, if_neg (by decide)]
  · rw [e, xor_one hr.1 hr.2, if_pos rfl, val_in hn (by omega), val_in hn hin]
    have e2 : (2 * (r / 2) + (r + 1) % 2) / 2 = r / 2 := by omega
    rw [e2]
    rcases (show r % 2 = 0 ∨ r % 2 = 1 by omega) with e3 | e3
    · rw [if_pos (by omega), if_neg (by omega)]
    · rw [if_neg (by omega), if_pos e3, not_not3 (rd_tri hn _)]
structure GoodW (F : Int) (base V tl : List Int) (gs : List S68) (k : Nat) : Prop where
  len : tl.length = k
  u32 : InU32 tl
  inb : ∀ v : Nat, v < k → rd tl (v : Int) / 2 < F + (gs.length : Int)
  val : ∀ v : Nat, v < k → le3 (rd V (v : Int)) (valP (runV base gs gs.length) (rd tl (v : Int)))
  refs : ∀ j : Nat, j < gs.length → (0 ≤ (rd_T68 gs (j : Int)).f0 ∧ (rd_T68 gs (j : Int)).f0 / 2 < F + (j : Int)) ∧ (0 ≤ (rd_T68 gs (j : Int)).f1 ∧ (rd_T68 gs (j : Int)).f1 / 2 < F + (j : Int))
theorem GoodW.lit {F : Int} {base V tl : List Int} {gs : List S68} {k : Nat} (h : GoodW F base V tl gs k) (hF : (base.length : Int) = F) (hb : TriL base) (hV : TriL V) (hk : k ≤ V.length) {x : Int} (h0 : 0 ≤ x) (h1 : x < 4294967296) (hx : x / 2 < (k : Int)) :
    le3 (valP V x) (valP (runV base gs gs.length) (litP tl x)) ∧ litP tl x / 2 < F + (gs.length : Int) := by
  have hn := run_tri (l2 := gs) hb gs.length
  have hl := run_len (base := base) (l2 := gs) gs.length
  obtain ⟨v, hv⟩ : ∃ v : Nat, x / 2 = (v : Int) := ⟨(x / 2).toNat, by omega⟩
  have hi := h.inb v (by omega)
  have hvl := h.val v (by omega)
  have hr := rd_u32 h.u32 (v : Int)
  have hlen := h.len
  constructor
  · rw [lit_val hn h.u32 h0 h1 (by omega) (by rw [hv]; omega), val_in hV (by omega), hv]
    split
    · exact not_mono hvl
    · exact hvl
  · unfold litP
    rw [if_pos (by omega), and_one h0 h1, hv]
    rcases (show x % 2 = 0 ∨ x % 2 = 1 by omega) with e | e
    · rw [e, xor_zero32 hr.1 hr.2]
      exact hi
    · rw [e, xor_one hr.1 hr.2]
      omega
theorem rd_snoc {l : List Int} {y : Int} {v : Nat} (h : v < l.length) : rd (l ++ [y]) (v : Int) = rd l (v : Int) := rd_app (by omega) (by omega)
theorem rd68_snoc {l : List S68} {y : S68} {v : Nat} (h : v < l.length) : rd_T68 (l ++ [y]) (v : Int) = rd_T68 l (v : Int) := by
  unfold rd_T68
  rw [List.getD_eq_getElem?_getD, List.getD_eq_getElem?_getD, List.getElem?_append_left (by simp; omega)]
theorem rd68_last {l : List S68} {y : S68} : rd_T68 (l ++ [y]) (l.length : Int) = y := by
  unfold rd_T68
  simp
theorem GoodW.snoc {F : Int} {base V tl : List Int} {gs : List S68} {k : Nat} (h : GoodW F base V tl gs k) {y : Int} (hy : 0 ≤ y ∧ y < 4294967296) (hyb : y / 2 < F + (gs.length : Int)) (hyv : le3 (rd V (k : Int)) (valP (runV base gs gs.length) y)) : GoodW F base V (tl ++ [y]) gs (k + 1) := by
  have hlen := h.len
  refine ⟨by rw [List.length_append, hlen]; rfl, fun x hx => ?_, fun v hv => ?_, fun v hv => ?_, h.refs⟩
  · rcases List.mem_append.1 hx with hx | hx
    · exact h.u32 x hx
    · rw [List.mem_singleton.1 hx]
      exact hy
  · by_cases e : v = k
    · subst e
      have e1 : rd (tl ++ [y]) (v : Int) = y := by rw [← hlen]; exact rd_last
      rw [e1]
      exact hyb
    · rw [rd_snoc (by omega)]
      exact h.inb v (by omega)
  · by_cases e : v = k
    · subst e
      have : rd (tl ++ [y]) (v : Int) = y := by rw [← hlen]; exact rd_last
      rw [this]
      exact hyv
    · rw [rd_snoc (by omega)]
      exact h.val v (by omega)
theorem GoodW.gate {F : Int} {base V tl : List Int} {gs : List S68} {k : Nat} (h : GoodW F base V tl gs k) (hF : (base.length : Int) = F) {g : S68} (h0 : 0 ≤ g.f0 ∧ g.f0 / 2 < F + (gs.length : Int)) (h1 : 0 ≤ g.f1 ∧ g.f1 / 2 < F + (gs.length : Int)) :
    GoodW F base V tl (gs ++ [g]) k ∧ runV base (gs ++ [g]) (gs ++ [g]).length = runV base gs gs.length ++ [andP (valP (runV base gs gs.length) g.f0) (valP (runV base gs gs.length) g.f1)] := by
  have hl := run_len (base := base) (l2 := gs) gs.length
  have e : runV base (gs ++ [g]) (gs ++ [g]).length = runV base gs gs.length ++ [andP (valP (runV base gs gs.length) g.f0) (valP (runV base gs gs.length) g.f1)] := by
    rw [List.length_append, List.length_singleton, runV, run_more _ (Nat.le_refl _), rd68_last]
  refine ⟨⟨h.len, h.u32, fun v hv => ?_, fun v hv => ?_, fun j hj => ?_⟩, e⟩
  · have := h.inb v hv
    rw [List.length_append, List.length_singleton]
    omega
  · have hi := h.inb v hv
    have hr := rd_u32 h.u32 (v : Int)
    rw [e, val_app hr.1 (by omega)]
    exact h.val v hv
  · rw [List.length_append, List.length_singleton] at hj
    by_cases ej : j = gs.length
    · subst ej
      rw [rd68_last]
      exact ⟨h0, h1⟩
    · rw [rd68_snoc (by omega)]
      exact h.refs j (by omega)
theorem now_zero {base : List Int} {gs : List S68} (hb : TriL base) (h1 : 1 ≤ base.length) (hz : rd base 0 = 0) : rd (runV base gs gs.length) 0 = 0 := by
  obtain ⟨t, ht⟩ := run_app (base := base) (l2 := gs) 0 gs.length
  rw [Nat.zero_add] at ht
  rw [ht, rd_app (Int.le_refl _) (by show (0 : Int) < ((runV base gs 0).length : Int); rw [run_len]; omega)]
  exact hz
theorem val_flip {now : List Int} (hn : TriL now) {lo : Int} (h0 : 0 ≤ lo) (h1 : lo < 4294967296) (hin : lo / 2 < (now.length : Int)) : valP now (Go.bits .xor .u32 lo 1) = notP (valP now lo) := by
  rw [xor_one h0 h1, val_in hn (by omega), val_in hn hin]
  have e2 : (2 * (lo / 2) + (lo + 1) % 2) / 2 = lo / 2 := by omega
  rw [e2]
  rcases (show lo % 2 = 0 ∨ lo % 2 = 1 by omega) with e3 | e3
  · rw [if_pos (by omega), if_neg (by omega)]
  · rw [if_neg (by omega), if_pos e3, not_not3 (rd_tri hn _)]
theorem gate_step {F : Int} {base V tl : List Int} {gs : List S68} {k : Nat} (h : GoodW F base V tl gs k) (hF : (base.length : Int) = F) (hb : TriL base) (hz : rd base 0 = 0) (hf : 1 ≤ F ∧ F ≤ 40000) (hg : gs.length ≤ 40000) {a b : Int} (ha : 0 ≤ a ∧ a < 4294967296) (hbb : 0 ≤ b ∧ b < 4294967296) (hai : a / 2 < F + (gs.length : Int)) (hbi : b / 2 < F + (gs.length : Int)) :
    GoodW F base V tl (gateP F gs a b).2 k ∧ (0 ≤ (gateP F gs a b).1 ∧ (gateP F gs a b).1 < 4294967296) ∧ (gateP F gs a b).1 / 2 < F + ((gateP F gs a b).2.length : Int) ∧ le3 (andP (valP (runV base gs gs.length) a) (valP (runV base gs gs.length) b)) (valP (runV base (gateP F gs a b).2 (gateP F gs a b).2.length) (gateP F gs a b).1) := by
  have hn := run_tri (l2 := gs) hb gs.length
  have hl := run_len (base := base) (l2 := gs) gs.length
  have h00 := now_zero (gs := gs) hb (by omega) hz
  have hU := (gateP_ok (first := F) (gs := gs) (a := a) (b := b) (by omega) hg ha hbb).1
  have hcm : andP (valP (runV base gs gs.length) a) (valP (runV base gs gs.length) b) = andP (valP (runV base gs gs.length) (mx a b)) (valP (runV base gs gs.length) (mn a b)) := by
    by_cases e : a < b
    · have e1 : mx a b = b := by unfold mx; rw [if_pos e]
      have e2 : mn a b = a := by unfold mn; rw [if_neg (by omega)]
      rw [e1, e2, and_comm3]
    · by_cases e' : b < a
      · have e1 : mx a b = a := by unfold mx; rw [if_neg e]
        have e2 : mn a b = b := by unfold mn; rw [if_pos e']
        rw [e1, e2]
      · obtain rfl : a = b := by omega
        have e1 : mx a a = a := by unfold mx; rw [if_neg e]
        have e2 : mn a a = a := by unfold mn; rw [if_neg e]
        rw [e1, e2]
  have hHI : (0 ≤ mx a b ∧ mx a b < 4294967296) ∧ mx a b / 2 < F + (gs.length : Int) := by unfold mx; split <;> exact ⟨by omega, by omega⟩
  have hLO : (0 ≤ mn a b ∧ mn a b < 4294967296) ∧ mn a b / 2 < F + (gs.length : Int) := by unfold mn; split <;> exact ⟨by omega, by omega⟩
  rw [hcm]
  unfold gateP at hU ⊢
  generalize mx a b = hi at hHI hU ⊢
  generalize mn a b = lo at hLO hU ⊢
  by_cases c0 : lo = 0
  · rw [if_pos c0] at hU ⊢
    refine ⟨h, hU, by dsimp only; omega, ?_⟩
    subst c0
    have e : valP (runV base gs gs.length) 0 = 0 := by rw [val_in hn (by omega)]; simpa using h00
    dsimp only
    rw [e]
    right
    unfold andP
    simp
  rw [if_neg c0] at hU ⊢
  by_cases c1 : hi = Go.bits .xor .u32 lo 1
  · rw [if_pos c1] at hU ⊢
    refine ⟨h, hU, by dsimp only; omega, ?_⟩
    have e : valP (runV base gs gs.length) 0 = 0 := by rw [val_in hn (by omega)]; simpa using h00
    dsimp only
    rw [e, c1, val_flip hn hLO.1.1 hLO.1.2 (by omega)]
    exact and_not3 (val_tri hn _)
  rw [if_neg c1] at hU ⊢
  by_cases c2 : lo = 1
  · rw [if_pos c2] at hU ⊢
    refine ⟨h, hU, hHI.2, ?_⟩
    subst c2
    have e : valP (runV base gs gs.length) 1 = 1 := by
      rw [val_in hn (by omega), if_pos (by decide)]
      have : (1 : Int) / 2 = 0 := by decide
      rw [this, h00]
      rfl
    dsimp only
    rw [e, and_one3 (val_tri hn _)]
    exact le3_refl _
  rw [if_neg c2] at hU ⊢
  by_cases c3 : hi = lo
  · rw [if_pos c3] at hU ⊢
    refine ⟨h, hU, hHI.2, ?_⟩
    subst c3
    dsimp only
    rw [and_self3 (val_tri hn _)]
    exact le3_refl _
  rw [if_neg c3] at hU ⊢
  cases hx : idxG gs hi lo with
  | some j =>
    rw [hx] at hU
    obtain ⟨⟨g, hj, e0, e1⟩, _⟩ := idxG_some gs j hx
    have hjl := idxG_lt hx
    have er : rd_T68 gs (j : Int) = g := by
      unfold rd_T68
      rw [List.getD_eq_getElem?_getD, Int.toNat_natCast, hj]
      rfl
    have hrf := h.refs j hjl
    rw [er] at hrf
    refine ⟨h, hU, by dsimp only; omega, ?_⟩
    dsimp only
    have d1 : 2 * (F + (j : Int)) / 2 = F + (j : Int) := by omega
    have ev : valP (runV base gs gs.length) (2 * (F + (j : Int))) = rd (runV base gs gs.length) (F + (j : Int)) := by rw [val_in hn (by omega), if_neg (by omega), d1]
    rw [ev, ← hF, run_at hjl (by rw [er, hF]; exact hrf.1) (by rw [er, hF]; exact hrf.2), er, e0, e1]
    exact le3_refl _
  | none =>
    rw [hx] at hU
    obtain ⟨hG, hrun⟩ := h.gate hF (g := ⟨hi, lo⟩) ⟨hHI.1.1, hHI.2⟩ ⟨hLO.1.1, hLO.2⟩
    refine ⟨hG, hU, by dsimp only; simp; omega, ?_⟩
    dsimp only
    rw [hrun]
    have d1 : 2 * (F + (gs.length : Int)) / 2 = F + (gs.length : Int) := by omega
    have hT : TriL (runV base gs gs.length ++ [andP (valP (runV base gs gs.length) hi) (valP (runV base gs gs.length) lo)]) := fun x hx => by
      rcases List.mem_append.1 hx with hx | hx
      · exact hn x hx
      · rw [List.mem_singleton.1 hx]
        exact and_tri _ _
    have e : F + (gs.length : Int) = ((runV base gs gs.length).length : Int) := by omega
    rw [val_in hT (by simp; omega), if_neg (by omega), d1, e, rd_last]
    exact le3_refl _
end Go.Proofs.Yteiiodlgdbiimaa.F
end
section
namespace Go.Proofs.Yteiiodlgdbiimaa.F
open Go.RowKit Go.Shelf Go.Proofs.YteiiodlgdbiimaaW.PrintWords Go.Proofs.YteiiodlgdbiimaaW.PrintLast Go.Proofs.YteiiodlgdbiimaaW.PrintMore
set_option linter.unusedVariables false
set_option linter.unusedSimpArgs false
theorem val_const {base : List Int} {gs : List S68} (hb : TriL base) (h1 : 1 ≤ base.length) (hz : rd base 0 = 0) {x : Int} (hx : x = 0 ∨ x = 1) : valP (runV base gs gs.length) x = x := by
  have hn := run_tri (l2 := gs) hb gs.length
  have hl := run_len (base := base) (l2 := gs) gs.length
  have h00 := now_zero (gs := gs) hb h1 hz
  rcases hx with rfl | rfl
  · rw [val_in hn (by omega)]
    simpa using h00
  · rw [val_in hn (by omega), if_pos (by decide)]
    have : (1 : Int) / 2 = 0 := by decide
    rw [this, h00]
    rfl
theorem good_run2 {F : Int} {b0 base : List Int} {l2 : List S68} {is : List Int} (hF0 : (b0.length : Int) = F) (hb0 : TriL b0) (hle : ∀ v : Nat, v < b0.length → le3 (rd b0 (v : Int)) (rd base (v : Int))) (hF : (base.length : Int) = F) (hb : TriL base) (hz : rd base 0 = 0) (hf : 1 ≤ F ∧ F ≤ 20000) (h2 : In68 l2) (hl2 : l2.length ≤ 20000) (hi : TriL is) (hil : (is.length : Int) = F + (l2.length : Int))
    (hg : ∀ j : Nat, j < l2.length → (rd_T68 l2 (j : Int)).f0 / 2 < F + (j : Int) ∧ (rd_T68 l2 (j : Int)).f1 / 2 < F + (j : Int)) (hc : ∀ v : Nat, v < is.length → rd is (v : Int) ≠ 2 → rd (runV b0 l2 l2.length) (v : Int) = rd is (v : Int)) :
    ∀ k : Nat, k ≤ is.length → GoodW F base (runV b0 l2 l2.length) (runW F l2 is k).1 (runW F l2 is k).2 k ∧ (runW F l2 is k).2.length ≤ k
  | 0, _ => ⟨⟨rfl, (fun x hx => nomatch hx), (fun v hv => absurd hv (Nat.not_lt_zero v)), (fun v hv => absurd hv (Nat.not_lt_zero v)), (fun j hj => absurd hj (Nat.not_lt_zero j))⟩, Nat.le_refl _⟩
  | k + 1, hk => by
    obtain ⟨hG, hgl⟩ := good_run2 hF0 hb0 hle hF hb hz hf h2 hl2 hi hil hg hc k (by omega)
    have hV := run_tri (l2 := l2) hb0 l2.length
    have hVl := run_len (base := b0) (l2 := l2) l2.length
    have hx := rd_tri hi (k : Int)
    have hcx := hc k (by omega)
    unfold runW
    generalize runW F l2 is k = s at hG hgl ⊢
    have hnl := run_len (base := base) (l2 := s.2) s.2.length
    unfold stepW
    by_cases h : rd is (k : Int) = 2
    · rw [if_neg (by simpa using h)]
      by_cases hk2 : (k : Int) < F
      · rw [if_pos hk2]
        refine ⟨hG.snoc ⟨by omega, by omega⟩ (by omega) ?_, by dsimp only; omega⟩
        have hn := run_tri (l2 := s.2) hb s.2.length
        have d1 : 2 * (k : Int) / 2 = (k : Int) := by omega
        rw [val_in hn (by omega), if_neg (by omega), d1]
        obtain ⟨t, ht⟩ := run_app (base := b0) (l2 := l2) 0 l2.length
        obtain ⟨t', ht'⟩ := run_app (base := base) (l2 := s.2) 0 s.2.length
        rw [Nat.zero_add] at ht ht'
        have e0 : runV b0 l2 0 = b0 := rfl
        have e0' : runV base s.2 0 = base := rfl
        rw [ht, ht', e0, e0', rd_app (by omega) (by omega), rd_app (by omega) (by omega)]
        exact hle k (by omega)
      · rw [if_neg hk2]
        obtain ⟨j, hj⟩ : ∃ j : Nat, (k : Int) = F + (j : Int) := ⟨((k : Int) - F).toNat, by omega⟩
        have hjl : j < l2.length := by omega
        have ekj : (k : Int) - F = (j : Int) := by omega
        have hgj := hg j hjl
        have hu := rd68_ok h2 (j : Int)
        rw [ekj]
        generalize hy : rd_T68 l2 (j : Int) = y at hgj hu
        have hL0 := hG.lit hF hb hV (by omega) hu.1.1 hu.1.2 (by omega)
        have hL1 := hG.lit hF hb hV (by omega) hu.2.1 hu.2.2 (by omega)
        have hU0 := litP_u32 hG.u32 hu.1.1 hu.1.2
        have hU1 := litP_u32 hG.u32 hu.2.1 hu.2.2
        obtain ⟨g1, g2, g3, g4⟩ := gate_step hG hF hb hz ⟨hf.1, by omega⟩ (by omega) hU0 hU1 hL0.2 hL1.2
        have hgo := (gateP_ok (first := F) (gs := s.2) (by omega) (by omega) hU0 hU1).2
        have hrun := run_at (base := b0) (l2 := l2) (m := l2.length) hjl (by rw [hy, hF0]; exact ⟨hu.1.1, hgj.1⟩) (by rw [hy, hF0]; exact ⟨hu.2.1, hgj.2⟩)
        rw [hy, hF0, ← hj] at hrun
        refine ⟨g1.snoc g2 g3 ?_, by dsimp only; omega⟩
        rw [hrun]
        exact le3_trans (and_mono hL0.1 hL1.1) g4
    · rw [if_pos h]
      have h01 : rd is (k : Int) = 0 ∨ rd is (k : Int) = 1 := by unfold Tri at hx; omega
      refine ⟨hG.snoc ⟨by omega, by omega⟩ (by omega) ?_, by dsimp only; omega⟩
      rw [val_const hb (by omega) hz h01, hcx h]
      exact le3_refl _
end Go.Proofs.Yteiiodlgdbiimaa.F
end
section
namespace Go.Proofs.Yteiiodlgdbiimaa.F
open Go.RowKit Go.Shelf Go.Proofs.YteiiodlgdbiimaaW.PrintWords Go.Proofs.YteiiodlgdbiimaaW.PrintLast Go.Proofs.YteiiodlgdbiimaaW.PrintMore
set_option linter.unusedVariables false
set_option linter.unusedSimpArgs false
theorem not1_is (x : Int) : inquestref06_Not1.f x = some (notP x) := by
  unfold inquestref06_Not1.f notP
  split
  · rfl
  split <;> rfl
theorem and1_ev (x y : Int) : Ev (fun k => inquestref06_And1.f k x y) (andP x y) := by
  have hj : ∀ b : Bool, Ev (fun k => inquestref06_And1.j0 k x y b) (if b = true then 0 else if x = 1 then (if y = 1 then 1 else 2) else 2) := fun b =>
    Ev.step (f := fun _ => some (if b = true then 0 else if x = 1 then (if y = 1 then 1 else 2) else 2)) (fun k => by
      simp only [inquestref06_And1.j0]
      split
      · rfl
      split
      · split <;> rfl
      · rfl) (Ev.now _)
  by_cases hx : x = 0
  · have h := hj true
    refine Ev.congr (fun k => ?_) (by unfold andP; rw [if_pos (Or.inl hx)]; exact h)
    unfold inquestref06_And1.f
    rw [if_pos hx]
  · have h := hj (y == 0)
    have e : (if (y == 0) = true then 0 else if x = 1 then (if y = 1 then 1 else 2) else 2) = andP x y := by
      unfold andP
      by_cases hy : y = 0
      · rw [if_pos (by simp [hy]), if_pos (Or.inr hy)]
      · have hb : (y == 0) = false := beq_eq_false_iff_ne.mpr hy
        have hor : ¬ (x = 0 ∨ y = 0) := by omega
        rw [hb, if_neg (by decide), if_neg hor]
        by_cases h1 : x = 1
        · by_cases h2 : y = 1
          · rw [if_pos h1, if_pos h2, if_pos ⟨h1, h2⟩]
          · rw [if_pos h1, if_neg h2, if_neg (fun h => h2 h.2)]
        · rw [if_neg h1, if_neg (fun h => h1 h.1)]
    rw [e] at h
    refine Ev.congr (fun k => ?_) h
    unfold inquestref06_And1.f
    rw [if_neg hx]
theorem value_ev {vars : List Int} (hv : TriL vars) {x : Int} (h0 : 0 ≤ x) (h1 : x < 4294967296) : Ev (fun k => inquestref07_Value.f k vars x) (valP vars x) := by
  have ht : (Int.tdiv x 2) % 4294967296 = x / 2 := half_u32 h0 h1
  have hm : Int.tmod x 2 = x % 2 := Int.tmod_eq_emod_of_nonneg h0
  by_cases hl : (vars.length : Int) ≤ x / 2
  · have hj : Ev (fun k => inquestref07_Value.j0 k vars x true) 2 := Ev.step (f := fun _ => some 2) (fun k => by simp only [inquestref07_Value.j0]; rw [if_pos trivial]) (Ev.now 2)
    refine Ev.congr (fun k => ?_) (by unfold valP; rw [if_pos hl]; exact hj)
    unfold inquestref07_Value.f
    rw [ht, if_pos hl]
  · have hr := rd_tri hv (x / 2)
    have hn2 : ¬ 2 < rd vars (x / 2) := by unfold Tri at hr; omega
    have hj : Ev (fun k => inquestref07_Value.j0 k vars x false) (valP vars x) := by
      refine Ev.step (f := fun _ => some (valP vars x)) (fun k => ?_) (Ev.now _)
      simp only [inquestref07_Value.j0]
      rw [if_neg (by decide), hm, ht, not1_is]
      unfold valP
      rw [if_neg hl, if_neg hn2]
      by_cases hp : x % 2 = 1
      · rw [if_pos hp, if_pos (by omega), if_pos (by omega), if_pos hp]
        rfl
      · rw [if_neg hp, if_pos (by omega), if_pos (by omega), if_neg hp]
    refine Ev.congr (fun k => ?_) hj
    unfold inquestref07_Value.f
    rw [ht, if_neg hl, if_pos (by omega), if_pos (by omega), decide_eq_false hn2]
end Go.Proofs.Yteiiodlgdbiimaa.F
end
section
namespace Go.Proofs.Yteiiodlgdbiimaa.F
open Go.RowKit Go.Shelf Go.Proofs.YteiiodlgdbiimaaW.PrintWords Go.Proofs.YteiiodlgdbiimaaW.PrintLast Go.Proofs.YteiiodlgdbiimaaW.PrintMore
set_option linter.unusedVariables false
set_option linter.unusedSimpArgs false
theorem fine_ev {l : List Int} {m : Int} (hl : l.length < 9223372036854775808) : Ev (fun k => inquestref07_fine.f k l m) (l.all (fun x => decide (x ≤ 2)) && ((l.length : Int) == m)) := by
  have key : ∀ (d i : Nat), l.length - i = d → i ≤ l.length → Ev (fun k => inquestref07_fine.l0 k l m (i : Int)) ((l.drop i).all (fun x => decide (x ≤ 2)) && ((l.length : Int) == m)) := by
    intro d
    induction d with
    | zero =>
      intro i hd hi
      obtain rfl : i = l.length := by omega
      refine Ev.step (f := fun _ => some ((l.length : Int) == m)) (fun k => ?_) (by rw [List.drop_length]; exact Ev.now _)
      simp only [inquestref07_fine.l0]
      rw [if_neg (by omega)]
    | succ d ih =>
      intro i hd hi
      have hlt : i < l.length := by omega
      rw [drop_at hlt, List.all_cons]
      by_cases hc : l[i] ≤ 2
      · rw [decide_eq_true hc, Bool.true_and]
        refine Ev.step (fun k => ?_) (ih (i + 1) (by omega) (by omega))
        simp only [inquestref07_fine.l0]
        rw [if_pos (by omega), if_pos (by omega), rd_at hlt, if_neg (by omega), wrap_nat' (by omega)]
      · rw [decide_eq_false hc, Bool.false_and, Bool.false_and]
        refine Ev.step (f := fun _ => some false) (fun k => ?_) (Ev.now _)
        simp only [inquestref07_fine.l0]
        rw [if_pos (by omega), if_pos (by omega), rd_at hlt, if_pos (by omega)]
  exact key l.length 0 (by omega) (by omega)
def baseF (state inputs : List Int) : List Int := 0 :: (inputs ++ state)
def nextF (now : List Int) (l1 : List S41) : List Int := l1.map (fun g => valP now g.f0)
theorem base_tri {state inputs : List Int} (hs : TriL state) (hi : TriL inputs) : TriL (baseF state inputs) := fun x hx => by
  rcases List.mem_cons.1 hx with rfl | hx
  · exact .inl rfl
  rcases List.mem_append.1 hx with hx | hx
  · exact hi x hx
  · exact hs x hx
theorem tri_of {l : List Int} (h : ∀ x ∈ l, 0 ≤ x ∧ x < 256) (k : l.all (fun x => decide (x ≤ 2)) = true) : TriL l := fun x hx => by
  have h1 := h x hx
  have h2 := List.all_eq_true.1 k x hx
  rw [decide_eq_true_eq] at h2
  unfold Tri
  omega
section
variable {a0 : Int} {l1 : List S41} {l2 : List S68} {l3 l4 l5 state inputs : List Int}
theorem frame_run (hv : Valid a0 l1 l2 l3 l4 l5) (h1 : In41 l1) (h2 : In68 l2) (hs : TriL state) (hi : TriL inputs) (ls : state.length = l1.length) (li : (inputs.length : Int) = a0) :
    Ev (fun k => inquestref07_Frame.j0 k state inputs false a0 l1 l2 l3 l4 l5) (runV (baseF state inputs) l2 l2.length, nextF (runV (baseF state inputs) l2 l2.length) l1, 0) := by
  have hp := hv.pos
  have hle := hv.le
  have hb := base_tri hs hi
  have hbl : (baseF state inputs).length = 1 + inputs.length + state.length := by unfold baseF; rw [List.length_cons, List.length_append]; omega
  have hvl := run_len (base := baseF state inputs) (l2 := l2) l2.length
  have hvt := run_tri (l2 := l2) hb l2.length
  have key2 : ∀ (d i : Nat), l1.length - i = d → i ≤ l1.length → Ev (fun k => inquestref07_Frame.l1 k (runV (baseF state inputs) l2 l2.length) (nextF (runV (baseF state inputs) l2 l2.length) (l1.take i)) (i : Int) a0 l1 l2 l3 l4 l5) (runV (baseF state inputs) l2 l2.length, nextF (runV (baseF state inputs) l2 l2.length) l1, 0) := by
    intro d
    induction d with
    | zero =>
      intro i hd hi
      obtain rfl : i = l1.length := by omega
      rw [List.take_length]
      refine Ev.step (f := fun _ => some (runV (baseF state inputs) l2 l2.length, nextF (runV (baseF state inputs) l2 l2.length) l1, 0)) (fun k => ?_) (Ev.now _)
      simp only [inquestref07_Frame.l1]
      rw [if_neg (by omega)]
    | succ d ih =>
      intro i hd hi
      have hlt : i < l1.length := by omega
      have hx := h1 _ (List.getElem_mem hlt)
      have e : nextF (runV (baseF state inputs) l2 l2.length) (l1.take i) ++ [valP (runV (baseF state inputs) l2 l2.length) l1[i].f0] = nextF (runV (baseF state inputs) l2 l2.length) (l1.take (i + 1)) := by
        unfold nextF
        rw [List.take_succ_eq_append_getElem hlt, List.map_append]
        rfl
      have el : (nextF (runV (baseF state inputs) l2 l2.length) (l1.take i)).length = i := by unfold nextF; rw [List.length_map, List.length_take]; omega
      have hgo : Ev (fun k => (inquestref07_Value.f k (runV (baseF state inputs) l2 l2.length) l1[i].f0).bind fun t634 => (if (nextF (runV (baseF state inputs) l2 l2.length) (l1.take i)).length < 140737488355328 then (inquestref07_Frame.l1 k (runV (baseF state inputs) l2 l2.length) (nextF (runV (baseF state inputs) l2 l2.length) (l1.take i) ++ [t634]) ((i + 1 : Nat) : Int) a0 l1 l2 l3 l4 l5) else (none))) (runV (baseF state inputs) l2 l2.length, nextF (runV (baseF state inputs) l2 l2.length) l1, 0) :=
        Ev.bind (value_ev hvt hx.1.1 hx.1.2) (Ev.ifp (by omega) (by rw [e]; exact ih (i + 1) (by omega) (by omega)))
      refine Ev.step (fun k => ?_) hgo
      simp only [inquestref07_Frame.l1]
      rw [if_pos (by omega), if_pos (by omega), rd41_at hlt, wrap_nat (by omega)]
  have key1 : ∀ (d i : Nat), l2.length - i = d → i ≤ l2.length → Ev (fun k => inquestref07_Frame.l0 k (runV (baseF state inputs) l2 i) (i : Int) a0 l1 l2 l3 l4 l5) (runV (baseF state inputs) l2 l2.length, nextF (runV (baseF state inputs) l2 l2.length) l1, 0) := by
    intro d
    induction d with
    | zero =>
      intro i hd hi
      obtain rfl : i = l2.length := by omega
      refine Ev.step (fun k => ?_) (key2 l1.length 0 (by omega) (by omega))
      simp only [inquestref07_Frame.l0]
      rw [if_neg (by omega)]
      rfl
    | succ d ih =>
      intro i hd hi
      have hlt : i < l2.length := by omega
      have hx := rd68_ok h2 (i : Int)
      have hil := run_len (base := baseF state inputs) (l2 := l2) i
      have hit := run_tri (l2 := l2) hb i
      have hgo : Ev (fun k => (inquestref07_Value.f k (runV (baseF state inputs) l2 i) ((rd_T68 l2 (i : Int)).f0)).bind fun t626 => ((inquestref07_Value.f k (runV (baseF state inputs) l2 i) ((rd_T68 l2 (i : Int)).f1)).bind fun t628 => ((inquestref06_And1.f k t626 t628).bind fun t629 => (if (runV (baseF state inputs) l2 i).length < 140737488355328 then (inquestref07_Frame.l0 k ((runV (baseF state inputs) l2 i) ++ [t629]) ((i + 1 : Nat) : Int) a0 l1 l2 l3 l4 l5) else (none))))) (runV (baseF state inputs) l2 l2.length, nextF (runV (baseF state inputs) l2 l2.length) l1, 0) :=
        Ev.bind (value_ev hit hx.1.1 hx.1.2) (Ev.bind (value_ev hit hx.2.1 hx.2.2) (Ev.bind (and1_ev _ _) (Ev.ifp (by omega) (ih (i + 1) (by omega) (by omega)))))
      refine Ev.step (fun k => ?_) hgo
      simp only [inquestref07_Frame.l0]
      rw [if_pos (by omega), if_pos (by omega), wrap_nat (by omega)]
  refine Ev.step (fun k => ?_) (key1 l2.length 0 (by omega) (by omega))
  simp only [inquestref07_Frame.j0]
  rw [if_neg (by decide)]
  show (if ([0] : List Int).length + inputs.length < 140737488355328 then _ else _) = _
  rw [if_pos (by simp; omega)]
  show (if (([0] : List Int) ++ inputs).length + state.length < 140737488355328 then _ else _) = _
  rw [if_pos (by simp; omega)]
  rfl
end
theorem all2_of {l : List Int} (hl : TriL l) : l.all (fun x => decide (x ≤ 2)) = true := List.all_eq_true.2 fun x hx => by
  have := hl x hx
  unfold Tri at this
  exact decide_eq_true (by omega)
theorem frame_ok {a0 : Int} {l1 : List S41} {l2 : List S68} {l3 l4 l5 state inputs : List Int} (hv : Valid a0 l1 l2 l3 l4 l5) (h1 : In41 l1) (h2 : In68 l2) (h3 : InU32 l3) (h4 : InU32 l4) (h5 : InU32 l5) (hs : TriL state) (hi : TriL inputs) (ls : state.length = l1.length) (li : (inputs.length : Int) = a0) :
    Ev (fun k => inquestref07_Frame.f k a0 l1 l2 l3 l4 l5 state inputs) (runV (baseF state inputs) l2 l2.length, nextF (runV (baseF state inputs) l2 l2.length) l1, 0) := by
  have hp := hv.pos
  have hle := hv.le
  refine Ev.bind (mayr_ev hv h1 h2 h3 h4 h5) (Ev.ifp rfl (Ev.bind (fine_ev (m := (l1.length : Int)) (by omega)) ?_))
  rw [all2_of hs, Bool.true_and, beq_iff_eq.2 (show (state.length : Int) = (l1.length : Int) by omega)]
  refine Ev.ifp rfl (Ev.bind (fine_ev (m := a0) (by omega)) ?_)
  rw [all2_of hi, Bool.true_and, beq_iff_eq.2 li]
  exact frame_run hv h1 h2 hs hi ls li
end Go.Proofs.Yteiiodlgdbiimaa.F
end
section
namespace Go.Proofs.Yteiiodlgdbiimaa.F
open Go.RowKit Go.Shelf Go.Proofs.YteiiodlgdbiimaaW.PrintWords Go.Proofs.YteiiodlgdbiimaaW.PrintLast Go.Proofs.YteiiodlgdbiimaaW.PrintMore
set_option linter.unusedVariables false
set_option linter.unusedSimpArgs false
def framesF (l1 : List S41) (l2 : List S68) : List Int → List (List Int) → List (List Int)
  | _, [] => []
  | s, r :: t => runV (baseF s r) l2 l2.length :: framesF l1 l2 (nextF (runV (baseF s r) l2 l2.length) l1) t
theorem frames_len (l1 : List S41) (l2 : List S68) : ∀ (fr : List (List Int)) (s : List Int), (framesF l1 l2 s fr).length = fr.length
  | [], _ => rfl
  | r :: t, s => by
    unfold framesF
    rw [List.length_cons, List.length_cons, frames_len l1 l2 t]
theorem next_tri {l1 : List S41} {V : List Int} (h : TriL V) : TriL (nextF V l1) := fun x hx => by
  obtain ⟨g, hg, rfl⟩ := List.mem_map.1 hx
  exact val_tri h _
theorem next_len (l1 : List S41) (V : List Int) : (nextF V l1).length = l1.length := by unfold nextF; rw [List.length_map]
theorem base_len (s r : List Int) : (baseF s r).length = 1 + r.length + s.length := by unfold baseF; rw [List.length_cons, List.length_append]; omega
theorem rd_map2 {α : Type} {f : α → Int} {l : List α} {i : Nat} (h : i < l.length) : rd (l.map f) (i : Int) = f l[i] := by
  unfold rd
  rw [List.getD_eq_getElem?_getD, Int.toNat_natCast, List.getElem?_map, List.getElem?_eq_getElem h]
  rfl
structure SimF (n : Nat) (tl V N : List Int) : Prop where
  len : V.length = n
  triV : TriL V
  triN : TriL N
  val : ∀ v : Nat, v < n → le3 (rd V (v : Int)) (valP N (rd tl (v : Int)))
  lit : ∀ x : Int, 0 ≤ x → x < 4294967296 → x / 2 < (n : Int) → le3 (valP V x) (valP N (litP tl x))
inductive All2 {α β : Type} (R : α → β → Prop) : List α → List β → Prop
  | nil : All2 R [] []
  | cons {a b l m} : R a b → All2 R l m → All2 R (a :: l) (b :: m)
theorem All2.len {α β : Type} {R : α → β → Prop} {l : List α} {m : List β} (h : All2 R l m) : l.length = m.length := by
  induction h with
  | nil => rfl
  | cons _ _ ih => rw [List.length_cons, List.length_cons, ih]
theorem All2.at {α β : Type} {R : α → β → Prop} {l : List α} {m : List β} (h : All2 R l m) : ∀ (i : Nat) (h1 : i < l.length) (h2 : i < m.length), R l[i] m[i] := by
  induction h with
  | nil => exact fun i h => absurd h (Nat.not_lt_zero i)
  | cons h _ ih =>
    intro i h1 h2
    cases i with
    | zero => exact h
    | succ i => exact ih i (by simpa using h1) (by simpa using h2)
theorem rd_le_of {s s' : List Int} (hl : s.length = s'.length) (h : ∀ i : Nat, i < s.length → le3 (rd s (i : Int)) (rd s' (i : Int))) (v : Nat) (r : List Int) (hv : v < (baseF s r).length) : le3 (rd (baseF s r) (v : Int)) (rd (baseF s' r) (v : Int)) := by
  rw [base_len] at hv
  have e : ∀ z : List Int, z.length = s.length → rd (baseF z r) (v : Int) = if v = 0 then 0 else if v < 1 + r.length then r.getD (v - 1) 0 else z.getD (v - 1 - r.length) 0 := fun z hz => by
    unfold baseF rd
    rw [Int.toNat_natCast]
    cases v with
    | zero => rfl
    | succ v =>
      rw [if_neg (by omega), List.getD_cons_succ, List.getD_eq_getElem?_getD]
      by_cases hlt : v < r.length
      · rw [if_pos (by omega), List.getElem?_append_left hlt, List.getD_eq_getElem?_getD]
        rfl
      · rw [if_neg (by omega), List.getElem?_append_right (by omega), List.getD_eq_getElem?_getD]
        rfl
  rw [e s rfl, e s' hl.symm]
  split
  · exact le3_refl _
  split
  · exact le3_refl _
  · have := h (v - 1 - r.length) (by omega)
    unfold rd at this
    rw [Int.toNat_natCast] at this
    exact this
section
variable {a0 : Int} {l1 : List S41} {l2 : List S68} {l3 l4 l5 is : List Int}
def Blank (is : List Int) : Prop := rd is 0 = 0 ∧ ∀ v : Nat, 0 < v → v < is.length → rd is (v : Int) = 2
theorem sim_frame (hv : Valid a0 l1 l2 l3 l4 l5) (h2 : In68 l2) (hti : TriL is) (hil : (is.length : Int) = 1 + a0 + (l1.length : Int) + (l2.length : Int)) (hbl : Blank is)
    {s s' r : List Int} (hs : TriL s) (hs' : TriL s') (hr : TriL r) (ls : s.length = l1.length) (ls' : s'.length = l1.length) (lr : (r.length : Int) = a0) (hle : ∀ i : Nat, i < s.length → le3 (rd s (i : Int)) (rd s' (i : Int))) :
    SimF is.length (wasW a0 l1 l2 is).1 (runV (baseF s r) l2 l2.length) (runV (baseF s' r) (wasW a0 l1 l2 is).2 (wasW a0 l1 l2 is).2.length) := by
  have hp := hv.pos
  have hll := hv.le
  have hb := base_tri hs hr
  have hb' := base_tri hs' hr
  have e1 := base_len s r
  have e2 := base_len s' r
  have hV0 := now_zero (gs := l2) hb (by omega) (rfl : rd (baseF s r) 0 = 0)
  have hG := (good_run2 (F := 1 + a0 + (l1.length : Int)) (b0 := baseF s r) (base := baseF s' r) (l2 := l2) (is := is) (by omega) hb (fun v hv => rd_le_of (by omega) hle v r hv) (by omega) hb' rfl ⟨by omega, by omega⟩ h2 (by omega) hti (by omega) (fun j hj => by
    have e : rd_T68 l2 (j : Int) = l2[j] := rd68_at hj
    have hg := hv.gate j hj
    rw [e]
    omega) (fun v hv hne => by
    by_cases h0 : v = 0
    · subst h0
      exact hV0.trans hbl.1.symm
    · exact absurd (hbl.2 v (by omega) hv) hne) is.length (Nat.le_refl _)).1
  have hvl := run_len (base := baseF s r) (l2 := l2) l2.length
  have hvt := run_tri (l2 := l2) hb l2.length
  have hnt := run_tri (l2 := (wasW a0 l1 l2 is).2) hb' (wasW a0 l1 l2 is).2.length
  refine ⟨by omega, hvt, hnt, hG.val, fun x h0 h1 hx => ?_⟩
  exact (hG.lit (by omega) hb' hvt (by omega) h0 h1 hx).1
theorem sim_run (hv : Valid a0 l1 l2 l3 l4 l5) (h1 : In41 l1) (h2 : In68 l2) (hti : TriL is) (hil : (is.length : Int) = 1 + a0 + (l1.length : Int) + (l2.length : Int)) (hbl : Blank is) :
    ∀ (fr : List (List Int)) (s s' : List Int), TriL s → TriL s' → s.length = l1.length → s'.length = l1.length → (∀ r ∈ fr, TriL r ∧ (r.length : Int) = a0) → (∀ i : Nat, i < s.length → le3 (rd s (i : Int)) (rd s' (i : Int))) →
    All2 (SimF is.length (wasW a0 l1 l2 is).1) (framesF l1 l2 s fr) (framesF (latM (wasW a0 l1 l2 is).1 l1) (wasW a0 l1 l2 is).2 s' fr)
  | [], s, s', _, _, _, _, _, _ => .nil
  | r :: t, s, s', hs, hs', ls, ls', hr, hle => by
    have hll := hv.le
    have hS := sim_frame hv h2 hti hil hbl hs hs' (hr r (List.mem_cons_self ..)).1 ls ls' (hr r (List.mem_cons_self ..)).2 hle
    unfold framesF
    refine .cons hS (sim_run hv h1 h2 hti hil hbl t _ _ (next_tri hS.triV) (next_tri hS.triN) (next_len _ _) (by rw [next_len]; unfold latM; rw [List.length_map]) (fun r hr' => hr r (List.mem_cons_of_mem _ hr')) (fun i hi => ?_))
    rw [next_len] at hi
    have hx := h1 _ (List.getElem_mem hi)
    have hn := hv.next i hi
    have q1 : ∀ V : List Int, rd (nextF V l1) (i : Int) = valP V l1[i].f0 := fun V => by unfold nextF; rw [rd_map2 hi]
    have q2 : ∀ N tl : List Int, rd (nextF N (latM tl l1)) (i : Int) = valP N (litP tl l1[i].f0) := fun N tl => by
      unfold nextF latM
      rw [List.map_map, rd_map2 hi]
      rfl
    rw [q1, q2]
    exact hS.lit _ hx.1.1 hx.1.2 (by omega)
end
def sureC (l5 : List Int) (v : Int) (V : List Int) : Int := l5.foldl (fun v c => andP v (valP V c)) v
def sureP (l4 l5 : List Int) (bad : Int) (runs : List (List Int)) : Int := runs.foldl (sureC l5) (valP (runs.getD (runs.length - 1) []) (rd l4 bad))
theorem sureC_mono {V N : List Int} (f : Int → Int) : ∀ (l5 : List Int) (x y : Int), le3 x y → (∀ c ∈ l5, le3 (valP V c) (valP N (f c))) → le3 (sureC l5 x V) (sureC (l5.map f) y N)
  | [], x, y, h, _ => h
  | c :: t, x, y, h, k => by
    show le3 (sureC t (andP x (valP V c)) V) (sureC (t.map f) (andP y (valP N (f c))) N)
    exact sureC_mono f t _ _ (and_mono h (k c (List.mem_cons_self ..))) (fun d hd => k d (List.mem_cons_of_mem _ hd))
theorem sureP_mono {R : List Int → List Int → Prop} (f : Int → Int) {l5 : List Int} (hR : ∀ V N, R V N → ∀ c ∈ l5, le3 (valP V c) (valP N (f c))) {A B : List (List Int)} (h : All2 R A B) : ∀ x y : Int, le3 x y → le3 (A.foldl (sureC l5) x) (B.foldl (sureC (l5.map f)) y) := by
  induction h with
  | nil => exact fun x y h => h
  | cons h _ ih =>
    intro x y k
    rw [List.foldl_cons, List.foldl_cons]
    exact ih _ _ (sureC_mono f l5 x y k (hR _ _ h))
def Bit (x : Int) : Prop := x = 0 ∨ x = 1
def BitL (l : List Int) : Prop := ∀ x ∈ l, Bit x
theorem BitL.tri {l : List Int} (h : BitL l) : TriL l := fun x hx => by
  rcases h x hx with e | e
  · exact .inl e
  · exact .inr (.inl e)
theorem rd_bit {l : List Int} (h : BitL l) (i : Int) : Bit (rd l i) := by
  unfold rd
  rw [List.getD_eq_getElem?_getD]
  cases hg : l[i.toNat]? with
  | none => exact .inl rfl
  | some v => exact h v (List.mem_of_getElem? hg)
theorem not_bit {x : Int} (h : Bit x) : Bit (notP x) := by
  rcases h with rfl | rfl
  · exact .inr rfl
  · exact .inl rfl
theorem and_bit {x y : Int} (h : Bit x) (k : Bit y) : Bit (andP x y) := by
  rcases h with rfl | rfl <;> rcases k with rfl | rfl
  · exact .inl rfl
  · exact .inl rfl
  · exact .inl rfl
  · exact .inr rfl
theorem val_bit {l : List Int} (h : BitL l) {x : Int} (hx : x / 2 < (l.length : Int)) : Bit (valP l x) := by
  rw [val_in h.tri hx]
  split
  · exact not_bit (rd_bit h _)
  · exact rd_bit h _
theorem le_bit {x y : Int} (h : le3 x y) (k : Bit x) : y = x := by
  rcases h with e | e
  · unfold Bit at k; omega
  · exact e
theorem base_bit {s r : List Int} (hs : BitL s) (hr : BitL r) : BitL (baseF s r) := fun x hx => by
  rcases List.mem_cons.1 hx with rfl | hx
  · exact .inl rfl
  rcases List.mem_append.1 hx with hx | hx
  · exact hr x hx
  · exact hs x hx
theorem run_bit {base : List Int} {l2 : List S68} (hb : BitL base) (hg : ∀ j : Nat, j < l2.length → (rd_T68 l2 (j : Int)).f0 / 2 < (base.length : Int) + (j : Int) ∧ (rd_T68 l2 (j : Int)).f1 / 2 < (base.length : Int) + (j : Int)) : ∀ k : Nat, k ≤ l2.length → BitL (runV base l2 k)
  | 0, _ => hb
  | k + 1, hk => fun x hx => by
    have ih := run_bit hb hg k (by omega)
    have hl := run_len (base := base) (l2 := l2) k
    have hj := hg k (by omega)
    unfold runV at hx
    rcases List.mem_append.1 hx with hx | hx
    · exact ih x hx
    · rw [List.mem_singleton.1 hx]
      exact and_bit (val_bit ih (by omega)) (val_bit ih (by omega))
section
variable {a0 : Int} {l1 : List S41} {l2 : List S68} {l3 l4 l5 : List Int}
theorem frame_bit (hv : Valid a0 l1 l2 l3 l4 l5) {s r : List Int} (hs : BitL s) (hr : BitL r) (ls : s.length = l1.length) (lr : (r.length : Int) = a0) : BitL (runV (baseF s r) l2 l2.length) := by
  have e1 := base_len s r
  refine run_bit (base_bit hs hr) (fun j hj => ?_) l2.length (Nat.le_refl _)
  have e : rd_T68 l2 (j : Int) = l2[j] := rd68_at hj
  have hg := hv.gate j hj
  rw [e]
  omega
theorem frames_bit (hv : Valid a0 l1 l2 l3 l4 l5) : ∀ (fr : List (List Int)) (s : List Int), BitL s → s.length = l1.length → (∀ r ∈ fr, BitL r ∧ (r.length : Int) = a0) → ∀ V ∈ framesF l1 l2 s fr, BitL V ∧ (V.length : Int) = 1 + a0 + (l1.length : Int) + (l2.length : Int)
  | [], s, _, _, _, V, hV => nomatch hV
  | r :: t, s, hs, ls, hr, V, hV => by
    have hB := frame_bit hv hs (hr r (List.mem_cons_self ..)).1 ls (hr r (List.mem_cons_self ..)).2
    have hl := run_len (base := baseF s r) (l2 := l2) l2.length
    have e1 := base_len s r
    have hr0 := (hr r (List.mem_cons_self ..)).2
    have hll := hv.le
    have hp := hv.pos
    unfold framesF at hV
    rcases List.mem_cons.1 hV with rfl | hV
    · exact ⟨hB, by omega⟩
    · refine frames_bit hv t _ (fun x hx => ?_) (next_len _ _) (fun r hr' => hr r (List.mem_cons_of_mem _ hr')) V hV
      obtain ⟨i, hi, rfl⟩ := List.mem_iff_getElem.1 hx
      unfold nextF at hi ⊢
      rw [List.getElem_map]
      rw [List.length_map] at hi
      have hn := hv.next i hi
      exact val_bit hB (by omega)
end
theorem sureC_bit {V : List Int} : ∀ (l5 : List Int) (x : Int), Bit x → (∀ c ∈ l5, Bit (valP V c)) → Bit (sureC l5 x V)
  | [], x, h, _ => h
  | c :: t, x, h, k => by
    show Bit (sureC t (andP x (valP V c)) V)
    exact sureC_bit t _ (and_bit h (k c (List.mem_cons_self ..))) (fun d hd => k d (List.mem_cons_of_mem _ hd))
theorem sureP_bit {l5 : List Int} : ∀ (A : List (List Int)) (x : Int), Bit x → (∀ V ∈ A, ∀ c ∈ l5, Bit (valP V c)) → Bit (A.foldl (sureC l5) x)
  | [], x, h, _ => h
  | V :: t, x, h, k => by
    rw [List.foldl_cons]
    exact sureP_bit t _ (sureC_bit l5 x h (k V (List.mem_cons_self ..))) (fun W hW => k W (List.mem_cons_of_mem _ hW))
end Go.Proofs.Yteiiodlgdbiimaa.F
end
section
namespace Go.Proofs.Yteiiodlgdbiimaa.F
open Go.RowKit Go.Shelf Go.Proofs.YteiiodlgdbiimaaW.PrintWords Go.Proofs.YteiiodlgdbiimaaW.PrintLast Go.Proofs.YteiiodlgdbiimaaW.PrintMore
set_option linter.unusedVariables false
set_option linter.unusedSimpArgs false
def blankL (n : Nat) : List Int := (List.replicate n (2 : Int)).set 0 0
theorem blank_len (n : Nat) : (blankL n).length = n := by unfold blankL; rw [List.length_set, List.length_replicate]
theorem blank_rd {n : Nat} (h : 0 < n) (v : Nat) (hv : v < n) : rd (blankL n) (v : Int) = if v = 0 then 0 else 2 := by
  have e : rd (blankL n) (v : Int) = ((List.replicate n (2 : Int)).set 0 0).getD v 0 := by unfold rd blankL; rw [Int.toNat_natCast]
  rw [e, List.getD_eq_getElem?_getD, List.getElem?_eq_getElem (by rw [List.length_set, List.length_replicate]; exact hv), Option.getD_some, List.getElem_set]
  by_cases h0 : v = 0
  · rw [if_pos h0.symm, if_pos h0]
  · rw [if_neg (fun e => h0 e.symm), if_neg h0, List.getElem_replicate]
theorem blank_tri (n : Nat) : TriL (blankL n) := fun x hx => by
  rcases List.mem_or_eq_of_mem_set hx with h | h
  · exact .inr (.inr (List.eq_of_mem_replicate h))
  · exact .inl h
theorem blank_blank {n : Nat} (h : 0 < n) : Blank (blankL n) := by
  refine ⟨(blank_rd h 0 h).trans (if_pos rfl), fun v h0 hv => ?_⟩
  rw [blank_len] at hv
  rw [blank_rd h v hv, if_neg (by omega)]
theorem blank_u8 (n : Nat) : u8s (blankL n) = true := by
  unfold u8s
  rw [List.all_eq_true]
  intro x hx
  have := blank_tri n x hx
  unfold Tri at this
  rw [Bool.and_eq_true, decide_eq_true_eq, decide_eq_true_eq]
  omega
theorem blank_all (n : Nat) : (blankL n).all (fun x => decide (x ≤ 2)) = true := List.all_eq_true.2 fun x hx => by
  have := blank_tri n x hx
  unfold Tri at this
  exact decide_eq_true (by omega)
section
variable {a0 : Int} {l1 : List S41} {l2 : List S68} {l3 l4 l5 : List Int}
def smallW (a0 : Int) (l1 : List S41) (l2 : List S68) : List Int × List S68 := wasW a0 l1 l2 (blankL (a0.toNat + l1.length + l2.length + 1))
theorem small_ok (h1 : In41 l1) (h2 : In68 l2) (h3 : InU32 l3) (h4 : InU32 l4) (h5 : InU32 l5) (n1 : l1.length ≤ 16384) (n2 : l2.length ≤ 16384) (hm : mayB a0 l1 l2 l3 l4 l5 = true) :
    strash_Small.f a0 l1 l2 l3 l4 l5 = some (a0, latM (smallW a0 l1 l2).1 l1, (smallW a0 l1 l2).2, l3.map (litP (smallW a0 l1 l2).1), l4.map (litP (smallW a0 l1 l2).1), l5.map (litP (smallW a0 l1 l2).1), (smallW a0 l1 l2).1, 0) := by
  have hok : okIn l1 l2 = true := okIn_of h1 h2 (by omega) (by omega)
  obtain ⟨hv, hV⟩ := valid_of_may hok hm
  have hp := hv.pos
  have hle := hv.le
  have w1 : wrap64 (a0 + (l1.length : Int)) = a0 + (l1.length : Int) := wrap64_id (by omega) (by omega)
  have w2 : wrap64 (a0 + (l1.length : Int) + (l2.length : Int)) = a0 + (l1.length : Int) + (l2.length : Int) := wrap64_id (by omega) (by omega)
  have w3 : wrap64 (a0 + (l1.length : Int) + (l2.length : Int) + 1) = a0 + (l1.length : Int) + (l2.length : Int) + 1 := wrap64_id (by omega) (by omega)
  obtain ⟨n, hn⟩ : ∃ n : Nat, n = a0.toNat + l1.length + l2.length + 1 := ⟨_, rfl⟩
  have en : a0 + (l1.length : Int) + (l2.length : Int) + 1 = (n : Int) := by omega
  have hu8' : u8s (l1.map (·.f1)) = true := by
    unfold u8s
    rw [List.all_eq_true]
    intro x hx
    obtain ⟨g, hg, rfl⟩ := List.mem_map.1 hx
    have := h1 g hg
    rw [Bool.and_eq_true, decide_eq_true_eq, decide_eq_true_eq]
    omega
  have hW : strash_With.f a0 l1 l2 l3 l4 l5 (blankL n) = some (a0, latM (wasW a0 l1 l2 (blankL n)).1 l1, (wasW a0 l1 l2 (blankL n)).2, l3.map (litP (wasW a0 l1 l2 (blankL n)).1), l4.map (litP (wasW a0 l1 l2 (blankL n)).1), l5.map (litP (wasW a0 l1 l2 (blankL n)).1), (wasW a0 l1 l2 (blankL n)).1, 0) := by
    unfold strash_With.f
    rw [if_pos ⟨hok, u32s_of h3, u32s_of h4, u32s_of h5, blank_u8 n, hu8'⟩, if_pos ⟨hm, by rw [blank_len]; omega, (blank_blank (by omega)).1, blank_all n⟩]
    rfl
  unfold smallW
  rw [← hn]
  unfold strash_Small.f
  have e1 : norm_May.f a0 l1 l2 l3 l4 l5 = some true := by unfold norm_May.f; rw [hm]
  have e2 : norm_Vars.f a0 l1 l2 l3 l4 l5 = some (a0 + (l1.length : Int) + (l2.length : Int)) := by
    unfold norm_Vars.f norm_vars.f
    rw [e1, Option.bind_some, if_pos rfl, w1, w2]
    rfl
  have e3 : slices_Repeat_uint8_uint8.f ([2] : List Int) (n : Int) = some (List.replicate n 2) := by
    show (if 0 ≤ (n : Int) ∧ (n : Int) ≤ 1000000 then some (List.replicate (n : Int).toNat (2 : Int)) else none) = _
    rw [if_pos ⟨by omega, by omega⟩, Int.toNat_natCast]
  rw [e1, Option.bind_some, if_pos rfl, e2, Option.bind_some, w3, en, e3, Option.bind_some, List.length_replicate, if_pos (by omega)]
  show (strash_With.f a0 l1 l2 l3 l4 l5 (blankL n)).bind _ = _
  rw [hW]
  rfl
end
end Go.Proofs.Yteiiodlgdbiimaa.F
end
section
namespace Go.Proofs.Yteiiodlgdbiimaa.F
open Go.RowKit Go.Shelf Go.Proofs.YteiiodlgdbiimaaW.PrintWords Go.Proofs.YteiiodlgdbiimaaW.PrintLast Go.Proofs.YteiiodlgdbiimaaW.PrintMore
set_option linter.unusedVariables false
set_option linter.unusedSimpArgs false
theorem values_ev {l : List Int} {m : Int} (hl : l.length < 9223372036854775808) : Ev (fun k => inquestref03_values.f k l m) (l.all (fun x => decide (x ≤ 2)) && ((l.length : Int) == m)) := by
  have key : ∀ (d i : Nat), l.length - i = d → i ≤ l.length → Ev (fun k => inquestref03_values.l0 k l m (i : Int)) ((l.drop i).all (fun x => decide (x ≤ 2)) && ((l.length : Int) == m)) := by
    intro d
    induction d with
    | zero =>
      intro i hd hi
      obtain rfl : i = l.length := by omega
      refine Ev.step (f := fun _ => some ((l.length : Int) == m)) (fun k => ?_) (by rw [List.drop_length]; exact Ev.now _)
      simp only [inquestref03_values.l0]
      rw [if_neg (by omega)]
    | succ d ih =>
      intro i hd hi
      have hlt : i < l.length := by omega
      rw [drop_at hlt, List.all_cons]
      by_cases hc : l[i] ≤ 2
      · rw [decide_eq_true hc, Bool.true_and]
        refine Ev.step (fun k => ?_) (ih (i + 1) (by omega) (by omega))
        simp only [inquestref03_values.l0]
        rw [if_pos (by omega), if_pos (by omega), rd_at hlt, if_neg (by omega), wrap_nat' (by omega)]
      · rw [decide_eq_false hc, Bool.false_and, Bool.false_and]
        refine Ev.step (f := fun _ => some false) (fun k => ?_) (Ev.now _)
        simp only [inquestref03_values.l0]
        rw [if_pos (by omega), if_pos (by omega), rd_at hlt, if_pos (by omega)]
  exact key l.length 0 (by omega) (by omega)
def InRows (fr : List (List Int)) : Prop := ∀ i : Int, InU8 (rd_L9 fr i) ∧ (rd_L9 fr i).length < 9223372036854775808
structure FitP (a0 : Int) (l1 : List S41) (l4 : List Int) (bad : Int) (init : List Int) (fr : List (List Int)) : Prop where
  bad : 0 ≤ bad ∧ bad < (l4.length : Int)
  tri : TriL init
  len : init.length = l1.length
  many : 1 ≤ fr.length ∧ fr.length ≤ 256
  row : ∀ i : Nat, i < fr.length → TriL (rd_L9 fr (i : Int)) ∧ ((rd_L9 fr (i : Int)).length : Int) = a0
  reset : ∀ i : Nat, i < init.length → (rd_T41 l1 (i : Int)).f1 = 2 ∨ (rd_T41 l1 (i : Int)).f1 = rd init (i : Int)
section
variable {a0 : Int} {l1 : List S41} {l2 : List S68} {l3 l4 l5 : List Int} {bad : Int} {init : List Int} {fr : List (List Int)}
theorem Ev.some_if {g : Nat → Option Bool} {P Q : Prop} (h : ∃ b, Ev g b ∧ (b = true → P)) (k : P → Q) : ∃ b, Ev g b ∧ (b = true → Q) := by
  obtain ⟨b, h1, h2⟩ := h
  exact ⟨b, h1, fun e => k (h2 e)⟩
theorem fits_some (ha : -9223372036854775808 ≤ a0 ∧ a0 < 9223372036854775808) (n1 : l1.length ≤ 16384) (n2 : l2.length ≤ 16384) (n3 : l3.length < 9223372036854775808) (n4 : l4.length < 9223372036854775808) (n5 : l5.length < 9223372036854775808)
  (h1 : In41 l1) (h2 : In68 l2) (h3 : InU32 l3) (h4 : InU32 l4) (h5 : InU32 l5) (hi : InU8 init) (ni : init.length < 9223372036854775808) (hf : InRows fr) :
  ∃ b, Ev (fun k => inquestref03_Fits.f k a0 l1 l2 l3 l4 l5 bad init fr) b ∧ (b = true → mayB a0 l1 l2 l3 l4 l5 = true ∧ FitP a0 l1 l4 bad init fr) := by
 have hM := mayr_all ha n1 n2 n3 n4 n5 h1 h2 h3 h4 h5
 have hjt : Ev (fun k => inquestref03_Fits.j0 k true a0 l1 l2 l3 l4 l5 bad init fr) false := by
  refine Ev.step (f := fun _ => some false) (fun k => ?_) (Ev.now false)
  simp only [inquestref03_Fits.j0]
  rw [if_pos trivial]
 by_cases c1 : mayB a0 l1 l2 l3 l4 l5 = true
 case neg =>
  rw [Bool.not_eq_true] at c1
  rw [c1] at hM
  exact ⟨false, Ev.bind hM (Ev.ifn (by decide) hjt), fun e => nomatch e⟩
 rw [c1] at hM
 have hk : okIn l1 l2 = true := okIn_of h1 h2 (by omega) (by omega)
 have hv := (valid_of_may hk c1).1
 have wrap' : ∀ {g : Nat → Option Bool}, (∃ b, Ev g b ∧ (b = true → FitP a0 l1 l4 bad init fr)) → ∃ b, Ev g b ∧ (b = true → mayB a0 l1 l2 l3 l4 l5 = true ∧ FitP a0 l1 l4 bad init fr) := fun h => Ev.some_if h (fun p => ⟨c1, p⟩)
 by_cases c2 : bad < 0
 · exact ⟨false, Ev.bind hM (Ev.ifp rfl (Ev.ifp c2 hjt)), fun e => nomatch e⟩
 by_cases c3 : bad ≥ (l4.length : Int)
 · exact ⟨false, Ev.bind hM (Ev.ifp rfl (Ev.ifn c2 (Ev.ifp c3 hjt))), fun e => nomatch e⟩
 have hV := values_ev (l := init) (m := (l1.length : Int)) ni
 by_cases c4 : (init.all (fun x => decide (x ≤ 2)) && ((init.length : Int) == (l1.length : Int))) = true
 case neg =>
  rw [Bool.not_eq_true] at c4
  rw [c4] at hV
  exact ⟨false, Ev.bind hM (Ev.ifp rfl (Ev.ifn c2 (Ev.ifn c3 (Ev.bind hV (Ev.ifn (by decide) hjt))))), fun e => nomatch e⟩
 rw [c4] at hV
 rw [Bool.and_eq_true, beq_iff_eq] at c4
 obtain ⟨t1, t2⟩ := c4
 by_cases c5 : (fr.length : Int) < 1
 · exact ⟨false, Ev.bind hM (Ev.ifp rfl (Ev.ifn c2 (Ev.ifn c3 (Ev.bind hV (Ev.ifp rfl (Ev.ifp c5 hjt)))))), fun e => nomatch e⟩
 have hgo : ∀ b, Ev (fun k => inquestref03_Fits.j0 k (decide ((fr.length : Int) > 256)) a0 l1 l2 l3 l4 l5 bad init fr) b → Ev (fun k => inquestref03_Fits.f k a0 l1 l2 l3 l4 l5 bad init fr) b := fun b h =>
  Ev.bind hM (Ev.ifp rfl (Ev.ifn c2 (Ev.ifn c3 (Ev.bind hV (Ev.ifp rfl (Ev.ifn c5 h))))))
 by_cases c6 : (fr.length : Int) > 256
 ·
  refine ⟨false, hgo false ?_, fun e => nomatch e⟩
  rw [decide_eq_true c6]
  exact hjt
 rw [decide_eq_false c6] at hgo
 have key2 : ∀ (d i : Nat), init.length - i = d → i ≤ init.length → ∃ b, Ev (fun k => inquestref03_Fits.l1 k (i : Int) a0 l1 l2 l3 l4 l5 bad init fr) b ∧ (b = true → ∀ j : Nat, i ≤ j → j < init.length → (rd_T41 l1 (j : Int)).f1 = 2 ∨ (rd_T41 l1 (j : Int)).f1 = rd init (j : Int)) := by
  intro d
  induction d with
  | zero =>
   intro i hd hi
   refine ⟨true, Ev.step (f := fun _ => some true) (fun k => ?_) (Ev.now true), fun _ j h h' => absurd h' (by omega)⟩
   simp only [inquestref03_Fits.l1]
   rw [if_neg (by omega)]
  | succ d ih =>
   intro i hd hi
   obtain ⟨b, hb, hp⟩ := ih (i + 1) (by omega) (by omega)
   by_cases e1 : (rd_T41 l1 (i : Int)).f1 = 2
   ·
    refine ⟨b, Ev.step (fun k => ?_) hb, fun e j h h' => ?_⟩
    ·
     simp only [inquestref03_Fits.l1]
     rw [if_pos (by omega), if_pos (by omega), if_pos (by omega), if_pos e1, wrap_nat' (by omega)]
    ·
     by_cases ej : j = i
     · rw [ej]; exact .inl e1
     · exact hp e j (by omega) h'
   ·
    by_cases e2 : (rd_T41 l1 (i : Int)).f1 = rd init (i : Int)
    ·
     refine ⟨b, Ev.step (fun k => ?_) hb, fun e j h h' => ?_⟩
     ·
      simp only [inquestref03_Fits.l1]
      rw [if_pos (by omega), if_pos (by omega), if_pos (by omega), if_neg e1, if_pos e2, wrap_nat' (by omega)]
     ·
      by_cases ej : j = i
      · rw [ej]; exact .inr e2
      · exact hp e j (by omega) h'
    ·
     refine ⟨false, Ev.step (f := fun _ => some false) (fun k => ?_) (Ev.now false), fun e => nomatch e⟩
     simp only [inquestref03_Fits.l1]
     rw [if_pos (by omega), if_pos (by omega), if_pos (by omega), if_neg e1, if_neg e2]
 have key1 : ∀ (d i : Nat), fr.length - i = d → i ≤ fr.length → ∃ b, Ev (fun k => inquestref03_Fits.l0 k (i : Int) a0 l1 l2 l3 l4 l5 bad init fr) b ∧ (b = true → (∀ j : Nat, i ≤ j → j < fr.length → TriL (rd_L9 fr (j : Int)) ∧ ((rd_L9 fr (j : Int)).length : Int) = a0) ∧ ∀ j : Nat, j < init.length → (rd_T41 l1 (j : Int)).f1 = 2 ∨ (rd_T41 l1 (j : Int)).f1 = rd init (j : Int)) := by
  intro d
  induction d with
  | zero =>
   intro i hd hi
   obtain ⟨b, hb, hp⟩ := key2 init.length 0 (by omega) (by omega)
   refine ⟨b, Ev.step (fun k => ?_) hb, fun e => ⟨fun j h h' => absurd h' (by omega), fun j h => hp e j (Nat.zero_le _) h⟩⟩
   simp only [inquestref03_Fits.l0]
   rw [if_neg (by omega)]
   rfl
  | succ d ih =>
   intro i hd hi
   obtain ⟨b, hb, hp⟩ := ih (i + 1) (by omega) (by omega)
   obtain ⟨hr1, hr2⟩ := hf (i : Int)
   have hVi := values_ev (l := rd_L9 fr (i : Int)) (m := a0) hr2
   by_cases e1 : ((rd_L9 fr (i : Int)).all (fun x => decide (x ≤ 2)) && (((rd_L9 fr (i : Int)).length : Int) == a0)) = true
   ·
    rw [e1] at hVi
    refine ⟨b, Ev.step (fun k => ?_) (Ev.bind (f := fun n t => if t = true then inquestref03_Fits.l0 n ((i + 1 : Nat) : Int) a0 l1 l2 l3 l4 l5 bad init fr else some false) hVi (Ev.ifp rfl hb)), fun e => ⟨fun j h h' => ?_, (hp e).2⟩⟩
    ·
     simp only [inquestref03_Fits.l0]
     rw [if_pos (by omega), if_pos (by omega), wrap_nat (by omega)]
    ·
     by_cases ej : j = i
     ·
      rw [Bool.and_eq_true, beq_iff_eq] at e1
      rw [ej]
      exact ⟨tri_of hr1 e1.1, e1.2⟩
     · exact (hp e).1 j (by omega) h'
   ·
    rw [Bool.not_eq_true] at e1
    rw [e1] at hVi
    refine ⟨false, Ev.step (fun k => ?_) (Ev.bind (f := fun n t => if t = true then inquestref03_Fits.l0 n ((i + 1 : Nat) : Int) a0 l1 l2 l3 l4 l5 bad init fr else some false) hVi (Ev.ifn (by decide) (Ev.now false))), fun e => nomatch e⟩
    simp only [inquestref03_Fits.l0]
    rw [if_pos (by omega), if_pos (by omega), wrap_nat (by omega)]
 obtain ⟨b, hb, hp⟩ := key1 fr.length 0 (by omega) (by omega)
 refine wrap' ⟨b, hgo b (Ev.step (fun k => ?_) hb), fun e => ⟨⟨by omega, by omega⟩, tri_of hi t1, by omega, ⟨by omega, by omega⟩, fun i h => (hp e).1 i (Nat.zero_le _) h, (hp e).2⟩⟩
 simp only [inquestref03_Fits.j0]
 rw [if_neg (by decide)]
 rfl
theorem fits_true (hv : Valid a0 l1 l2 l3 l4 l5) (h1 : In41 l1) (h2 : In68 l2) (h3 : InU32 l3) (h4 : InU32 l4) (h5 : InU32 l5) (hp : FitP a0 l1 l4 bad init fr) : Ev (fun k => inquestref03_Fits.f k a0 l1 l2 l3 l4 l5 bad init fr) true := by
  have hle := hv.le
  have hps := hv.pos
  have hln := hp.len
  have hbd := hp.bad
  have hmn := hp.many
  have hV := values_ev (l := init) (m := (l1.length : Int)) (by omega)
  rw [all2_of hp.tri, Bool.true_and, beq_iff_eq.2 (show (init.length : Int) = (l1.length : Int) by omega)] at hV
  have key2 : ∀ (d i : Nat), init.length - i = d → i ≤ init.length → Ev (fun k => inquestref03_Fits.l1 k (i : Int) a0 l1 l2 l3 l4 l5 bad init fr) true := by
    intro d
    induction d with
    | zero =>
      intro i hd hi
      refine Ev.step (f := fun _ => some true) (fun k => ?_) (Ev.now true)
      simp only [inquestref03_Fits.l1]
      rw [if_neg (by omega)]
    | succ d ih =>
      intro i hd hi
      refine Ev.step (fun k => ?_) (ih (i + 1) (by omega) (by omega))
      simp only [inquestref03_Fits.l1]
      rw [if_pos (by omega), if_pos (by omega), if_pos (by omega), wrap_nat (by omega)]
      by_cases e1 : (rd_T41 l1 (i : Int)).f1 = 2
      · rw [if_pos e1]
      · rw [if_neg e1]
        rcases hp.reset i (by omega) with e | e
        · exact absurd e e1
        · rw [if_pos e]
  have key1 : ∀ (d i : Nat), fr.length - i = d → i ≤ fr.length → Ev (fun k => inquestref03_Fits.l0 k (i : Int) a0 l1 l2 l3 l4 l5 bad init fr) true := by
    intro d
    induction d with
    | zero =>
      intro i hd hi
      refine Ev.step (fun k => ?_) (key2 init.length 0 (by omega) (by omega))
      simp only [inquestref03_Fits.l0]
      rw [if_neg (by omega)]
      rfl
    | succ d ih =>
      intro i hd hi
      obtain ⟨r1, r2⟩ := hp.row i (by omega)
      have hVi := values_ev (l := rd_L9 fr (i : Int)) (m := a0) (by omega)
      rw [all2_of r1, Bool.true_and, beq_iff_eq.2 r2] at hVi
      refine Ev.step (fun k => ?_) (Ev.bind (f := fun n t => if t = true then inquestref03_Fits.l0 n ((i + 1 : Nat) : Int) a0 l1 l2 l3 l4 l5 bad init fr else some false) hVi (Ev.ifp rfl (ih (i + 1) (by omega) (by omega))))
      simp only [inquestref03_Fits.l0]
      rw [if_pos (by omega), if_pos (by omega), wrap_nat (by omega)]
  refine Ev.bind (mayr_ev hv h1 h2 h3 h4 h5) (Ev.ifp rfl (Ev.ifn (by omega) (Ev.ifn (by omega) (Ev.bind hV (Ev.ifp rfl (Ev.ifn (by omega) ?_))))))
  rw [decide_eq_false (by omega)]
  refine Ev.step (fun k => ?_) (key1 fr.length 0 (by omega) (by omega))
  simp only [inquestref03_Fits.j0]
  rw [if_neg (by decide)]
  rfl
end
end Go.Proofs.Yteiiodlgdbiimaa.F
end
section
namespace Go.Proofs.Yteiiodlgdbiimaa.F
open Go.RowKit Go.Shelf Go.Proofs.YteiiodlgdbiimaaW.PrintWords Go.Proofs.YteiiodlgdbiimaaW.PrintLast Go.Proofs.YteiiodlgdbiimaaW.PrintMore
set_option linter.unusedVariables false
set_option linter.unusedSimpArgs false
theorem rdL9_at {l : List (List Int)} {i : Nat} (h : i < l.length) : rd_L9 l (i : Int) = l[i] := by simp [rd_L9, List.getD_eq_getElem?_getD, List.getElem?_eq_getElem h]
def zer (l : List Int) : List Int := l.map (fun x => if x = 2 then 0 else x)
theorem zer_len (l : List Int) : (zer l).length = l.length := by unfold zer; rw [List.length_map]
theorem zer_bit {l : List Int} (h : TriL l) : BitL (zer l) := fun x hx => by
  obtain ⟨y, hy, rfl⟩ := List.mem_map.1 hx
  have := h y hy
  unfold Tri at this
  unfold Bit
  split <;> omega
theorem zeroed_ev {l : List Int} (hl : l.length < 140737488355328) : Ev (fun k => inquestref07_zeroed.f k l) (zer l) := by
  have key : ∀ (d i : Nat), l.length - i = d → i ≤ l.length → Ev (fun k => inquestref07_zeroed.l0 k l (zer (l.take i)) (i : Int)) (zer l) := by
    intro d
    induction d with
    | zero =>
      intro i hd hi
      obtain rfl : i = l.length := by omega
      rw [List.take_length]
      refine Ev.step (f := fun _ => some (zer l)) (fun k => ?_) (Ev.now _)
      simp only [inquestref07_zeroed.l0]
      rw [if_neg (by omega)]
    | succ d ih =>
      intro i hd hi
      have hlt : i < l.length := by omega
      have el : (zer (l.take i)).length = i := by rw [zer_len, List.length_take]; omega
      have e : zer (l.take (i + 1)) = zer (l.take i) ++ [if l[i] = 2 then 0 else l[i]] := by
        unfold zer
        rw [List.take_succ_eq_append_getElem hlt, List.map_append]
        rfl
      refine Ev.step (fun k => ?_) (ih (i + 1) (by omega) (by omega))
      simp only [inquestref07_zeroed.l0]
      rw [if_pos (by omega), if_pos (by omega), rd_at hlt, wrap_nat' (by omega), e]
      by_cases h2 : l[i] = 2
      · rw [if_pos h2, if_pos h2, if_pos (by omega)]
      · rw [if_neg h2, if_neg h2, if_pos (by omega)]
  exact key l.length 0 (by omega) (by omega)
section
variable {a0 : Int} {l1 : List S41} {l2 : List S68} {l3 l4 l5 : List Int} {bad : Int} {init : List Int} {fr : List (List Int)}
theorem read_ev (hi : init.length < 140737488355328) (hf : fr.length ≤ 256) (hr : ∀ i : Nat, i < fr.length → (rd_L9 fr (i : Int)).length < 140737488355328) : Ev (fun k => inquestref07_Read.f k bad init fr) (bad, zer init, fr.map zer) := by
  have key : ∀ (d i : Nat), fr.length - i = d → i ≤ fr.length → Ev (fun k => inquestref07_Read.l0 k (i : Int) bad init fr bad (zer init) ((fr.take i).map zer)) (bad, zer init, fr.map zer) := by
    intro d
    induction d with
    | zero =>
      intro i hd hi
      obtain rfl : i = fr.length := by omega
      rw [List.take_length]
      refine Ev.step (f := fun _ => some (bad, zer init, fr.map zer)) (fun k => ?_) (Ev.now _)
      simp only [inquestref07_Read.l0]
      rw [if_neg (by omega)]
    | succ d ih =>
      intro i hd hi
      have hlt : i < fr.length := by omega
      have el : ((fr.take i).map zer).length = i := by rw [List.length_map, List.length_take]; omega
      have e : (fr.take (i + 1)).map zer = (fr.take i).map zer ++ [zer (rd_L9 fr (i : Int))] := by
        rw [List.take_succ_eq_append_getElem hlt, List.map_append, rdL9_at hlt]
        rfl
      have hgo : Ev (fun k => (inquestref07_zeroed.f k (rd_L9 fr (i : Int))).bind fun t667 => (if ((fr.take i).map zer).length < 5864062014805 then (inquestref07_Read.l0 k ((i + 1 : Nat) : Int) bad init fr bad (zer init) ((fr.take i).map zer ++ [t667])) else (none))) (bad, zer init, fr.map zer) :=
        Ev.bind (zeroed_ev (hr i hlt)) (Ev.ifp (by omega) (by rw [← e]; exact ih (i + 1) (by omega) (by omega)))
      refine Ev.step (fun k => ?_) hgo
      simp only [inquestref07_Read.l0]
      rw [if_pos (by omega), if_pos (by omega), wrap_nat (by omega)]
  exact Ev.bind (zeroed_ev hi) (key fr.length 0 (by omega) (by omega))
theorem run_ev (hv : Valid a0 l1 l2 l3 l4 l5) (h1 : In41 l1) (h2 : In68 l2) (h3 : InU32 l3) (h4 : InU32 l4) (h5 : InU32 l5) (hp : FitP a0 l1 l4 bad init fr) : Ev (fun k => inquestref07_Run.f k a0 l1 l2 l3 l4 l5 bad init fr) (framesF l1 l2 init fr, 0) := by
  have hmn := hp.many
  have key : ∀ (d i : Nat), fr.length - i = d → i ≤ fr.length → ∀ (acc : List (List Int)) (s : List Int), acc.length = i → TriL s → s.length = l1.length → Ev (fun k => inquestref07_Run.l0 k acc s (i : Int) a0 l1 l2 l3 l4 l5 bad init fr) (acc ++ framesF l1 l2 s (fr.drop i), 0) := by
    intro d
    induction d with
    | zero =>
      intro i hd hi acc s ha hs ls
      obtain rfl : i = fr.length := by omega
      rw [List.drop_length]
      have e : acc ++ framesF l1 l2 s [] = acc := by unfold framesF; rw [List.append_nil]
      rw [e]
      refine Ev.step (f := fun _ => some (acc, 0)) (fun k => ?_) (Ev.now _)
      simp only [inquestref07_Run.l0]
      rw [if_neg (by omega)]
    | succ d ih =>
      intro i hd hi acc s ha hs ls
      have hlt : i < fr.length := by omega
      obtain ⟨r1, r2⟩ := hp.row i hlt
      have hF := frame_ok hv h1 h2 h3 h4 h5 hs r1 ls r2
      have hT := run_tri (l2 := l2) (base_tri hs r1) l2.length
      have e : acc ++ framesF l1 l2 s (fr.drop i) = (acc ++ [runV (baseF s (rd_L9 fr (i : Int))) l2 l2.length]) ++ framesF l1 l2 (nextF (runV (baseF s (rd_L9 fr (i : Int))) l2 l2.length) l1) (fr.drop (i + 1)) := by
        rw [drop_at hlt, rdL9_at hlt]
        show acc ++ (_ :: _) = _
        rw [List.append_assoc]
        rfl
      rw [e]
      have hgo : Ev (fun k => (inquestref07_Frame.f k a0 l1 l2 l3 l4 l5 s (rd_L9 fr (i : Int))).bind fun bt642 => (if acc.length < 5864062014805 then (inquestref07_Run.l0 k (acc ++ [bt642.1]) bt642.2.1 ((i + 1 : Nat) : Int) a0 l1 l2 l3 l4 l5 bad init fr) else (none))) ((acc ++ [runV (baseF s (rd_L9 fr (i : Int))) l2 l2.length]) ++ framesF l1 l2 (nextF (runV (baseF s (rd_L9 fr (i : Int))) l2 l2.length) l1) (fr.drop (i + 1)), 0) :=
        Ev.bind hF (Ev.ifp (by omega) (ih (i + 1) (by omega) (by omega) _ _ (by rw [List.length_append, ha]; rfl) (next_tri hT) (next_len _ _)))
      refine Ev.step (fun k => ?_) hgo
      simp only [inquestref07_Run.l0]
      rw [if_pos (by omega), if_pos (by omega), wrap_nat (by omega)]
  refine Ev.bind (fits_true hv h1 h2 h3 h4 h5 hp) (Ev.ifp rfl ?_)
  exact key fr.length 0 (by omega) (by omega) [] init rfl hp.tri hp.len
theorem frames_tri : ∀ (fr : List (List Int)) (s : List Int), TriL s → (∀ r ∈ fr, TriL r) → ∀ V ∈ framesF l1 l2 s fr, TriL V
  | [], s, _, _, V, hV => nomatch hV
  | r :: t, s, hs, hr, V, hV => by
    have hT := run_tri (l2 := l2) (base_tri hs (hr r (List.mem_cons_self ..))) l2.length
    unfold framesF at hV
    rcases List.mem_cons.1 hV with rfl | hV
    · exact hT
    · exact frames_tri t _ (next_tri hT) (fun r hr' => hr r (List.mem_cons_of_mem _ hr')) V hV
theorem FitP.rows (hp : FitP a0 l1 l4 bad init fr) : ∀ r ∈ fr, TriL r ∧ (r.length : Int) = a0 := fun r hr => by
  obtain ⟨i, hi, rfl⟩ := List.mem_iff_getElem.1 hr
  have := hp.row i hi
  rwa [rdL9_at hi] at this
theorem surely_ev (hv : Valid a0 l1 l2 l3 l4 l5) (h1 : In41 l1) (h2 : In68 l2) (h3 : InU32 l3) (h4 : InU32 l4) (h5 : InU32 l5) (hp : FitP a0 l1 l4 bad init fr) : Ev (fun k => inquestref07_Surely.f k a0 l1 l2 l3 l4 l5 bad init fr) (sureP l4 l5 bad (framesF l1 l2 init fr), 0) := by
  have hmn := hp.many
  have hbd := hp.bad
  have hT := frames_tri (l1 := l1) (l2 := l2) fr init hp.tri (fun r hr => (hp.rows r hr).1)
  have hlen := frames_len l1 l2 fr init
  have hn5 := hv.cons.1
  refine Ev.bind (run_ev hv h1 h2 h3 h4 h5 hp) (Ev.ifp rfl ?_)
  unfold sureP
  generalize framesF l1 l2 init fr = R at hT hlen ⊢
  have hrT : ∀ i : Nat, i < R.length → TriL (rd_L9 R (i : Int)) := fun i hi => by
    rw [rdL9_at hi]
    exact hT _ (List.getElem_mem hi)
  have w1 : wrap64 ((R.length : Int) - 1) = ((R.length - 1 : Nat) : Int) := by rw [wrap64_id (by omega) (by omega)]; omega
  have key1 : ∀ (i : Nat), i < R.length → ∀ (hnext : ∀ v, Ev (fun k => inquestref07_Surely.l0 k R v ((i + 1 : Nat) : Int) a0 l1 l2 l3 l4 l5) ((R.drop (i + 1)).foldl (sureC l5) v, 0)) (d j : Nat), l5.length - j = d → j ≤ l5.length → ∀ v, Ev (fun k => inquestref07_Surely.l1 k R v (i : Int) (j : Int) a0 l1 l2 l3 l4 l5) ((R.drop (i + 1)).foldl (sureC l5) (sureC (l5.drop j) v (rd_L9 R (i : Int))), 0) := by
    intro i hi hnext d
    induction d with
    | zero =>
      intro j hd hj v
      obtain rfl : j = l5.length := by omega
      rw [List.drop_length]
      refine Ev.step (fun k => ?_) (hnext v)
      simp only [inquestref07_Surely.l1]
      rw [if_neg (by omega), wrap_nat (by omega)]
    | succ d ih =>
      intro j hd hj v
      have hlt : j < l5.length := by omega
      have hx := h5 _ (List.getElem_mem hlt)
      have e : sureC (l5.drop j) v (rd_L9 R (i : Int)) = sureC (l5.drop (j + 1)) (andP v (valP (rd_L9 R (i : Int)) l5[j])) (rd_L9 R (i : Int)) := by
        rw [drop_at hlt]
        rfl
      rw [e]
      have hgo : Ev (fun k => (inquestref07_Value.f k (rd_L9 R (i : Int)) l5[j]).bind fun t684 => ((inquestref06_And1.f k v t684).bind fun t685 => (inquestref07_Surely.l1 k R t685 (i : Int) ((j + 1 : Nat) : Int) a0 l1 l2 l3 l4 l5))) ((R.drop (i + 1)).foldl (sureC l5) (sureC (l5.drop (j + 1)) (andP v (valP (rd_L9 R (i : Int)) l5[j])) (rd_L9 R (i : Int))), 0) :=
        Ev.bind (value_ev (hrT i hi) hx.1 hx.2) (Ev.bind (and1_ev _ _) (ih (j + 1) (by omega) (by omega) _))
      refine Ev.step (fun k => ?_) hgo
      simp only [inquestref07_Surely.l1]
      rw [if_pos (by omega), if_pos (by omega), if_pos (by omega), if_pos (by omega), rd_at hlt, wrap_nat (by omega)]
  have key0 : ∀ (d i : Nat), R.length - i = d → i ≤ R.length → ∀ v, Ev (fun k => inquestref07_Surely.l0 k R v (i : Int) a0 l1 l2 l3 l4 l5) ((R.drop i).foldl (sureC l5) v, 0) := by
    intro d
    induction d with
    | zero =>
      intro i hd hi v
      obtain rfl : i = R.length := by omega
      rw [List.drop_length]
      refine Ev.step (f := fun _ => some (v, 0)) (fun k => ?_) (Ev.now _)
      simp only [inquestref07_Surely.l0]
      rw [if_neg (by omega)]
    | succ d ih =>
      intro i hd hi v
      have hlt : i < R.length := by omega
      have e : (R.drop i).foldl (sureC l5) v = (R.drop (i + 1)).foldl (sureC l5) (sureC (l5.drop 0) v (rd_L9 R (i : Int))) := by
        rw [drop_at hlt, List.foldl_cons, rdL9_at hlt]
        rfl
      rw [e]
      refine Ev.step (fun k => ?_) (key1 i hlt (fun v => ih (i + 1) (by omega) (by omega) v) l5.length 0 (by omega) (by omega) v)
      simp only [inquestref07_Surely.l0]
      rw [if_pos (by omega)]
      rfl
  have hr0 : rd_L9 R ((R.length - 1 : Nat) : Int) = R.getD (R.length - 1) [] := by unfold rd_L9; rw [Int.toNat_natCast]
  have hx : 0 ≤ rd l4 bad ∧ rd l4 bad < 4294967296 := rd_u32 h4 bad
  dsimp only
  rw [w1]
  refine Ev.ifp (by omega) (Ev.ifp (by omega) (Ev.ifp (by omega) (Ev.ifp (by omega) (Ev.bind (value_ev (hrT (R.length - 1) (by omega)) hx.1 hx.2) ?_))))
  rw [hr0]
  exact key0 R.length 0 (by omega) (by omega) _
theorem FitP.zeroed (hp : FitP a0 l1 l4 bad init fr) : FitP a0 l1 l4 bad (zer init) (fr.map zer) := by
  refine ⟨hp.bad, (zer_bit hp.tri).tri, by rw [zer_len]; exact hp.len, by rw [List.length_map]; exact hp.many, fun i hi => ?_, fun i hi => ?_⟩
  · rw [List.length_map] at hi
    have := hp.row i hi
    rw [rdL9_at hi] at this
    rw [rdL9_at (by rw [List.length_map]; exact hi), List.getElem_map, zer_len]
    exact ⟨(zer_bit this.1).tri, this.2⟩
  · rw [zer_len] at hi
    rcases hp.reset i hi with e | e
    · exact .inl e
    · rw [rd_at hi] at e
      rw [rd_at (by rw [zer_len]; exact hi)]
      unfold zer
      rw [List.getElem_map]
      by_cases h2 : init[i] = 2
      · left
        rw [e, h2]
      · right
        rw [if_neg h2, e]
theorem fails_ev (hv : Valid a0 l1 l2 l3 l4 l5) (h1 : In41 l1) (h2 : In68 l2) (h3 : InU32 l3) (h4 : InU32 l4) (h5 : InU32 l5) (hp : FitP a0 l1 l4 bad init fr) : Ev (fun k => inquestref07_Fails.f k a0 l1 l2 l3 l4 l5 bad init fr) ((sureP l4 l5 bad (framesF l1 l2 (zer init) (fr.map zer)) == 1), 0) := by
  have hle := hv.le
  have hps := hv.pos
  have hln := hp.len
  have hmn := hp.many
  refine Ev.bind (fits_true hv h1 h2 h3 h4 h5 hp) (Ev.ifp rfl (Ev.bind (read_ev (by omega) (by omega) (fun i hi => by have := (hp.row i hi).2; omega)) ?_))
  exact Ev.bind (surely_ev hv h1 h2 h3 h4 h5 hp.zeroed) (Ev.now _)
end
end Go.Proofs.Yteiiodlgdbiimaa.F
end
section
namespace Go.Proofs.Yteiiodlgdbiimaa.F
open Go.RowKit Go.Shelf Go.Proofs.YteiiodlgdbiimaaW.PrintWords Go.Proofs.YteiiodlgdbiimaaW.PrintLast Go.Proofs.YteiiodlgdbiimaaW.PrintMore
set_option linter.unusedVariables false
set_option linter.unusedSimpArgs false
theorem lives24_is : inquestlaw24_lives.f 20 = some true := by kernel_rfl
theorem lives24_ev : Ev (fun k => inquestlaw24_lives.f k) true := Ev.of (fun k => inquestlaw24_lives.mono k) lives24_is
end Go.Proofs.Yteiiodlgdbiimaa.F
end
section
namespace Go.Proofs.Yteiiodlgdbiimaa.F
open Go.RowKit Go.Shelf Go.Proofs.YteiiodlgdbiimaaW.PrintWords Go.Proofs.YteiiodlgdbiimaaW.PrintLast Go.Proofs.YteiiodlgdbiimaaW.PrintMore
set_option linter.unusedVariables false
set_option linter.unusedSimpArgs false
theorem rows_in {l : List (List Int)} (h : ∀ r ∈ l, InU8 r ∧ r.length < 9223372036854775808) : InRows l := fun i => by
  unfold rd_L9
  rw [List.getD_eq_getElem?_getD]
  cases hg : l[i.toNat]? with
  | none => exact ⟨(fun x hx => nomatch hx), by decide⟩
  | some v => exact h v (List.mem_of_getElem? hg)
section
variable {a0 : Int} {l1 : List S41} {l2 : List S68} {l3 l4 l5 : List Int} {bad : Int} {init : List Int} {fr : List (List Int)}
theorem runs6_go (hv : Valid a0 l1 l2 l3 l4 l5) (h1 : In41 l1) (h2 : In68 l2) (h3 : InU32 l3) (h4 : InU32 l4) (h5 : InU32 l5) (hm : mayB a0 l1 l2 l3 l4 l5 = true) (hp : FitP a0 l1 l4 bad init fr) :
  Ev (fun k => inquestlaw24_StrashRuns.j0 k false a0 l1 l2 l3 l4 l5 bad init fr) true := by
 have hps := hv.pos
 have hle := hv.le
 have hmn := hp.many
 have hbd := hp.bad
 have hn4 := hv.bads
 have hn5 := hv.cons
 have hS := small_ok h1 h2 h3 h4 h5 (by omega) (by omega) hm
 have w1 : wrap64 (a0 + (l1.length : Int)) = a0 + (l1.length : Int) := wrap64_id (by omega) (by omega)
 have w2 : wrap64 (a0 + (l1.length : Int) + (l2.length : Int)) = a0 + (l1.length : Int) + (l2.length : Int) := wrap64_id (by omega) (by omega)
 have w3 : wrap64 (a0 + (l1.length : Int) + (l2.length : Int) + 1) = a0 + (l1.length : Int) + (l2.length : Int) + 1 := wrap64_id (by omega) (by omega)
 have hVars : Ev (fun k => inquestref03_Vars.f k a0 l1 l2 l3 l4 l5) (a0 + (l1.length : Int) + (l2.length : Int)) := by
  unfold inquestref03_Vars.f
  refine Ev.bind (mayr_ev hv h1 h2 h3 h4 h5) (Ev.ifp rfl ?_)
  rw [w1, w2]
  exact Ev.now _
 obtain ⟨n, hn⟩ : ∃ n : Nat, n = a0.toNat + l1.length + l2.length + 1 := ⟨_, rfl⟩
 have hbl := blank_len n
 have hsim := sim_run hv h1 h2 (blank_tri n) (by rw [hbl]; omega) (blank_blank (by omega))
 have hwv := with_valid hv h1 h2 h3 h4 h5 (fun i => by have := rd_tri (blank_tri n) i; unfold Tri at this; omega) (show ((blankL n).length : Int) = a0 + (l1.length : Int) + (l2.length : Int) + 1 by rw [hbl]; omega)
 unfold smallW at hS
 rw [← hn] at hS
 rw [hbl] at hsim hwv
 generalize wasW a0 l1 l2 (blankL n) = s at hS hsim hwv
 obtain ⟨hSh, hgl, k1, k2, k3, k4, k5, hv'⟩ := hwv
 have hsl := hSh.len
 have hll : (latM s.1 l1).length = l1.length := by unfold latM; rw [List.length_map]
 have hp' : FitP a0 (latM s.1 l1) (l4.map (litP s.1)) bad init fr := by
  refine ⟨by rw [List.length_map]; exact hbd, hp.tri, by rw [hll]; exact hp.len, hmn, hp.row, fun i hi => ?_⟩
  have hil : i < l1.length := by rw [← hp.len]; exact hi
  have e : (rd_T41 (latM s.1 l1) (i : Int)).f1 = (rd_T41 l1 (i : Int)).f1 := by
   rw [rd41_at (by rw [hll]; exact hil), rd41_at hil]
   simp only [latM, List.getElem_map]
  rw [e]
  exact hp.reset i hi
 have hF1 := fits_true hv' k1 k2 k3 k4 k5 hp'
 have hR := run_ev hv h1 h2 h3 h4 h5 hp
 have hR' := run_ev hv' k1 k2 k3 k4 k5 hp'
 have hA := hsim fr init init hp.tri hp.tri hp.len hp.len hp.rows (fun i _ => le3_refl _)
 have hZ := hsim (fr.map zer) (zer init) (zer init) (zer_bit hp.tri).tri (zer_bit hp.tri).tri (by rw [zer_len]; exact hp.len) (by rw [zer_len]; exact hp.len) (hp.zeroed).rows (fun i _ => le3_refl _)
 have hfl := frames_len l1 l2 fr init
 have hFa := fails_ev hv h1 h2 h3 h4 h5 hp
 have hFb := fails_ev hv' k1 k2 k3 k4 k5 hp'
 have hbits := frames_bit hv (fr.map zer) (zer init) (zer_bit hp.tri) (by rw [zer_len]; exact hp.len) (fun r hr => by
  obtain ⟨q, hq, rfl⟩ := List.mem_map.1 hr
  have := hp.rows q hq
  exact ⟨zer_bit this.1, by rw [zer_len]; exact this.2⟩)
 have hsure : sureP (l4.map (litP s.1)) (l5.map (litP s.1)) bad (framesF (latM s.1 l1) s.2 (zer init) (fr.map zer)) = sureP l4 l5 bad (framesF l1 l2 (zer init) (fr.map zer)) := by
  have hzl := frames_len l1 l2 (fr.map zer) (zer init)
  rw [List.length_map] at hzl
  generalize framesF (latM s.1 l1) s.2 (zer init) (fr.map zer) = N at hZ ⊢
  generalize framesF l1 l2 (zer init) (fr.map zer) = V at hZ hbits hzl ⊢
  have hl := hZ.len
  obtain ⟨m, hmq⟩ : ∃ m : Nat, bad = (m : Int) := ⟨bad.toNat, by omega⟩
  have hm4 : m < l4.length := by omega
  have hb4 := h4 _ (List.getElem_mem hm4)
  have hb4' := hn4.2 _ (List.getElem_mem hm4)
  rw [wrap64_id (by omega) (by omega)] at hb4'
  have hlit : ∀ c ∈ l5, 0 ≤ c ∧ c < 4294967296 ∧ c / 2 < (n : Int) := fun c hc => by
   have q1 := h5 c hc
   have q2 := hn5.2 c hc
   rw [wrap64_id (by omega) (by omega)] at q2
   exact ⟨q1.1, q1.2, by omega⟩
  unfold sureP
  have hV1 : V.length - 1 < V.length := by omega
  have hN1 : N.length - 1 < N.length := by omega
  have e1 : V.getD (V.length - 1) [] = V[V.length - 1] := by rw [List.getD_eq_getElem?_getD, List.getElem?_eq_getElem hV1, Option.getD_some]
  have e2 : N.getD (N.length - 1) [] = N[V.length - 1] := by rw [List.getD_eq_getElem?_getD, List.getElem?_eq_getElem hN1, Option.getD_some]; simp only [hl]
  have e3 : rd (l4.map (litP s.1)) bad = litP s.1 l4[m] := by rw [hmq]; exact rd_map2 hm4
  have e4 : rd l4 bad = l4[m] := by rw [hmq]; exact rd_at hm4
  rw [e1, e2, e3, e4]
  have hq := hZ.at (V.length - 1) hV1 (by omega)
  refine le_bit (sureP_mono (litP s.1) (R := SimF n s.1) (fun A B hAB c hc => hAB.lit c (hlit c hc).1 (hlit c hc).2.1 (hlit c hc).2.2) hZ _ _ (hq.lit _ hb4.1 hb4.2 (by omega))) ?_
  refine sureP_bit V _ (val_bit (hbits _ (List.getElem_mem hV1)).1 (by have := (hbits _ (List.getElem_mem hV1)).2; omega)) (fun W hW c hc => val_bit (hbits W hW).1 (by have := (hbits W hW).2; have := hlit c hc; omega))
 have hend : Ev (fun k => (inquestref07_Fails.f k a0 l1 l2 l3 l4 l5 bad init fr).bind fun bt734 => ((inquestref07_Fails.f k a0 (latM s.1 l1) s.2 (l3.map (litP s.1)) (l4.map (litP s.1)) (l5.map (litP s.1)) bad init fr).bind fun bt736 => (if bt736.2 = 0 then (if (bt734.1 == bt736.1) = true then ((inquestlaw24_lives.f k).bind fun t738 => (some t738)) else (some false)) else (some false)))) true := by
  refine Ev.bind hFa (Ev.bind hFb (Ev.ifp rfl (Ev.ifp ?_ (Ev.bind lives24_ev (Ev.now true)))))
  rw [hsure]
  exact beq_self_eq_true _
 have key1 : ∀ (f : Nat) (hf : f < fr.length) (V N : List (List Int)) (hVN : All2 (SimF n s.1) V N) (hl : V.length = fr.length) (next : Ev (fun k => inquestlaw24_StrashRuns.l0 k s.1 V N (V.length : Int) ((f + 1 : Nat) : Int) a0 l1 l2 l3 l4 l5 bad init fr a0 (latM s.1 l1) s.2 (l3.map (litP s.1)) (l4.map (litP s.1)) (l5.map (litP s.1))) true) (d v : Nat), n - v = d → v ≤ n →
   Ev (fun k => inquestlaw24_StrashRuns.l1 k s.1 V N (f : Int) (V.length : Int) (f : Int) (n : Int) (v : Int) a0 l1 l2 l3 l4 l5 bad init fr a0 (latM s.1 l1) s.2 (l3.map (litP s.1)) (l4.map (litP s.1)) (l5.map (litP s.1))) true := by
  intro f hf V N hVN hl next d
  have hNl := hVN.len
  have hSm := hVN.at f (by omega) (by omega)
  induction d with
  | zero =>
   intro v hd hvn
   obtain rfl : v = n := by omega
   refine Ev.step (fun k => ?_) next
   simp only [inquestlaw24_StrashRuns.l1]
   rw [if_neg (by omega), wrap_nat (by omega)]
  | succ d ih =>
   intro v hd hvn
   have hlt : v < n := by omega
   have hx := rd_u32 hSh.u32 (v : Int)
   have hval := hSm.val v hlt
   have hlen := hSm.len
   have hgo : Ev (fun k => (inquestref07_Value.f k (rd_L9 N (f : Int)) (rd s.1 (v : Int))).bind fun t742 => (if (f : Int) < (V.length : Int) then (if (v : Int) < ((rd_L9 V (f : Int)).length : Int) then (if (rd (rd_L9 V (f : Int)) (v : Int)) = 2 then (inquestlaw24_StrashRuns.l1 k s.1 V N (f : Int) (V.length : Int) (f : Int) (n : Int) ((v + 1 : Nat) : Int) a0 l1 l2 l3 l4 l5 bad init fr a0 (latM s.1 l1) s.2 (l3.map (litP s.1)) (l4.map (litP s.1)) (l5.map (litP s.1))) else (if (rd (rd_L9 V (f : Int)) (v : Int)) = t742 then (inquestlaw24_StrashRuns.l1 k s.1 V N (f : Int) (V.length : Int) (f : Int) (n : Int) ((v + 1 : Nat) : Int) a0 l1 l2 l3 l4 l5 bad init fr a0 (latM s.1 l1) s.2 (l3.map (litP s.1)) (l4.map (litP s.1)) (l5.map (litP s.1))) else (some false))) else (none)) else (none))) true := by
    rw [rdL9_at (show f < N.length by omega), rdL9_at (show f < V.length by omega)]
    refine Ev.bind (value_ev hSm.triN hx.1 hx.2) (Ev.ifp (by omega) (Ev.ifp (by omega) ?_))
    rcases hval with e | e
    · exact Ev.ifp e (ih (v + 1) (by omega) (by omega))
    ·
     by_cases h2 : rd V[f] (v : Int) = 2
     · exact Ev.ifp h2 (ih (v + 1) (by omega) (by omega))
     · exact Ev.ifn h2 (Ev.ifp e.symm (ih (v + 1) (by omega) (by omega)))
   refine Ev.step (fun k => ?_) hgo
   simp only [inquestlaw24_StrashRuns.l1]
   rw [if_pos (by omega), if_pos (by omega), if_pos (by omega), if_pos (by omega), if_pos (by omega), wrap_nat (by omega)]
 have key0 : ∀ (V N : List (List Int)) (hVN : All2 (SimF n s.1) V N) (hl : V.length = fr.length) (d f : Nat), fr.length - f = d → f ≤ fr.length → Ev (fun k => inquestlaw24_StrashRuns.l0 k s.1 V N (V.length : Int) (f : Int) a0 l1 l2 l3 l4 l5 bad init fr a0 (latM s.1 l1) s.2 (l3.map (litP s.1)) (l4.map (litP s.1)) (l5.map (litP s.1))) true := by
  intro V N hVN hl d
  induction d with
  | zero =>
   intro f hd hf
   refine Ev.step (fun k => ?_) hend
   simp only [inquestlaw24_StrashRuns.l0]
   rw [if_neg (by omega)]
  | succ d ih =>
   intro f hd hf
   have hlt : f < V.length := by omega
   have hlen := (hVN.at f hlt (by have := hVN.len; omega)).len
   refine Ev.step (fun k => ?_) (key1 f (by omega) V N hVN hl (ih (f + 1) (by omega) (by omega)) n 0 (by omega) (by omega))
   simp only [inquestlaw24_StrashRuns.l0]
   rw [if_pos (by omega), if_pos (by omega), if_pos (by omega), rdL9_at hlt, hlen]
   rfl
 have hj1 : Ev (fun k => inquestlaw24_StrashRuns.j1 k s.1 false a0 l1 l2 l3 l4 l5 bad init fr a0 (latM s.1 l1) s.2 (l3.map (litP s.1)) (l4.map (litP s.1)) (l5.map (litP s.1))) true := by
  have hgo : Ev (fun k => (inquestref07_Run.f k a0 l1 l2 l3 l4 l5 bad init fr).bind fun bt726 => ((inquestref07_Run.f k a0 (latM s.1 l1) s.2 (l3.map (litP s.1)) (l4.map (litP s.1)) (l5.map (litP s.1)) bad init fr).bind fun bt730 => (inquestlaw24_StrashRuns.l0 k s.1 bt726.1 bt730.1 (bt726.1.length : Int) 0 a0 l1 l2 l3 l4 l5 bad init fr a0 (latM s.1 l1) s.2 (l3.map (litP s.1)) (l4.map (litP s.1)) (l5.map (litP s.1))))) true :=
   Ev.bind hR (Ev.bind hR' (key0 _ _ hA hfl fr.length 0 (by omega) (by omega)))
  refine Ev.step (fun k => ?_) hgo
  simp only [inquestlaw24_StrashRuns.j1]
  rw [if_neg (by decide)]
 refine Ev.step (f := fun k => (strash_Small.f a0 l1 l2 l3 l4 l5).bind fun bt703 => (if bt703.2.2.2.2.2.2.2 = 0 then ((inquestref03_Vars.f k a0 l1 l2 l3 l4 l5).bind fun t724 => (if (bt703.2.2.2.2.2.2.1.length : Int) = (wrap64 (t724 + 1)) then ((inquestref03_Fits.f k bt703.1 bt703.2.1 bt703.2.2.1 bt703.2.2.2.1 bt703.2.2.2.2.1 bt703.2.2.2.2.2.1 bad init fr).bind fun t725 => (inquestlaw24_StrashRuns.j1 k bt703.2.2.2.2.2.2.1 (!t725) a0 l1 l2 l3 l4 l5 bad init fr bt703.1 bt703.2.1 bt703.2.2.1 bt703.2.2.2.1 bt703.2.2.2.2.1 bt703.2.2.2.2.2.1)) else (inquestlaw24_StrashRuns.j1 k bt703.2.2.2.2.2.2.1 true a0 l1 l2 l3 l4 l5 bad init fr bt703.1 bt703.2.1 bt703.2.2.1 bt703.2.2.2.1 bt703.2.2.2.2.1 bt703.2.2.2.2.2.1))) else (inquestlaw24_StrashRuns.j1 k bt703.2.2.2.2.2.2.1 true a0 l1 l2 l3 l4 l5 bad init fr bt703.1 bt703.2.1 bt703.2.2.1 bt703.2.2.2.1 bt703.2.2.2.2.1 bt703.2.2.2.2.2.1))) (fun k => ?_) ?_
 ·
  simp only [inquestlaw24_StrashRuns.j0]
  rw [if_neg (by decide)]
 ·
  refine Ev.bound hS (Ev.ifp rfl (Ev.bind hVars (Ev.ifp ?_ (Ev.bind hF1 hj1))))
  dsimp only
  rw [w3, hsl]
  omega
theorem runs6_ev (ha : -9223372036854775808 ≤ a0 ∧ a0 < 9223372036854775808) (n3 : l3.length < 9223372036854775808) (n4 : l4.length < 9223372036854775808) (n5 : l5.length < 9223372036854775808) (ni : init.length < 9223372036854775808)
    (h1 : In41 l1) (h2 : In68 l2) (h3 : InU32 l3) (h4 : InU32 l4) (h5 : InU32 l5) (hi : InU8 init) (hf : InRows fr) : Ev (fun k => inquestlaw24_StrashRuns.f k a0 l1 l2 l3 l4 l5 bad init fr) true := by
  have hliv : Ev (fun k => inquestlaw24_StrashRuns.j0 k true a0 l1 l2 l3 l4 l5 bad init fr) true := by
    refine Ev.step (fun k => ?_) (show Ev (fun k => (inquestlaw24_lives.f k).bind fun t846 => (some t846)) true from Ev.bind lives24_ev (Ev.now true))
    simp only [inquestlaw24_StrashRuns.j0]
    rw [if_pos trivial]
  unfold inquestlaw24_StrashRuns.f
  by_cases g1 : a0 > 300
  · exact Ev.bound (a := true) (by unfold inquestlaw24_great.f; rw [if_pos g1]) (Ev.ifp rfl hliv)
  by_cases g2 : (l1.length : Int) > 300
  · exact Ev.bound (a := true) (by unfold inquestlaw24_great.f; rw [if_neg g1, if_pos g2]) (Ev.ifp rfl hliv)
  by_cases g3 : (l2.length : Int) > 300
  · exact Ev.bound (a := true) (by unfold inquestlaw24_great.f; rw [if_neg g1, if_neg g2, if_pos g3]) (Ev.ifp rfl hliv)
  refine Ev.bound (by unfold inquestlaw24_great.f; rw [if_neg g1, if_neg g2, if_neg g3]) ?_
  generalize decide ((wrap64 ((wrap64 ((l3.length : Int) + (l4.length : Int))) + (l5.length : Int))) > 600) = b
  cases b
  · refine Ev.ifn (by decide) ?_
    by_cases g4 : (fr.length : Int) > 60
    · exact Ev.ifp g4 hliv
    · refine Ev.ifn g4 ?_
      obtain ⟨b, hb, hbt⟩ := fits_some (bad := bad) ha (by omega) (by omega) n3 n4 n5 h1 h2 h3 h4 h5 hi ni hf
      refine Ev.bind hb ?_
      cases b
      · exact hliv
      · obtain ⟨hm, hp⟩ := hbt rfl
        have hk : okIn l1 l2 = true := okIn_of h1 h2 (by omega) (by omega)
        exact runs6_go (valid_of_may hk hm).1 h1 h2 h3 h4 h5 hm hp
  · exact Ev.ifp rfl hliv
end
end Go.Proofs.Yteiiodlgdbiimaa.F
end
section
namespace Go.Proofs.Yteiiodlgdbiimaa.F
open Go.Joins Go.ChangeShapes Go.WideShapes Go.ChangeAt Go.Deep Go.RowKit Go.Proofs.YteiiodlgdbiimaaW.PrintWords Go.Proofs.YteiiodlgdbiimaaW.PrintLast Go.Proofs.YteiiodlgdbiimaaW.PrintMore
set_option linter.unusedVariables false
set_option linter.unusedSimpArgs false
theorem lt63 {n : Nat} (h : n ≤ 9223372036854775807) : n < 9223372036854775808 := by omega
end Go.Proofs.Yteiiodlgdbiimaa.F
end
section
namespace Go.Proofs.Yteiiodlgdbiimaa.F
open Go.Joins Go.ChangeShapes Go.WideShapes Go.ChangeAt Go.Deep Go.RowKit Go.Proofs.YteiiodlgdbiimaaW.PrintWords Go.Proofs.YteiiodlgdbiimaaW.PrintLast Go.Proofs.YteiiodlgdbiimaaW.PrintMore
set_option linter.unusedVariables false
set_option linter.unusedSimpArgs false
theorem openRows {H : Type} {enc : TypeId × Value → H} {w : World} {base : Nat} {sp : Nat → Bool} {held : Bool} {fuel : Nat} {v : Value} {x : DataW H × List MemPlace} (h : DataW.trod enc Try.prog w base sp held fuel 29 [v] = some x) :
    ∃ (A : Option Addr) (c : Nat) (l : List (List Int)), v = .slice A l.length c ∧ l.length ≤ c ∧ Kd.C (Kd.slice 5 (Kd.int .u8)) w A l.length l ∧ ∀ r ∈ l, InU8 r ∧ r.length < 9223372036854775808 := by
  rcases open_slice1 Try.underlying29 (by kernel_rfl) h with ⟨hcs, _⟩ | ⟨a, len, cap, m, n, V, D, Pl, hcs, hb, hl, hm, hmm, _, hi⟩
  · injection hcs with e1 _
    exact ⟨none, 0, [], e1, Nat.le_refl _, ⟨rfl, by simp, fun h => absurd h (by simp)⟩, fun g hg => by cases hg⟩
  · injection hcs with e1 _
    have hlm : len ≤ m := by rw [hmm]; split <;> omega
    obtain ⟨l, hll, hq⟩ := list_of (fun i (r : List Int) => ∃ (A : Option Addr) (c : Nat), V i = .slice A r.length c ∧ r.length ≤ c ∧ Kd.C (Kd.int .u8) w A r.length r ∧ InU8 r) len (fun i hlt => by
      obtain ⟨_, ht⟩ := hi i (by omega)
      obtain ⟨A, c, r, e, h1, h2, h3⟩ := openB ht
      exact ⟨r, A, c, e, h1, h2, h3⟩)
    refine ⟨some a, cap, l, by rw [hll]; exact e1, by omega, ⟨rfl, by simp only [maxLen] at hm; omega, fun _ => ⟨a, rfl, fun j p hj => ?_⟩⟩, fun r hr => ?_⟩
    · obtain ⟨A, c, e, h1, h2, _⟩ := hq j p hj
      have hjl := (List.getElem?_eq_some_iff.1 hj).1
      refine ⟨[.slice A p.length c], rfl, ⟨A, c, rfl, h1, h2⟩, fun i u hu => ?_⟩
      cases i with
      | zero =>
        cases hu
        have := (hi j (by omega)).1
        rw [e] at this
        show w.cell? (a.add (j * 1 + 0)) = _
        rw [Nat.mul_one, Nat.add_zero]
        exact this
      | succ i => simp at hu
    · obtain ⟨j, hj, rfl⟩ := List.mem_iff_getElem.1 hr
      obtain ⟨A, c, e, h1, h2, h3⟩ := hq j _ (List.getElem?_eq_getElem hj)
      exact ⟨h3, lt63 h2.2.1⟩
section
variable {H : Type} {enc : TypeId × Value → H} {w : World} {base : Nat} {spare : Nat → Bool} {held : Bool}
set_option maxRecDepth 100000 in
theorem open_trio {r : Reach} {b0 : Nat} {t : TypeId} {f0 f1 f2 : Field} {v : Value} {d : DataW H} {p : List MemPlace} (hs : Try.prog.underlying t = some (.struct #[f0, f1, f2])) (hone : oneCellFields Try.prog #[f0, f1, f2] = true) (hC : Try.prog.cellsOf t = 3)
    (hv : Value.okWide Try.prog w r b0 t v) (h : DataW.Trod enc Try.prog w base spare held t v d p) :
    ∃ (v0 v1 v2 : Value) (y0 y1 y2 : DataW H × List MemPlace) (n : Nat), v = .agg #[v0, v1, v2] ∧ d = .agg [y0.1, y1.1, y2.1] ∧ p = y0.2 ++ (y1.2 ++ y2.2) ∧
      DataW.trod enc Try.prog w base spare held n f0.type [v0] = some y0 ∧ DataW.trod enc Try.prog w base spare held n f1.type [v1] = some y1 ∧ DataW.trod enc Try.prog w base spare held n f2.type [v2] = some y2 := by
  obtain ⟨cs, rfl, hsz⟩ := okWide_struct hs hv
  obtain ⟨l⟩ := cs
  match l, hsz.trans hC with
  | [c0, c1, c2], _ =>
    obtain ⟨fuel, hf⟩ := h
    obtain ⟨xs, n, _, hx, _, hlen, hg⟩ := DataW.trod_struct hs hf
    obtain ⟨o0, k0⟩ := hone_of hone 0 f0 rfl
    obtain ⟨o1, k1⟩ := hone_of hone 1 f1 rfl
    obtain ⟨o2, k2⟩ := hone_of hone 2 f2 rfl
    match xs, hlen with
    | [y0, y1, y2], _ =>
      simp only [Prod.mk.injEq] at hx
      exact ⟨c0, c1, c2, y0, y1, y2, n, rfl, by simpa using hx.1, by simpa using hx.2, by simpa [Value.cells, o0, k0] using hg 0 f0 rfl, by simpa [Value.cells, o1, k1] using hg 1 f1 rfl, by simpa [Value.cells, o2, k2] using hg 2 f2 rfl⟩
end
set_option maxRecDepth 100000 in
theorem openTrace {H : Type} {enc : TypeId × Value → H} {w : World} {base : Nat} {sp : Nat → Bool} {held : Bool} {r : Reach} {b0 : Nat} {v : Value} {d : DataW H} {p : List MemPlace} (hv : Value.okWide Try.prog w r b0 31 v) (h : DataW.Trod enc Try.prog w base sp held 31 v d p) :
    ∃ (a0 : Int) (A1 : Option Addr) (c1 : Nat) (l1 : List Int) (A2 : Option Addr) (c2 : Nat) (l2 : List (List Int)),
      v = .agg #[.int .i64 a0, .slice A1 l1.length c1, .slice A2 l2.length c2] ∧ (-9223372036854775808 ≤ a0 ∧ a0 < 9223372036854775808) ∧
      (l1.length ≤ c1 ∧ Kd.C (Kd.int .u8) w A1 l1.length l1 ∧ InU8 l1) ∧ (l2.length ≤ c2 ∧ Kd.C (Kd.slice 5 (Kd.int .u8)) w A2 l2.length l2 ∧ ∀ r ∈ l2, InU8 r ∧ r.length < 9223372036854775808) := by
  obtain ⟨v0, v1, v2, y0, y1, y2, n, rfl, _, _, t0, t1, t2⟩ := open_trio Try.underlying31 (by kernel_rfl) (by kernel_rfl) hv h
  obtain ⟨a0, e0, _, w0⟩ := DataW.trod_int Try.underlying3 t0
  injection e0 with e0 _
  subst e0
  obtain ⟨A1, c1, l1, rfl, h1, k1, i1⟩ := openB t1
  obtain ⟨A2, c2, l2, rfl, h2, k2, i2⟩ := openRows t2
  exact ⟨a0, A1, c1, l1, A2, c2, l2, rfl, wf_i64 w0, ⟨h1, k1, i1⟩, ⟨h2, k2, i2⟩⟩
end Go.Proofs.Yteiiodlgdbiimaa.F
end
section
namespace Go.Proofs.Yteiiodlgdbiimaa.strashRuns
open Go.ChangeShapes Go.WideShapes Go.ChangeAt Go.RowKit Go.Proofs.Yteiiodlgdbiimaa.F Go.Proofs.YteiiodlgdbiimaaW.PrintWords Go.Proofs.YteiiodlgdbiimaaW.PrintLast Go.Proofs.YteiiodlgdbiimaaW.PrintMore
set_option linter.unusedVariables false
theorem own : ownKnob Try.prog.godebug = none := by kernel_rfl
theorem laidOut : laidOutB Try.prog = true := by kernel_rfl
set_option maxRecDepth 100000 in
theorem lifted (os : Os) (started : os.Started) (H : Type) (enc : TypeId × Value → H) :
    ReturnsInHanded {} Try.checked os 6 .any (Rows.strashRunsSpec.pre6 enc Try.prog Try.f6 Rows.strashRunsRow.domain false) (Rows.strashRunsSpec.post enc Try.prog Try.f6 false true false false) := by
  refine returnsInHanded_of_change_sized (C := Try.checked) own started (by kernel_rfl) Try.func6
    (ChangeSpec.witness6 (enc := enc) (C := Try.checked) false ⟨#[], #[.agg #[.int .i64 0, .slice none 0 0, .slice none 0 0, .slice none 0 0, .slice none 0 0, .slice none 0 0], .agg #[.int .i64 0, .slice none 0 0, .slice none 0 0]], []⟩ 8 (by kernel_rfl) (by kernel_rfl) (by kernel_rfl) (by kernel_rfl)) ?_
  intro W base args ds gs before hval0 hW hcnd hsz0 _
  have hval : ∀ (j : Nat) t v, Try.f6.params[j]? = some t → args[j]? = some v → Value.okWide Try.prog W .any base t v := hval0
  have hW' := hW
  obtain ⟨p, q, hA0, hV, rfl, hfz, hnd⟩ := hW
  have hA : DataW.TrodAll enc Try.prog W 0 (fun _ => true) true Try.f6.params.toList args.toList ds p := hA0
  rw [Try.params6] at hA hval
  obtain ⟨v0, vs0, d0, ds0, p0, q0, hargs, rfl, rfl, h0, r0⟩ := trodAll_cons hA
  obtain ⟨v1, vs1, d1, ds1, p1, q1, rfl, rfl, rfl, h1, r1⟩ := trodAll_cons r0
  obtain ⟨rfl, rfl, rfl⟩ := trodAll_nil r1
  obtain rfl : args = #[v0, v1] := by cases args; simp_all
  obtain ⟨rfl, rfl⟩ := trodVars_none hV
  have k0 := h0
  have lt0 : ∀ x ∈ p0, x.block < W.heap.size := by obtain ⟨m, hm⟩ := k0; exact DataW.trod_lt m _ _ _ hm
  obtain ⟨a0_0, A0_1, c0_1, l0_1, A0_2, c0_2, l0_2, A0_3, c0_3, l0_3, A0_4, c0_4, l0_4, A0_5, c0_5, l0_5, rfl, w0, ⟨hc0_1, hr0_1, w0_1⟩, ⟨hc0_2, hr0_2, w0_2⟩, ⟨hc0_3, hr0_3, w0_3⟩, ⟨hc0_4, hr0_4, w0_4⟩, ⟨hc0_5, hr0_5, w0_5⟩⟩ := openCirc (hval 0 26 v0 rfl rfl) h0
  have k1 := h1
  have lt1 : ∀ x ∈ p1, x.block < W.heap.size := by obtain ⟨m, hm⟩ := k1; exact DataW.trod_lt m _ _ _ hm
  obtain ⟨a1_0, A1_1, c1_1, l1_1, A1_2, c1_2, l1_2, rfl, w1, ⟨hc1_1, hr1_1, w1_1⟩, ⟨hc1_2, hr1_2, w1_2⟩⟩ := openTrace (hval 1 31 v1 rfl rfl) h1
  clear hA0 hval0 hsz0
  obtain ⟨k, hpure⟩ := Ev.rounds (runs6_ev (bad := a1_0) w0 (lt63 hr0_3.2.1) (lt63 hr0_4.2.1) (lt63 hr0_5.2.1) (lt63 hr1_1.2.1) w0_1 w0_2 w0_3 w0_4 w0_5 w1_1 (rows_in w1_2))
  refine (inquestlaw24_StrashRuns.calls k a0_0 A0_1 c0_1 l0_1 A0_2 c0_2 l0_2 A0_3 c0_3 l0_3 A0_4 c0_4 l0_4 A0_5 c0_5 l0_5 a1_0 A1_1 c1_1 l1_1 A1_2 c1_2 l1_2 true ⟨rfl⟩ W hr0_1 hc0_1 hr0_2 hc0_2 hr0_3 hc0_3 hr0_4 hc0_4 hr0_5 hc0_5 hr1_1 hc1_1 hr1_2 hc1_2 hpure).mono fun e W' ⟨he, bel⟩ => ?_
  subst he
  exact ⟨_, rfl, _, _, _, [], _, [], hW', trodAll_mk1 (shut_bool Try.underlying4 _), (trodAll_cons_mk (Below.trod laidOut (by kernel_rfl) (of_decide_eq_true (by kernel_rfl)) k0 bel lt0) (trodAll_cons_mk (Below.trod laidOut (by kernel_rfl) (of_decide_eq_true (by kernel_rfl)) k1 bel lt1) trodAll_mk0)), rfl, bel.frame _, fun h => by cases h⟩
theorem closed : joinedFacts Try.pinned.checked.prog 6 Try.f6 Rows.strashRunsSpec Rows.strashRunsRow = true := by
  unfold joinedFacts
  rw [may_enter, lifts_no, make_is]
  kernel_rfl
theorem over : Rows.strashRunsRow.holds Try.pinned (OpenSpec.ofChange Rows.strashRunsSpec) :=
  OpenClaim.holds_of_wide 6 Try.f6 rfl rfl rfl rfl rfl rfl rfl ⟨rfl, rfl, rfl, rfl, rfl⟩ rfl rfl rfl rfl rfl (by kernel_rfl) Try.func6 closed
    (of_decide_eq_true (by kernel_rfl)) (by unfold Func.isWrapper; first | (rw [if_pos (by decide +kernel)]; kernel_rfl) | (rw [if_neg (by decide +kernel)]; exact ⟨rfl, rfl⟩))
    (fun os started H enc _ => lifted os started H enc)
theorem proved : Rows.StrashRunsSaid := over
#print axioms proved
end Go.Proofs.Yteiiodlgdbiimaa.strashRuns
namespace Go.Proofs.Yteiiodlgdbiimaa
theorem strashRuns_holds : Rows.StrashRunsSaid := strashRuns.proved
end Go.Proofs.Yteiiodlgdbiimaa
end
