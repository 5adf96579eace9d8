/- What the proof of the law StrashRuns needs, part 17: the walks of the functions that it reaches, and the plain words on what these compute. -/
import Derived.Test.YteiiodlgdbiimaaRp
section
namespace Go.Proofs.Yteiiodlgdbiimaa.F
open Go.RowKit Go.Proofs.YteiiodlgdbiimaaW.PrintWords Go.Proofs.YteiiodlgdbiimaaW.PrintLast Go.Proofs.YteiiodlgdbiimaaW.PrintMore
attribute [local go_sem] max2_int min2_int max_two min_two max_three min_three max_four min_four
set_option linter.unusedVariables false
set_option linter.unusedSimpArgs false
theorem flush_ {P : Program} {Q : Exit → Act → World → Prop} {c : Code} {a : Act} {w : World} (h : ∀ ws, ws = w → c.wp P Q a ws) : c.wp P Q a w := h _ rfl
theorem inquestlaw24_StrashRuns.j1_no {k : Nat} {x6 x699000 x699001 x699002 x699003 x699004 x699005 x700000 x700001 x700002 x724000 x724001 x724002 x724003 x724004 x724005} {r : Bool} (h : inquestlaw24_StrashRuns.j1 k x6 true x699000 x699001 x699002 x699003 x699004 x699005 x700000 x700001 x700002 x724000 x724001 x724002 x724003 x724004 x724005 = some r) : r = false := by
  cases k with
  | zero => exact absurd h (by simp [inquestlaw24_StrashRuns.j1])
  | succ k =>
    simp only [inquestlaw24_StrashRuns.j1] at h
    exact (Option.some.inj h).symm
set_option maxHeartbeats 80000000 in
set_option maxRecDepth 100000 in
theorem inquestlaw24_StrashRuns.calls (k : Nat) (a0_0 : Int) (A0_1 : Option Addr) (c0_1 : Nat) (l0_1 : List (S41)) (A0_2 : Option Addr) (c0_2 : Nat) (l0_2 : List (S68)) (A0_3 : Option Addr) (c0_3 : Nat) (l0_3 : List Int) (A0_4 : Option Addr) (c0_4 : Nat) (l0_4 : List Int) (A0_5 : Option Addr) (c0_5 : Nat) (l0_5 : List Int) (a1_0 : Int) (A1_1 : Option Addr) (c1_1 : Nat) (l1_1 : List Int) (A1_2 : Option Addr) (c1_2 : Nat) (l1_2 : List (List Int)) (r : Bool) (hrt : Aside0 (r = true)) (w : World) (hr0_1 : Kd.C k41 w A0_1 l0_1.length l0_1) (hc0_1 : l0_1.length ≤ c0_1) (hr0_2 : Kd.C k68 w A0_2 l0_2.length l0_2) (hc0_2 : l0_2.length ≤ c0_2) (hr0_3 : Kd.C (Kd.int .u32) w A0_3 l0_3.length l0_3) (hc0_3 : l0_3.length ≤ c0_3) (hr0_4 : Kd.C (Kd.int .u32) w A0_4 l0_4.length l0_4) (hc0_4 : l0_4.length ≤ c0_4) (hr0_5 : Kd.C (Kd.int .u32) w A0_5 l0_5.length l0_5) (hc0_5 : l0_5.length ≤ c0_5) (hr1_1 : Kd.C (Kd.int .u8) w A1_1 l1_1.length l1_1) (hc1_1 : l1_1.length ≤ c1_1) (hr1_2 : Kd.C (Kd.slice 5 (Kd.int .u8)) w A1_2 l1_2.length l1_2) (hc1_2 : l1_2.length ≤ c1_2) (h : inquestlaw24_StrashRuns.f k a0_0 l0_1 l0_2 l0_3 l0_4 l0_5 a1_0 l1_1 l1_2 = some r) :
  Calls Try.prog 6 #[.agg #[.int .i64 a0_0, .slice A0_1 l0_1.length c0_1, .slice A0_2 l0_2.length c0_2, .slice A0_3 l0_3.length c0_3, .slice A0_4 l0_4.length c0_4, .slice A0_5 l0_5.length c0_5], .agg #[.int .i64 a1_0, .slice A1_1 l1_1.length c1_1, .slice A1_2 l1_2.length c1_2]] w fun e w' => e = .returned (.bool r) ∧ Below w.heap.size w w' := by
 have hu26 := Try.underlying26
 have hu31 := Try.underlying31
 have HR0_1 := Aside0.mk hr0_1
 have HC0_1 := Aside0.mk hc0_1
 clear hr0_1 hc0_1
 have HR0_2 := Aside0.mk hr0_2
 have HC0_2 := Aside0.mk hc0_2
 clear hr0_2 hc0_2
 have HR0_3 := Aside0.mk hr0_3
 have HC0_3 := Aside0.mk hc0_3
 clear hr0_3 hc0_3
 have HR0_4 := Aside0.mk hr0_4
 have HC0_4 := Aside0.mk hc0_4
 clear hr0_4 hc0_4
 have HR0_5 := Aside0.mk hr0_5
 have HC0_5 := Aside0.mk hc0_5
 clear hr0_5 hc0_5
 have HR1_1 := Aside0.mk hr1_1
 have HC1_1 := Aside0.mk hc1_1
 clear hr1_1 hc1_1
 have HR1_2 := Aside0.mk hr1_2
 have HC1_2 := Aside0.mk hc1_2
 clear hr1_2 hc1_2
 have HB := Aside0.mk (Below.refl w.heap.size w)
 have H : ((inquestlaw24_great.f a0_0 l0_1 l0_2 l0_3 l0_4 l0_5).bind fun t700 => (if t700 = true then (inquestlaw24_StrashRuns.j0 k true a0_0 l0_1 l0_2 l0_3 l0_4 l0_5 a1_0 l1_1 l1_2) else (if (l1_2.length : Int) > 60 then (inquestlaw24_StrashRuns.j0 k true a0_0 l0_1 l0_2 l0_3 l0_4 l0_5 a1_0 l1_1 l1_2) else ((inquestref03_Fits.f k a0_0 l0_1 l0_2 l0_3 l0_4 l0_5 a1_0 l1_1 l1_2).bind fun t701 => (inquestlaw24_StrashRuns.j0 k (!t701) a0_0 l0_1 l0_2 l0_3 l0_4 l0_5 a1_0 l1_1 l1_2))))) = some r := h
 clear h
 have HC3 := Aside0.mk H
 clear H
 go_enter Try.func6, Try.ntmps6
 go_upto_region 1 with (first | ((with_reducible refine gate_dst (N := 2) rfl ?_); (try (refine gate_guard (by rfl) ?_; dsimp only)); refine box_event ?hg (N := 2) ?hd (cs := #[.int .i64 a0_0, .slice A0_1 l0_1.length c0_1, .slice A0_2 l0_2.length c0_2, .slice A0_3 l0_3.length c0_3, .slice A0_4 l0_4.length c0_4, .slice A0_5 l0_5.length c0_5]) (t := 26) ?hr ?_; (case hd => rfl); (case hg => rfl); (case hr => first | (go_simp; done) | (go_simp; rfl)); intro gb698 hg w4 hbox hb; have n0_ := Aside0.mk (below_step (by exact HB.out) hb); have n1_ := Aside0.mk (hbox); have n2_ := Aside0.mk ((by rw [hg]; exact (below_size (by exact HB.out)) : w.heap.size ≤ gb698)); have n3_ := Aside0.mk ((by rw [hg]; exact (below_size (by exact HB.out)) : w.heap.size ≤ gb698)); clear HB; have HB := n0_; have BK698 := n1_; have GW698 := n2_; have GE698 := n3_; clear n0_ n1_ n2_ n3_; clear hb hbox hg) | ((with_reducible refine gate_dst (N := 3) rfl ?_); (try (refine gate_guard (by rfl) ?_; dsimp only)); refine box_event ?hg (N := 3) ?hd (cs := #[.int .i64 a1_0, .slice A1_1 l1_1.length c1_1, .slice A1_2 l1_2.length c1_2]) (t := 31) ?hr ?_; (case hd => rfl); (case hg => rfl); (case hr => first | (go_simp; done) | (go_simp; rfl)); intro gb699 hg w5 hbox hb; have n0_ := Aside0.mk (blk_below (g := gb698) (o := .cells #[.int .i64 a0_0, .slice A0_1 l0_1.length c0_1, .slice A0_2 l0_2.length c0_2, .slice A0_3 l0_3.length c0_3, .slice A0_4 l0_4.length c0_4, .slice A0_5 l0_5.length c0_5] 26 (0, 0)) (by exact BK698.out) hb); have n1_ := Aside0.mk (below_step (by exact HB.out) hb); have n2_ := Aside0.mk (hbox); have n3_ := Aside0.mk ((by rw [hg]; exact (below_size (by exact HB.out)) : w.heap.size ≤ gb699)); have n4_ := Aside0.mk ((by rw [hg]; exact (below_size (by exact HB.out)) : w.heap.size ≤ gb699)); have n5_ := Aside0.mk ((by rw [hg]; exact Nat.ne_of_lt (blk_lt (g := gb698) (o := .cells #[.int .i64 a0_0, .slice A0_1 l0_1.length c0_1, .slice A0_2 l0_2.length c0_2, .slice A0_3 l0_3.length c0_3, .slice A0_4 l0_4.length c0_4, .slice A0_5 l0_5.length c0_5] 26 (0, 0)) (by exact BK698.out)) : gb698 ≠ gb699)); have n6_ := Aside0.mk ((by rw [hg]; exact Nat.ne_of_gt (blk_lt (g := gb698) (o := .cells #[.int .i64 a0_0, .slice A0_1 l0_1.length c0_1, .slice A0_2 l0_2.length c0_2, .slice A0_3 l0_3.length c0_3, .slice A0_4 l0_4.length c0_4, .slice A0_5 l0_5.length c0_5] 26 (0, 0)) (by exact BK698.out)) : gb699 ≠ gb698)); clear BK698; clear HB; have BK698 := n0_; have HB := n1_; have BK699 := n2_; have GW699 := n3_; have GE699 := n4_; have NB698_699 := n5_; have NB699_698 := n6_; clear n0_ n1_ n2_ n3_ n4_ n5_ n6_; clear hb hbox hg))
 repeat (go_quiet (fail); try go_wp2)
 (try simp only [Act.put, List.setIfInBounds_toArray, List.set_cons_zero, List.set_cons_succ])
 go_cut [32] (fun v32 wc => ∃ (kq : Nat) (x32_2 : Bool), v32 = .bool x32_2 ∧ Aside0 (inquestlaw24_StrashRuns.j0 kq x32_2 a0_0 l0_1 l0_2 l0_3 l0_4 l0_5 a1_0 l1_1 l1_2 = some r) ∧ Aside0 (kq ≤ k) ∧ Aside0 (wc.heap[gb698]? = some (.cells #[.int .i64 a0_0, (.slice A0_1 l0_1.length c0_1), (.slice A0_2 l0_2.length c0_2), (.slice A0_3 l0_3.length c0_3), (.slice A0_4 l0_4.length c0_4), (.slice A0_5 l0_5.length c0_5)] 26 (0, 0))) ∧ Aside0 (wc.heap[gb699]? = some (.cells #[.int .i64 a1_0, (.slice A1_1 l1_1.length c1_1), (.slice A1_2 l1_2.length c1_2)] 31 (0, 0))) ∧ Aside0 (Below w.heap.size w wc))
 case first =>
  have H := HC3.out
  clear HC3
  replace H := Option.bind_eq_some_iff.mp H
  obtain ⟨t700, A60, H⟩ := H
  replace H : (if t700 = true then (inquestlaw24_StrashRuns.j0 k true a0_0 l0_1 l0_2 l0_3 l0_4 l0_5 a1_0 l1_1 l1_2) else (if (l1_2.length : Int) > 60 then (inquestlaw24_StrashRuns.j0 k true a0_0 l0_1 l0_2 l0_3 l0_4 l0_5 a1_0 l1_1 l1_2) else ((inquestref03_Fits.f k a0_0 l0_1 l0_2 l0_3 l0_4 l0_5 a1_0 l1_1 l1_2).bind fun t701 => (inquestlaw24_StrashRuns.j0 k (!t701) a0_0 l0_1 l0_2 l0_3 l0_4 l0_5 a1_0 l1_1 l1_2)))) = some r := H
  have A6 := Aside0.mk A60
  clear A60
  by_cases c7 : t700 = true
  ·
   subst c7
   have H1 : (inquestlaw24_StrashRuns.j0 k true a0_0 l0_1 l0_2 l0_3 l0_4 l0_5 a1_0 l1_1 l1_2) = some r := by rw [if_pos rfl] at H; exact H
   clear H
   have H := H1
   clear H1
   have H' := Aside0.mk H
   clear H
   have hnb8 := NB698_699.out
   have hnc8 := NB699_698.out
   have hcz9_0 : w5.cell? ⟨gb698, 0, none⟩ = some (.int .i64 a0_0) := (blk_cell BK698.out 0).trans rfl
   have hcz9_1 : w5.cell? ⟨gb698, 1, none⟩ = some (.slice A0_1 l0_1.length c0_1) := (blk_cell BK698.out 1).trans rfl
   have hcz9_2 : w5.cell? ⟨gb698, 2, none⟩ = some (.slice A0_2 l0_2.length c0_2) := (blk_cell BK698.out 2).trans rfl
   have hcz9_3 : w5.cell? ⟨gb698, 3, none⟩ = some (.slice A0_3 l0_3.length c0_3) := (blk_cell BK698.out 3).trans rfl
   have hcz9_4 : w5.cell? ⟨gb698, 4, none⟩ = some (.slice A0_4 l0_4.length c0_4) := (blk_cell BK698.out 4).trans rfl
   have hcz9_5 : w5.cell? ⟨gb698, 5, none⟩ = some (.slice A0_5 l0_5.length c0_5) := (blk_cell BK698.out 5).trans rfl
   have hfz9_0 := blk_frozen BK698.out 0
   have hfz9_1 := blk_frozen BK698.out 1
   have hfz9_2 := blk_frozen BK698.out 2
   have hfz9_3 := blk_frozen BK698.out 3
   have hfz9_4 := blk_frozen BK698.out 4
   have hfz9_5 := blk_frozen BK698.out 5
   go_wp2_with (first | (go_at_call 36; (with_reducible refine (inquestlaw24_great.calls a0_0 _ _ l0_1 _ _ l0_2 _ _ l0_3 _ _ l0_4 _ _ l0_5 true _ ?side1 ?side2 ?side3 ?side4 ?side5 ?side6 ?side7 ?side8 ?side9 ?side10 A6.out).mono ?_); (case side1 => exact (Kd.C_below HR0_1.out HB.out)); (case side2 => exact HC0_1.out); (case side3 => exact (Kd.C_below HR0_2.out HB.out)); (case side4 => exact HC0_2.out); (case side5 => exact (Kd.C_below HR0_3.out HB.out)); (case side6 => exact HC0_3.out); (case side7 => exact (Kd.C_below HR0_4.out HB.out)); (case side8 => exact HC0_4.out); (case side9 => exact (Kd.C_below HR0_5.out HB.out)); (case side10 => exact HC0_5.out); rintro e w10 ⟨rfl, hb⟩; have n0_ := Aside0.mk (blk_below (g := gb698) (o := .cells #[.int .i64 a0_0, .slice A0_1 l0_1.length c0_1, .slice A0_2 l0_2.length c0_2, .slice A0_3 l0_3.length c0_3, .slice A0_4 l0_4.length c0_4, .slice A0_5 l0_5.length c0_5] 26 (0, 0)) (by exact BK698.out) hb); have n1_ := Aside0.mk (blk_below (g := gb699) (o := .cells #[.int .i64 a1_0, .slice A1_1 l1_1.length c1_1, .slice A1_2 l1_2.length c1_2] 31 (0, 0)) (by exact BK699.out) hb); have n2_ := Aside0.mk (below_step (by exact HB.out) hb); clear BK698; clear BK699; clear HB; have BK698 := n0_; have BK699 := n1_; have HB := n2_; clear n0_ n1_ n2_; (try clear hb); (try clear hb2); (try clear hk); (try clear hi)))
   repeat (go_quiet (fail); try go_wp2)
   go_meet
   case rel => exact ⟨_, (true), (by first | rfl | (simp; done) | (simp [*]; done)), H', ⟨by first | omega | exact Nat.le_refl _⟩, ⟨by exact BK698.out⟩, ⟨by exact BK699.out⟩, ⟨by exact HB.out⟩⟩
  ·
   replace c7 := Bool.eq_false_iff.mpr c7
   subst c7
   have H1 : (if (l1_2.length : Int) > 60 then (inquestlaw24_StrashRuns.j0 k true a0_0 l0_1 l0_2 l0_3 l0_4 l0_5 a1_0 l1_1 l1_2) else ((inquestref03_Fits.f k a0_0 l0_1 l0_2 l0_3 l0_4 l0_5 a1_0 l1_1 l1_2).bind fun t701 => (inquestlaw24_StrashRuns.j0 k (!t701) a0_0 l0_1 l0_2 l0_3 l0_4 l0_5 a1_0 l1_1 l1_2))) = some r := by rw [if_neg (show ¬ (false = true) by decide)] at H; exact H
   clear H
   have H := H1
   clear H1
   by_cases c11 : (l1_2.length : Int) > 60
   ·
    rw [if_pos c11] at H
    have c11b0 : decide (60 < (l1_2.length : Int)) = true := decide_eq_true c11
    have c11b1 : decide (60 < l1_2.length) = true := decide_eq_true (by omega)
    clear c11
    (first | rw [c11b0] | (simp only [i64_w, i32_w]; rw [c11b0]) | skip)
    have H' := Aside0.mk H
    clear H
    have hnb12 := NB698_699.out
    have hnc12 := NB699_698.out
    have hcz13_0 : w5.cell? ⟨gb698, 0, none⟩ = some (.int .i64 a0_0) := (blk_cell BK698.out 0).trans rfl
    have hcz13_1 : w5.cell? ⟨gb698, 1, none⟩ = some (.slice A0_1 l0_1.length c0_1) := (blk_cell BK698.out 1).trans rfl
    have hcz13_2 : w5.cell? ⟨gb698, 2, none⟩ = some (.slice A0_2 l0_2.length c0_2) := (blk_cell BK698.out 2).trans rfl
    have hcz13_3 : w5.cell? ⟨gb698, 3, none⟩ = some (.slice A0_3 l0_3.length c0_3) := (blk_cell BK698.out 3).trans rfl
    have hcz13_4 : w5.cell? ⟨gb698, 4, none⟩ = some (.slice A0_4 l0_4.length c0_4) := (blk_cell BK698.out 4).trans rfl
    have hcz13_5 : w5.cell? ⟨gb698, 5, none⟩ = some (.slice A0_5 l0_5.length c0_5) := (blk_cell BK698.out 5).trans rfl
    have hfz13_0 := blk_frozen BK698.out 0
    have hfz13_1 := blk_frozen BK698.out 1
    have hfz13_2 := blk_frozen BK698.out 2
    have hfz13_3 := blk_frozen BK698.out 3
    have hfz13_4 := blk_frozen BK698.out 4
    have hfz13_5 := blk_frozen BK698.out 5
    go_wp2_with (first | (go_at_call 36; (with_reducible refine (inquestlaw24_great.calls a0_0 _ _ l0_1 _ _ l0_2 _ _ l0_3 _ _ l0_4 _ _ l0_5 false _ ?side1 ?side2 ?side3 ?side4 ?side5 ?side6 ?side7 ?side8 ?side9 ?side10 A6.out).mono ?_); (case side1 => exact (Kd.C_below HR0_1.out HB.out)); (case side2 => exact HC0_1.out); (case side3 => exact (Kd.C_below HR0_2.out HB.out)); (case side4 => exact HC0_2.out); (case side5 => exact (Kd.C_below HR0_3.out HB.out)); (case side6 => exact HC0_3.out); (case side7 => exact (Kd.C_below HR0_4.out HB.out)); (case side8 => exact HC0_4.out); (case side9 => exact (Kd.C_below HR0_5.out HB.out)); (case side10 => exact HC0_5.out); rintro e w14 ⟨rfl, hb⟩; have n0_ := Aside0.mk (blk_below (g := gb698) (o := .cells #[.int .i64 a0_0, .slice A0_1 l0_1.length c0_1, .slice A0_2 l0_2.length c0_2, .slice A0_3 l0_3.length c0_3, .slice A0_4 l0_4.length c0_4, .slice A0_5 l0_5.length c0_5] 26 (0, 0)) (by exact BK698.out) hb); have n1_ := Aside0.mk (blk_below (g := gb699) (o := .cells #[.int .i64 a1_0, .slice A1_1 l1_1.length c1_1, .slice A1_2 l1_2.length c1_2] 31 (0, 0)) (by exact BK699.out) hb); have n2_ := Aside0.mk (below_step (by exact HB.out) hb); clear BK698; clear BK699; clear HB; have BK698 := n0_; have BK699 := n1_; have HB := n2_; clear n0_ n1_ n2_; (try clear hb); (try clear hb2); (try clear hk); (try clear hi); have hcz15_0 : w14.cell? ⟨gb699, 0, none⟩ = some (.int .i64 a1_0) := (blk_cell BK699.out 0).trans rfl; have hcz15_1 : w14.cell? ⟨gb699, 1, none⟩ = some (.slice A1_1 l1_1.length c1_1) := (blk_cell BK699.out 1).trans rfl; have hcz15_2 : w14.cell? ⟨gb699, 2, none⟩ = some (.slice A1_2 l1_2.length c1_2) := (blk_cell BK699.out 2).trans rfl; have hfz15_0 := blk_frozen BK699.out 0; have hfz15_1 := blk_frozen BK699.out 1; have hfz15_2 := blk_frozen BK699.out 2))
    repeat (go_quiet (fail); try go_wp2)
    go_meet
    case rel => exact ⟨_, (true), (by first | rfl | (simp; done) | (simp [*]; done)), H', ⟨by first | omega | exact Nat.le_refl _⟩, ⟨by exact BK698.out⟩, ⟨by exact BK699.out⟩, ⟨by exact HB.out⟩⟩
   ·
    rw [if_neg c11] at H
    have c11b0 : decide (60 < (l1_2.length : Int)) = false := decide_eq_false c11
    have c11b1 : decide (60 < l1_2.length) = false := decide_eq_false (by omega)
    clear c11
    (first | rw [c11b0] | (simp only [i64_w, i32_w]; rw [c11b0]) | skip)
    replace H := Option.bind_eq_some_iff.mp H
    obtain ⟨t701, A160, H⟩ := H
    replace H : (inquestlaw24_StrashRuns.j0 k (!t701) a0_0 l0_1 l0_2 l0_3 l0_4 l0_5 a1_0 l1_1 l1_2) = some r := H
    have A16 := Aside0.mk A160
    clear A160
    have H' := Aside0.mk H
    clear H
    have hnb17 := NB698_699.out
    have hnc17 := NB699_698.out
    have hcz18_0 : w5.cell? ⟨gb698, 0, none⟩ = some (.int .i64 a0_0) := (blk_cell BK698.out 0).trans rfl
    have hcz18_1 : w5.cell? ⟨gb698, 1, none⟩ = some (.slice A0_1 l0_1.length c0_1) := (blk_cell BK698.out 1).trans rfl
    have hcz18_2 : w5.cell? ⟨gb698, 2, none⟩ = some (.slice A0_2 l0_2.length c0_2) := (blk_cell BK698.out 2).trans rfl
    have hcz18_3 : w5.cell? ⟨gb698, 3, none⟩ = some (.slice A0_3 l0_3.length c0_3) := (blk_cell BK698.out 3).trans rfl
    have hcz18_4 : w5.cell? ⟨gb698, 4, none⟩ = some (.slice A0_4 l0_4.length c0_4) := (blk_cell BK698.out 4).trans rfl
    have hcz18_5 : w5.cell? ⟨gb698, 5, none⟩ = some (.slice A0_5 l0_5.length c0_5) := (blk_cell BK698.out 5).trans rfl
    have hfz18_0 := blk_frozen BK698.out 0
    have hfz18_1 := blk_frozen BK698.out 1
    have hfz18_2 := blk_frozen BK698.out 2
    have hfz18_3 := blk_frozen BK698.out 3
    have hfz18_4 := blk_frozen BK698.out 4
    have hfz18_5 := blk_frozen BK698.out 5
    go_wp2_with (first | (go_at_call 36; (with_reducible refine (inquestlaw24_great.calls a0_0 _ _ l0_1 _ _ l0_2 _ _ l0_3 _ _ l0_4 _ _ l0_5 false _ ?side1 ?side2 ?side3 ?side4 ?side5 ?side6 ?side7 ?side8 ?side9 ?side10 A6.out).mono ?_); (case side1 => exact (Kd.C_below HR0_1.out HB.out)); (case side2 => exact HC0_1.out); (case side3 => exact (Kd.C_below HR0_2.out HB.out)); (case side4 => exact HC0_2.out); (case side5 => exact (Kd.C_below HR0_3.out HB.out)); (case side6 => exact HC0_3.out); (case side7 => exact (Kd.C_below HR0_4.out HB.out)); (case side8 => exact HC0_4.out); (case side9 => exact (Kd.C_below HR0_5.out HB.out)); (case side10 => exact HC0_5.out); rintro e w19 ⟨rfl, hb⟩; have n0_ := Aside0.mk (blk_below (g := gb698) (o := .cells #[.int .i64 a0_0, .slice A0_1 l0_1.length c0_1, .slice A0_2 l0_2.length c0_2, .slice A0_3 l0_3.length c0_3, .slice A0_4 l0_4.length c0_4, .slice A0_5 l0_5.length c0_5] 26 (0, 0)) (by exact BK698.out) hb); have n1_ := Aside0.mk (blk_below (g := gb699) (o := .cells #[.int .i64 a1_0, .slice A1_1 l1_1.length c1_1, .slice A1_2 l1_2.length c1_2] 31 (0, 0)) (by exact BK699.out) hb); have n2_ := Aside0.mk (below_step (by exact HB.out) hb); clear BK698; clear BK699; clear HB; have BK698 := n0_; have BK699 := n1_; have HB := n2_; clear n0_ n1_ n2_; (try clear hb); (try clear hb2); (try clear hk); (try clear hi); have hcz20_0 : w19.cell? ⟨gb699, 0, none⟩ = some (.int .i64 a1_0) := (blk_cell BK699.out 0).trans rfl; have hcz20_1 : w19.cell? ⟨gb699, 1, none⟩ = some (.slice A1_1 l1_1.length c1_1) := (blk_cell BK699.out 1).trans rfl; have hcz20_2 : w19.cell? ⟨gb699, 2, none⟩ = some (.slice A1_2 l1_2.length c1_2) := (blk_cell BK699.out 2).trans rfl; have hfz20_0 := blk_frozen BK699.out 0; have hfz20_1 := blk_frozen BK699.out 1; have hfz20_2 := blk_frozen BK699.out 2; have hcz21_0 : w19.cell? ⟨gb698, 0, none⟩ = some (.int .i64 a0_0) := (blk_cell BK698.out 0).trans rfl; have hcz21_1 : w19.cell? ⟨gb698, 1, none⟩ = some (.slice A0_1 l0_1.length c0_1) := (blk_cell BK698.out 1).trans rfl; have hcz21_2 : w19.cell? ⟨gb698, 2, none⟩ = some (.slice A0_2 l0_2.length c0_2) := (blk_cell BK698.out 2).trans rfl; have hcz21_3 : w19.cell? ⟨gb698, 3, none⟩ = some (.slice A0_3 l0_3.length c0_3) := (blk_cell BK698.out 3).trans rfl; have hcz21_4 : w19.cell? ⟨gb698, 4, none⟩ = some (.slice A0_4 l0_4.length c0_4) := (blk_cell BK698.out 4).trans rfl; have hcz21_5 : w19.cell? ⟨gb698, 5, none⟩ = some (.slice A0_5 l0_5.length c0_5) := (blk_cell BK698.out 5).trans rfl; have hfz21_0 := blk_frozen BK698.out 0; have hfz21_1 := blk_frozen BK698.out 1; have hfz21_2 := blk_frozen BK698.out 2; have hfz21_3 := blk_frozen BK698.out 3; have hfz21_4 := blk_frozen BK698.out 4; have hfz21_5 := blk_frozen BK698.out 5) | (go_at_call 48; (with_reducible refine (inquestref03_Fits.calls k a0_0 _ _ l0_1 _ _ l0_2 _ _ l0_3 _ _ l0_4 _ _ l0_5 a1_0 _ _ l1_1 _ _ l1_2 t701 _ ?side1 ?side2 ?side3 ?side4 ?side5 ?side6 ?side7 ?side8 ?side9 ?side10 ?side11 ?side12 ?side13 ?side14 A16.out).mono ?_); (case side1 => exact (Kd.C_below HR0_1.out HB.out)); (case side2 => exact HC0_1.out); (case side3 => exact (Kd.C_below HR0_2.out HB.out)); (case side4 => exact HC0_2.out); (case side5 => exact (Kd.C_below HR0_3.out HB.out)); (case side6 => exact HC0_3.out); (case side7 => exact (Kd.C_below HR0_4.out HB.out)); (case side8 => exact HC0_4.out); (case side9 => exact (Kd.C_below HR0_5.out HB.out)); (case side10 => exact HC0_5.out); (case side11 => exact (Kd.C_below HR1_1.out HB.out)); (case side12 => exact HC1_1.out); (case side13 => exact (Kd.C_below HR1_2.out HB.out)); (case side14 => exact HC1_2.out); rintro e w22 ⟨rfl, hb⟩; have n0_ := Aside0.mk (blk_below (g := gb698) (o := .cells #[.int .i64 a0_0, .slice A0_1 l0_1.length c0_1, .slice A0_2 l0_2.length c0_2, .slice A0_3 l0_3.length c0_3, .slice A0_4 l0_4.length c0_4, .slice A0_5 l0_5.length c0_5] 26 (0, 0)) (by exact BK698.out) hb); have n1_ := Aside0.mk (blk_below (g := gb699) (o := .cells #[.int .i64 a1_0, .slice A1_1 l1_1.length c1_1, .slice A1_2 l1_2.length c1_2] 31 (0, 0)) (by exact BK699.out) hb); have n2_ := Aside0.mk (below_step (by exact HB.out) hb); clear BK698; clear BK699; clear HB; have BK698 := n0_; have BK699 := n1_; have HB := n2_; clear n0_ n1_ n2_; (try clear hb); (try clear hb2); (try clear hk); (try clear hi)))
    repeat (go_quiet (fail); try go_wp2)
    go_meet
    case rel => exact ⟨_, (!t701), (by first | rfl | (simp; done) | (simp [*]; done)), H', ⟨by first | omega | exact Nat.le_refl _⟩, ⟨by exact BK698.out⟩, ⟨by exact BK699.out⟩, ⟨by exact HB.out⟩⟩
 case rest =>
  as_aux_lemma =>
   clear HC3
   try clear c1
   try clear p2
   try clear c6
   try clear c7
   try clear c8
   try clear c11
   try clear c11b0
   try clear c11b1
   try clear c12
   try clear c17
   try clear hcz13_0
   try clear hcz13_1
   try clear hcz13_2
   try clear hcz13_3
   try clear hcz13_4
   try clear hcz13_5
   try clear hcz15_0
   try clear hcz15_1
   try clear hcz15_2
   try clear hcz18_0
   try clear hcz18_1
   try clear hcz18_2
   try clear hcz18_3
   try clear hcz18_4
   try clear hcz18_5
   try clear hcz20_0
   try clear hcz20_1
   try clear hcz20_2
   try clear hcz21_0
   try clear hcz21_1
   try clear hcz21_2
   try clear hcz21_3
   try clear hcz21_4
   try clear hcz21_5
   try clear hcz9_0
   try clear hcz9_1
   try clear hcz9_2
   try clear hcz9_3
   try clear hcz9_4
   try clear hcz9_5
   try clear hfz13_0
   try clear hfz13_1
   try clear hfz13_2
   try clear hfz13_3
   try clear hfz13_4
   try clear hfz13_5
   try clear hfz15_0
   try clear hfz15_1
   try clear hfz15_2
   try clear hfz18_0
   try clear hfz18_1
   try clear hfz18_2
   try clear hfz18_3
   try clear hfz18_4
   try clear hfz18_5
   try clear hfz20_0
   try clear hfz20_1
   try clear hfz20_2
   try clear hfz21_0
   try clear hfz21_1
   try clear hfz21_2
   try clear hfz21_3
   try clear hfz21_4
   try clear hfz21_5
   try clear hfz9_0
   try clear hfz9_1
   try clear hfz9_2
   try clear hfz9_3
   try clear hfz9_4
   try clear hfz9_5
   obtain ⟨kq, x32_2, rfl, HA, HJ2, BK698, BK699, HB⟩ := hcut
   cases kq with
   | zero => exact absurd HA.out (by simp [inquestlaw24_StrashRuns.j0])
   | succ kj2 =>
    have H := HA.out
    clear HA
    simp only [inquestlaw24_StrashRuns.j0] at H
    by_cases c23 : x32_2 = true
    ·
     subst c23
     have H1 : ((inquestlaw24_lives.f kj2).bind fun t702 => (some t702)) = some r := by rw [if_pos rfl] at H; exact H
     clear H
     have H := H1
     clear H1
     replace H := Option.bind_eq_some_iff.mp H
     obtain ⟨t702, A240, H⟩ := H
     replace H : (some t702) = some r := H
     have A24 := Aside0.mk A240
     clear A240
     obtain rfl := Option.some.inj H
     go_wp2_with (first | (go_at_call 37; (with_reducible refine (inquestlaw24_lives.calls kj2  t702 _ A24.out).mono ?_); rintro e w25 ⟨rfl, hb⟩; have n0_ := Aside0.mk (blk_below (g := gb698) (o := .cells #[.int .i64 a0_0, .slice A0_1 l0_1.length c0_1, .slice A0_2 l0_2.length c0_2, .slice A0_3 l0_3.length c0_3, .slice A0_4 l0_4.length c0_4, .slice A0_5 l0_5.length c0_5] 26 (0, 0)) (by exact BK698.out) hb); have n1_ := Aside0.mk (blk_below (g := gb699) (o := .cells #[.int .i64 a1_0, .slice A1_1 l1_1.length c1_1, .slice A1_2 l1_2.length c1_2] 31 (0, 0)) (by exact BK699.out) hb); have n2_ := Aside0.mk (below_step (by exact HB.out) hb); clear BK698; clear BK699; clear HB; have BK698 := n0_; have BK699 := n1_; have HB := n2_; clear n0_ n1_ n2_; (try clear hb); (try clear hb2); (try clear hk); (try clear hi)))
     repeat (go_quiet (fail); try go_wp2)
     go_ret
     exact ⟨by first | rfl | (simp [errW_none, errW_some] <;> rfl) | (simp [*, errW_none, errW_some] <;> rfl), by exact HB.out⟩
    ·
     replace c23 := Bool.eq_false_iff.mpr c23
     subst c23
     have H1 : ((strash_Small.f a0_0 l0_1 l0_2 l0_3 l0_4 l0_5).bind fun bt703 => (if bt703.2.2.2.2.2.2.2 = 0 then ((inquestref03_Vars.f kj2 a0_0 l0_1 l0_2 l0_3 l0_4 l0_5).bind fun t724 => (if (bt703.2.2.2.2.2.2.1.length : Int) = (wrap64 (t724 + 1)) then ((inquestref03_Fits.f kj2 bt703.1 bt703.2.1 bt703.2.2.1 bt703.2.2.2.1 bt703.2.2.2.2.1 bt703.2.2.2.2.2.1 a1_0 l1_1 l1_2).bind fun t725 => (inquestlaw24_StrashRuns.j1 kj2 bt703.2.2.2.2.2.2.1 (!t725) a0_0 l0_1 l0_2 l0_3 l0_4 l0_5 a1_0 l1_1 l1_2 bt703.1 bt703.2.1 bt703.2.2.1 bt703.2.2.2.1 bt703.2.2.2.2.1 bt703.2.2.2.2.2.1)) else (inquestlaw24_StrashRuns.j1 kj2 bt703.2.2.2.2.2.2.1 true a0_0 l0_1 l0_2 l0_3 l0_4 l0_5 a1_0 l1_1 l1_2 bt703.1 bt703.2.1 bt703.2.2.1 bt703.2.2.2.1 bt703.2.2.2.2.1 bt703.2.2.2.2.2.1))) else (inquestlaw24_StrashRuns.j1 kj2 bt703.2.2.2.2.2.2.1 true a0_0 l0_1 l0_2 l0_3 l0_4 l0_5 a1_0 l1_1 l1_2 bt703.1 bt703.2.1 bt703.2.2.1 bt703.2.2.2.1 bt703.2.2.2.2.1 bt703.2.2.2.2.2.1))) = some r := by rw [if_neg (show ¬ (false = true) by decide)] at H; exact H
     clear H
     have H := H1
     clear H1
     replace H := Option.bind_eq_some_iff.mp H
     obtain ⟨⟨t703, t704, t707, t710, t713, t716, t719, t722⟩, A260, H⟩ := H
     replace H : (if t722 = 0 then ((inquestref03_Vars.f kj2 a0_0 l0_1 l0_2 l0_3 l0_4 l0_5).bind fun t724 => (if (t719.length : Int) = (wrap64 (t724 + 1)) then ((inquestref03_Fits.f kj2 t703 t704 t707 t710 t713 t716 a1_0 l1_1 l1_2).bind fun t725 => (inquestlaw24_StrashRuns.j1 kj2 t719 (!t725) a0_0 l0_1 l0_2 l0_3 l0_4 l0_5 a1_0 l1_1 l1_2 t703 t704 t707 t710 t713 t716)) else (inquestlaw24_StrashRuns.j1 kj2 t719 true a0_0 l0_1 l0_2 l0_3 l0_4 l0_5 a1_0 l1_1 l1_2 t703 t704 t707 t710 t713 t716))) else (inquestlaw24_StrashRuns.j1 kj2 t719 true a0_0 l0_1 l0_2 l0_3 l0_4 l0_5 a1_0 l1_1 l1_2 t703 t704 t707 t710 t713 t716)) = some r := H
     have A26 := Aside0.mk A260
     clear A260
     have HC27 := Aside0.mk H
     clear H
     have hnb28 := NB698_699.out
     have hnc28 := NB699_698.out
     have hcz29_0 : wc.cell? ⟨gb698, 0, none⟩ = some (.int .i64 a0_0) := (blk_cell BK698.out 0).trans rfl
     have hcz29_1 : wc.cell? ⟨gb698, 1, none⟩ = some (.slice A0_1 l0_1.length c0_1) := (blk_cell BK698.out 1).trans rfl
     have hcz29_2 : wc.cell? ⟨gb698, 2, none⟩ = some (.slice A0_2 l0_2.length c0_2) := (blk_cell BK698.out 2).trans rfl
     have hcz29_3 : wc.cell? ⟨gb698, 3, none⟩ = some (.slice A0_3 l0_3.length c0_3) := (blk_cell BK698.out 3).trans rfl
     have hcz29_4 : wc.cell? ⟨gb698, 4, none⟩ = some (.slice A0_4 l0_4.length c0_4) := (blk_cell BK698.out 4).trans rfl
     have hcz29_5 : wc.cell? ⟨gb698, 5, none⟩ = some (.slice A0_5 l0_5.length c0_5) := (blk_cell BK698.out 5).trans rfl
     have hfz29_0 := blk_frozen BK698.out 0
     have hfz29_1 := blk_frozen BK698.out 1
     have hfz29_2 := blk_frozen BK698.out 2
     have hfz29_3 := blk_frozen BK698.out 3
     have hfz29_4 := blk_frozen BK698.out 4
     have hfz29_5 := blk_frozen BK698.out 5
     go_upto_region 4 with (first | (go_at_call 40; (with_reducible refine (strash_Small.calls a0_0 _ _ l0_1 _ _ l0_2 _ _ l0_3 _ _ l0_4 _ _ l0_5 t703 t704 t707 t710 t713 t716 t719 t722 _ ?side1 ?side2 ?side3 ?side4 ?side5 ?side6 ?side7 ?side8 ?side9 ?side10 A26.out).mono ?_); (case side1 => exact (Kd.C_below HR0_1.out HB.out)); (case side2 => exact HC0_1.out); (case side3 => exact (Kd.C_below HR0_2.out HB.out)); (case side4 => exact HC0_2.out); (case side5 => exact (Kd.C_below HR0_3.out HB.out)); (case side6 => exact HC0_3.out); (case side7 => exact (Kd.C_below HR0_4.out HB.out)); (case side8 => exact HC0_4.out); (case side9 => exact (Kd.C_below HR0_5.out HB.out)); (case side10 => exact HC0_5.out); rintro e w30 ⟨v705, v708, v711, v714, v717, v720, rfl, ho0, ho1, ho2, ho3, ho4, ho5, hb⟩; have n0_ := Aside0.mk (Kd.R_lower ho0 (below_size (by exact HB.out))); have n1_ := Aside0.mk (Kd.R_lower ho1 (below_size (by exact HB.out))); have n2_ := Aside0.mk (Kd.R_lower ho2 (below_size (by exact HB.out))); have n3_ := Aside0.mk (Kd.R_lower ho3 (below_size (by exact HB.out))); have n4_ := Aside0.mk (Kd.R_lower ho4 (below_size (by exact HB.out))); have n5_ := Aside0.mk (Kd.R_lower ho5 (below_size (by exact HB.out))); have n6_ := Aside0.mk (blk_below (g := gb698) (o := .cells #[.int .i64 a0_0, .slice A0_1 l0_1.length c0_1, .slice A0_2 l0_2.length c0_2, .slice A0_3 l0_3.length c0_3, .slice A0_4 l0_4.length c0_4, .slice A0_5 l0_5.length c0_5] 26 (0, 0)) (by exact BK698.out) hb); have n7_ := Aside0.mk (blk_below (g := gb699) (o := .cells #[.int .i64 a1_0, .slice A1_1 l1_1.length c1_1, .slice A1_2 l1_2.length c1_2] 31 (0, 0)) (by exact BK699.out) hb); have n8_ := Aside0.mk (below_step (by exact HB.out) hb); clear BK698; clear BK699; clear HB; have HO706 := n0_; have HO709 := n1_; have HO712 := n2_; have HO715 := n3_; have HO718 := n4_; have HO721 := n5_; have BK698 := n6_; have BK699 := n7_; have HB := n8_; clear n0_ n1_ n2_ n3_ n4_ n5_ n6_ n7_ n8_; (try clear hb); (try clear hb2); (try clear hk); (try clear hi); (try clear ho0); (try clear ho1); (try clear ho2); (try clear ho3); (try clear ho4); (try clear ho5)) | ((with_reducible refine gate_dst (N := 5) rfl ?_); (try (refine gate_guard (by rfl) ?_; dsimp only)); refine box_event ?hg (N := 5) ?hd (cs := #[.int .i64 0, .slice none 0 0, .slice none 0 0, .slice none 0 0, .slice none 0 0, .slice none 0 0]) (t := 26) ?hr ?_; (case hd => rfl); (case hg => rfl); (case hr => first | (go_simp; done) | (go_simp; rfl)); intro gb723 hg w31 hbox hb; have n0_ := Aside0.mk (Kd.R_below (by exact HO706.out) hb); have n1_ := Aside0.mk (Kd.R_below (by exact HO709.out) hb); have n2_ := Aside0.mk (Kd.R_below (by exact HO712.out) hb); have n3_ := Aside0.mk (Kd.R_below (by exact HO715.out) hb); have n4_ := Aside0.mk (Kd.R_below (by exact HO718.out) hb); have n5_ := Aside0.mk (Kd.R_below (by exact HO721.out) hb); have n6_ := Aside0.mk (blk_below (g := gb698) (o := .cells #[.int .i64 a0_0, .slice A0_1 l0_1.length c0_1, .slice A0_2 l0_2.length c0_2, .slice A0_3 l0_3.length c0_3, .slice A0_4 l0_4.length c0_4, .slice A0_5 l0_5.length c0_5] 26 (0, 0)) (by exact BK698.out) hb); have n7_ := Aside0.mk (blk_below (g := gb699) (o := .cells #[.int .i64 a1_0, .slice A1_1 l1_1.length c1_1, .slice A1_2 l1_2.length c1_2] 31 (0, 0)) (by exact BK699.out) hb); have n8_ := Aside0.mk (below_step (by exact HB.out) hb); have n9_ := Aside0.mk (hbox); have n10_ := Aside0.mk ((by rw [hg]; exact (below_size (by exact HB.out)) : w.heap.size ≤ gb723)); have n11_ := Aside0.mk ((by rw [hg]; exact (below_size (by exact HB.out)) : w.heap.size ≤ gb723)); have n12_ := Aside0.mk ((by rw [hg]; exact Nat.ne_of_lt (blk_lt (g := gb698) (o := .cells #[.int .i64 a0_0, .slice A0_1 l0_1.length c0_1, .slice A0_2 l0_2.length c0_2, .slice A0_3 l0_3.length c0_3, .slice A0_4 l0_4.length c0_4, .slice A0_5 l0_5.length c0_5] 26 (0, 0)) (by exact BK698.out)) : gb698 ≠ gb723)); have n13_ := Aside0.mk ((by rw [hg]; exact Nat.ne_of_gt (blk_lt (g := gb698) (o := .cells #[.int .i64 a0_0, .slice A0_1 l0_1.length c0_1, .slice A0_2 l0_2.length c0_2, .slice A0_3 l0_3.length c0_3, .slice A0_4 l0_4.length c0_4, .slice A0_5 l0_5.length c0_5] 26 (0, 0)) (by exact BK698.out)) : gb723 ≠ gb698)); have n14_ := Aside0.mk ((by rw [hg]; exact Nat.ne_of_lt (blk_lt (g := gb699) (o := .cells #[.int .i64 a1_0, .slice A1_1 l1_1.length c1_1, .slice A1_2 l1_2.length c1_2] 31 (0, 0)) (by exact BK699.out)) : gb699 ≠ gb723)); have n15_ := Aside0.mk ((by rw [hg]; exact Nat.ne_of_gt (blk_lt (g := gb699) (o := .cells #[.int .i64 a1_0, .slice A1_1 l1_1.length c1_1, .slice A1_2 l1_2.length c1_2] 31 (0, 0)) (by exact BK699.out)) : gb723 ≠ gb699)); clear HO706; clear HO709; clear HO712; clear HO715; clear HO718; clear HO721; clear BK698; clear BK699; clear HB; have HO706 := n0_; have HO709 := n1_; have HO712 := n2_; have HO715 := n3_; have HO718 := n4_; have HO721 := n5_; have BK698 := n6_; have BK699 := n7_; have HB := n8_; have BK723 := n9_; have GW723 := n10_; have GE723 := n11_; have NB698_723 := n12_; have NB723_698 := n13_; have NB699_723 := n14_; have NB723_699 := n15_; clear n0_ n1_ n2_ n3_ n4_ n5_ n6_ n7_ n8_ n9_ n10_ n11_ n12_ n13_ n14_ n15_; clear hb hbox hg; have hnb32 := NB723_698.out; have hnc32 := NB698_723.out; have hnb33 := NB723_699.out; have hnc33 := NB699_723.out; have hcz34_0 : w31.cell? ⟨gb723, 0, none⟩ = some (.int .i64 0) := (blk_cell BK723.out 0).trans rfl; have hcz34_1 : w31.cell? ⟨gb723, 1, none⟩ = some (.slice none 0 0) := (blk_cell BK723.out 1).trans rfl; have hcz34_2 : w31.cell? ⟨gb723, 2, none⟩ = some (.slice none 0 0) := (blk_cell BK723.out 2).trans rfl; have hcz34_3 : w31.cell? ⟨gb723, 3, none⟩ = some (.slice none 0 0) := (blk_cell BK723.out 3).trans rfl; have hcz34_4 : w31.cell? ⟨gb723, 4, none⟩ = some (.slice none 0 0) := (blk_cell BK723.out 4).trans rfl; have hcz34_5 : w31.cell? ⟨gb723, 5, none⟩ = some (.slice none 0 0) := (blk_cell BK723.out 5).trans rfl; have hfz34_0 := blk_frozen BK723.out 0; have hfz34_1 := blk_frozen BK723.out 1; have hfz34_2 := blk_frozen BK723.out 2; have hfz34_3 := blk_frozen BK723.out 3; have hfz34_4 := blk_frozen BK723.out 4; have hfz34_5 := blk_frozen BK723.out 5; obtain ⟨Ao35, co35, eo35⟩ := Kd.R_slice HO706.out; subst eo35; obtain ⟨Ao36, co36, eo36⟩ := Kd.R_slice HO709.out; subst eo36; obtain ⟨Ao37, co37, eo37⟩ := Kd.R_slice HO712.out; subst eo37; obtain ⟨Ao38, co38, eo38⟩ := Kd.R_slice HO715.out; subst eo38; obtain ⟨Ao39, co39, eo39⟩ := Kd.R_slice HO718.out; subst eo39))
     repeat (go_quiet (fail); try go_wp2)
     (try simp only [Act.put, List.setIfInBounds_toArray, List.set_cons_zero, List.set_cons_succ])
     refine flush_ (fun ws hws => ?_)
     have n0_ := (Kd.R_mono (Kd.R_far (p := ⟨gb723, 5, none⟩) (Kd.R_far (p := ⟨gb723, 4, none⟩) (Kd.R_far (p := ⟨gb723, 3, none⟩) (Kd.R_far (p := ⟨gb723, 2, none⟩) (Kd.R_far (p := ⟨gb723, 1, none⟩) (Kd.R_far (p := ⟨gb723, 0, none⟩) (Kd.R_types HO706.out BK723.out (by decide)) (fun _ hk => hk.2) (.int .i64 t703)) (fun _ hk => hk.2) (.slice Ao35 t704.length co35)) (fun _ hk => hk.2) (.slice Ao36 t707.length co36)) (fun _ hk => hk.2) (.slice Ao37 t710.length co37)) (fun _ hk => hk.2) (.slice Ao38 t713.length co38)) (fun _ hk => hk.2) (.slice Ao39 t716.length co39)) (fun _ h_ => h_.1))
     rw [← hws] at n0_
     replace n0_ := Aside0.mk n0_
     have n1_ := (Kd.R_mono (Kd.R_far (p := ⟨gb723, 5, none⟩) (Kd.R_far (p := ⟨gb723, 4, none⟩) (Kd.R_far (p := ⟨gb723, 3, none⟩) (Kd.R_far (p := ⟨gb723, 2, none⟩) (Kd.R_far (p := ⟨gb723, 1, none⟩) (Kd.R_far (p := ⟨gb723, 0, none⟩) (Kd.R_types HO709.out BK723.out (by decide)) (fun _ hk => hk.2) (.int .i64 t703)) (fun _ hk => hk.2) (.slice Ao35 t704.length co35)) (fun _ hk => hk.2) (.slice Ao36 t707.length co36)) (fun _ hk => hk.2) (.slice Ao37 t710.length co37)) (fun _ hk => hk.2) (.slice Ao38 t713.length co38)) (fun _ hk => hk.2) (.slice Ao39 t716.length co39)) (fun _ h_ => h_.1))
     rw [← hws] at n1_
     replace n1_ := Aside0.mk n1_
     have n2_ := (Kd.R_mono (Kd.R_far (p := ⟨gb723, 5, none⟩) (Kd.R_far (p := ⟨gb723, 4, none⟩) (Kd.R_far (p := ⟨gb723, 3, none⟩) (Kd.R_far (p := ⟨gb723, 2, none⟩) (Kd.R_far (p := ⟨gb723, 1, none⟩) (Kd.R_far (p := ⟨gb723, 0, none⟩) (Kd.R_types HO712.out BK723.out (by decide)) (fun _ hk => hk.2) (.int .i64 t703)) (fun _ hk => hk.2) (.slice Ao35 t704.length co35)) (fun _ hk => hk.2) (.slice Ao36 t707.length co36)) (fun _ hk => hk.2) (.slice Ao37 t710.length co37)) (fun _ hk => hk.2) (.slice Ao38 t713.length co38)) (fun _ hk => hk.2) (.slice Ao39 t716.length co39)) (fun _ h_ => h_.1))
     rw [← hws] at n2_
     replace n2_ := Aside0.mk n2_
     have n3_ := (Kd.R_mono (Kd.R_far (p := ⟨gb723, 5, none⟩) (Kd.R_far (p := ⟨gb723, 4, none⟩) (Kd.R_far (p := ⟨gb723, 3, none⟩) (Kd.R_far (p := ⟨gb723, 2, none⟩) (Kd.R_far (p := ⟨gb723, 1, none⟩) (Kd.R_far (p := ⟨gb723, 0, none⟩) (Kd.R_types HO715.out BK723.out (by decide)) (fun _ hk => hk.2) (.int .i64 t703)) (fun _ hk => hk.2) (.slice Ao35 t704.length co35)) (fun _ hk => hk.2) (.slice Ao36 t707.length co36)) (fun _ hk => hk.2) (.slice Ao37 t710.length co37)) (fun _ hk => hk.2) (.slice Ao38 t713.length co38)) (fun _ hk => hk.2) (.slice Ao39 t716.length co39)) (fun _ h_ => h_.1))
     rw [← hws] at n3_
     replace n3_ := Aside0.mk n3_
     have n4_ := (Kd.R_mono (Kd.R_far (p := ⟨gb723, 5, none⟩) (Kd.R_far (p := ⟨gb723, 4, none⟩) (Kd.R_far (p := ⟨gb723, 3, none⟩) (Kd.R_far (p := ⟨gb723, 2, none⟩) (Kd.R_far (p := ⟨gb723, 1, none⟩) (Kd.R_far (p := ⟨gb723, 0, none⟩) (Kd.R_types HO718.out BK723.out (by decide)) (fun _ hk => hk.2) (.int .i64 t703)) (fun _ hk => hk.2) (.slice Ao35 t704.length co35)) (fun _ hk => hk.2) (.slice Ao36 t707.length co36)) (fun _ hk => hk.2) (.slice Ao37 t710.length co37)) (fun _ hk => hk.2) (.slice Ao38 t713.length co38)) (fun _ hk => hk.2) (.slice Ao39 t716.length co39)) (fun _ h_ => h_.1))
     rw [← hws] at n4_
     replace n4_ := Aside0.mk n4_
     have n5_ := (Kd.R_mono (Kd.R_far (p := ⟨gb723, 5, none⟩) (Kd.R_far (p := ⟨gb723, 4, none⟩) (Kd.R_far (p := ⟨gb723, 3, none⟩) (Kd.R_far (p := ⟨gb723, 2, none⟩) (Kd.R_far (p := ⟨gb723, 1, none⟩) (Kd.R_far (p := ⟨gb723, 0, none⟩) (Kd.R_types HO721.out BK723.out (by decide)) (fun _ hk => hk.2) (.int .i64 t703)) (fun _ hk => hk.2) (.slice Ao35 t704.length co35)) (fun _ hk => hk.2) (.slice Ao36 t707.length co36)) (fun _ hk => hk.2) (.slice Ao37 t710.length co37)) (fun _ hk => hk.2) (.slice Ao38 t713.length co38)) (fun _ hk => hk.2) (.slice Ao39 t716.length co39)) (fun _ h_ => h_.1))
     rw [← hws] at n5_
     replace n5_ := Aside0.mk n5_
     have n6_ := Aside0.mk (show ws.heap[gb698]? = some (.cells #[.int .i64 a0_0, .slice A0_1 l0_1.length c0_1, .slice A0_2 l0_2.length c0_2, .slice A0_3 l0_3.length c0_3, .slice A0_4 l0_4.length c0_4, .slice A0_5 l0_5.length c0_5] 26 (0, 0)) from by rw [hws]; (with_reducible repeat (first | refine blk_drewN ?_ _ | refine blk_drew ?_ | refine blk_alloc ?_ _)); refine blk_far ?_ NB698_723.out _; (with_reducible repeat (first | refine blk_drewN ?_ _ | refine blk_drew ?_ | refine blk_alloc ?_ _)); refine blk_far ?_ NB698_723.out _; (with_reducible repeat (first | refine blk_drewN ?_ _ | refine blk_drew ?_ | refine blk_alloc ?_ _)); refine blk_far ?_ NB698_723.out _; (with_reducible repeat (first | refine blk_drewN ?_ _ | refine blk_drew ?_ | refine blk_alloc ?_ _)); refine blk_far ?_ NB698_723.out _; (with_reducible repeat (first | refine blk_drewN ?_ _ | refine blk_drew ?_ | refine blk_alloc ?_ _)); refine blk_far ?_ NB698_723.out _; (with_reducible repeat (first | refine blk_drewN ?_ _ | refine blk_drew ?_ | refine blk_alloc ?_ _)); refine blk_far ?_ NB698_723.out _; exact BK698.out)
     have n7_ := Aside0.mk (show ws.heap[gb699]? = some (.cells #[.int .i64 a1_0, .slice A1_1 l1_1.length c1_1, .slice A1_2 l1_2.length c1_2] 31 (0, 0)) from by rw [hws]; (with_reducible repeat (first | refine blk_drewN ?_ _ | refine blk_drew ?_ | refine blk_alloc ?_ _)); refine blk_far ?_ NB699_723.out _; (with_reducible repeat (first | refine blk_drewN ?_ _ | refine blk_drew ?_ | refine blk_alloc ?_ _)); refine blk_far ?_ NB699_723.out _; (with_reducible repeat (first | refine blk_drewN ?_ _ | refine blk_drew ?_ | refine blk_alloc ?_ _)); refine blk_far ?_ NB699_723.out _; (with_reducible repeat (first | refine blk_drewN ?_ _ | refine blk_drew ?_ | refine blk_alloc ?_ _)); refine blk_far ?_ NB699_723.out _; (with_reducible repeat (first | refine blk_drewN ?_ _ | refine blk_drew ?_ | refine blk_alloc ?_ _)); refine blk_far ?_ NB699_723.out _; (with_reducible repeat (first | refine blk_drewN ?_ _ | refine blk_drew ?_ | refine blk_alloc ?_ _)); refine blk_far ?_ NB699_723.out _; exact BK699.out)
     have n8_ := Aside0.mk (show ws.heap[gb723]? = some (.cells #[.int .i64 t703, .slice Ao35 t704.length co35, .slice Ao36 t707.length co36, .slice Ao37 t710.length co37, .slice Ao38 t713.length co38, .slice Ao39 t716.length co39] 26 (0, 0)) from by rw [hws]; (with_reducible repeat (first | refine blk_drewN ?_ _ | refine blk_drew ?_ | refine blk_alloc ?_ _)); refine blk_put (cs := #[.int .i64 t703, .slice Ao35 t704.length co35, .slice Ao36 t707.length co36, .slice Ao37 t710.length co37, .slice Ao38 t713.length co38, .slice none 0 0]) ?_ 5 _ rfl; (with_reducible repeat (first | refine blk_drewN ?_ _ | refine blk_drew ?_ | refine blk_alloc ?_ _)); refine blk_put (cs := #[.int .i64 t703, .slice Ao35 t704.length co35, .slice Ao36 t707.length co36, .slice Ao37 t710.length co37, .slice none 0 0, .slice none 0 0]) ?_ 4 _ rfl; (with_reducible repeat (first | refine blk_drewN ?_ _ | refine blk_drew ?_ | refine blk_alloc ?_ _)); refine blk_put (cs := #[.int .i64 t703, .slice Ao35 t704.length co35, .slice Ao36 t707.length co36, .slice none 0 0, .slice none 0 0, .slice none 0 0]) ?_ 3 _ rfl; (with_reducible repeat (first | refine blk_drewN ?_ _ | refine blk_drew ?_ | refine blk_alloc ?_ _)); refine blk_put (cs := #[.int .i64 t703, .slice Ao35 t704.length co35, .slice none 0 0, .slice none 0 0, .slice none 0 0, .slice none 0 0]) ?_ 2 _ rfl; (with_reducible repeat (first | refine blk_drewN ?_ _ | refine blk_drew ?_ | refine blk_alloc ?_ _)); refine blk_put (cs := #[.int .i64 t703, .slice none 0 0, .slice none 0 0, .slice none 0 0, .slice none 0 0, .slice none 0 0]) ?_ 1 _ rfl; (with_reducible repeat (first | refine blk_drewN ?_ _ | refine blk_drew ?_ | refine blk_alloc ?_ _)); refine blk_put (cs := #[.int .i64 0, .slice none 0 0, .slice none 0 0, .slice none 0 0, .slice none 0 0, .slice none 0 0]) ?_ 0 _ rfl; exact BK723.out)
     have n9_ := Aside0.mk (show Below w.heap.size w ws from by rw [hws]; repeat (first | (with_reducible first | exact HB.out | apply below_alloc | apply pw_below_drewN | apply below_drew1 | refine below_set ?_ GE698.out | refine below_set ?_ GE699.out | refine below_set ?_ GE723.out) | exact HB.out))
     clear HO706
     clear HO709
     clear HO712
     clear HO715
     clear HO718
     clear HO721
     clear BK698
     clear BK699
     clear BK723
     clear HB
     have HO706 := n0_
     have HO709 := n1_
     have HO712 := n2_
     have HO715 := n3_
     have HO718 := n4_
     have HO721 := n5_
     have BK698 := n6_
     have BK699 := n7_
     have BK723 := n8_
     have HB := n9_
     clear n0_ n1_ n2_ n3_ n4_ n5_ n6_ n7_ n8_ n9_
     clear hws
     go_cut [55] (fun v55 wc => ∃ (kq : Nat) (x55_26 : Bool), v55 = .bool x55_26 ∧ Aside0 (inquestlaw24_StrashRuns.j1 kq t719 x55_26 a0_0 l0_1 l0_2 l0_3 l0_4 l0_5 a1_0 l1_1 l1_2 t703 t704 t707 t710 t713 t716 = some r) ∧ Aside0 (kq ≤ kj2) ∧ Aside0 (Kd.R (Kd.int .u32) 39 wc w.heap.size (fun k_ => some k_ ≠ ((.slice Ao37 t710.length co37) : Value).ownBlock ∧ some k_ ≠ ((.slice Ao38 t713.length co38) : Value).ownBlock ∧ some k_ ≠ ((.slice Ao39 t716.length co39) : Value).ownBlock) v720 t719) ∧ Aside0 (Kd.R k41 41 wc w.heap.size (fun _ => True) (.slice Ao35 t704.length co35) t704) ∧ Aside0 (Kd.R k68 68 wc w.heap.size (fun _ => True) (.slice Ao36 t707.length co36) t707) ∧ Aside0 (Kd.R (Kd.int .u32) 39 wc w.heap.size (fun k_ => some k_ ≠ (v720 : Value).ownBlock ∧ some k_ ≠ ((.slice Ao38 t713.length co38) : Value).ownBlock ∧ some k_ ≠ ((.slice Ao39 t716.length co39) : Value).ownBlock) (.slice Ao37 t710.length co37) t710) ∧ Aside0 (Kd.R (Kd.int .u32) 39 wc w.heap.size (fun k_ => some k_ ≠ (v720 : Value).ownBlock ∧ some k_ ≠ ((.slice Ao37 t710.length co37) : Value).ownBlock ∧ some k_ ≠ ((.slice Ao39 t716.length co39) : Value).ownBlock) (.slice Ao38 t713.length co38) t713) ∧ Aside0 (Kd.R (Kd.int .u32) 39 wc w.heap.size (fun k_ => some k_ ≠ (v720 : Value).ownBlock ∧ some k_ ≠ ((.slice Ao37 t710.length co37) : Value).ownBlock ∧ some k_ ≠ ((.slice Ao38 t713.length co38) : Value).ownBlock) (.slice Ao39 t716.length co39) t716) ∧ Aside0 (wc.heap[gb698]? = some (.cells #[.int .i64 a0_0, (.slice A0_1 l0_1.length c0_1), (.slice A0_2 l0_2.length c0_2), (.slice A0_3 l0_3.length c0_3), (.slice A0_4 l0_4.length c0_4), (.slice A0_5 l0_5.length c0_5)] 26 (0, 0))) ∧ Aside0 (wc.heap[gb699]? = some (.cells #[.int .i64 a1_0, (.slice A1_1 l1_1.length c1_1), (.slice A1_2 l1_2.length c1_2)] 31 (0, 0))) ∧ Aside0 (wc.heap[gb723]? = some (.cells #[.int .i64 t703, (.slice Ao35 t704.length co35), (.slice Ao36 t707.length co36), (.slice Ao37 t710.length co37), (.slice Ao38 t713.length co38), (.slice Ao39 t716.length co39)] 26 (0, 0))) ∧ Aside0 (Below w.heap.size w wc))
     case first =>
      have H := HC27.out
      clear HC27
      by_cases c40 : t722 = 0
      ·
       rw [if_pos c40] at H
       have c40b0 : (t722 == 0) = true := beq_iff_eq.mpr c40
       have c40b1 : (t722 != 0) = false := bne_eq_false_iff_eq.mpr c40
       clear c40
       (first | rw [c40b0] | (simp only [i64_w, i32_w]; rw [c40b0]) | skip)
       replace H := Option.bind_eq_some_iff.mp H
       obtain ⟨t724, A410, H⟩ := H
       replace H : (if (t719.length : Int) = (wrap64 (t724 + 1)) then ((inquestref03_Fits.f kj2 t703 t704 t707 t710 t713 t716 a1_0 l1_1 l1_2).bind fun t725 => (inquestlaw24_StrashRuns.j1 kj2 t719 (!t725) a0_0 l0_1 l0_2 l0_3 l0_4 l0_5 a1_0 l1_1 l1_2 t703 t704 t707 t710 t713 t716)) else (inquestlaw24_StrashRuns.j1 kj2 t719 true a0_0 l0_1 l0_2 l0_3 l0_4 l0_5 a1_0 l1_1 l1_2 t703 t704 t707 t710 t713 t716)) = some r := H
       have A41 := Aside0.mk A410
       clear A410
       by_cases c42 : (t719.length : Int) = (wrap64 (t724 + 1))
       ·
        rw [if_pos c42] at H
        have c42b0 : ((t719.length : Int) == (wrap64 (t724 + 1))) = true := beq_iff_eq.mpr c42
        have c42b1 : ((t719.length : Int) != (wrap64 (t724 + 1))) = false := bne_eq_false_iff_eq.mpr c42
        clear c42
        replace H := Option.bind_eq_some_iff.mp H
        obtain ⟨t725, A430, H⟩ := H
        replace H : (inquestlaw24_StrashRuns.j1 kj2 t719 (!t725) a0_0 l0_1 l0_2 l0_3 l0_4 l0_5 a1_0 l1_1 l1_2 t703 t704 t707 t710 t713 t716) = some r := H
        have A43 := Aside0.mk A430
        clear A430
        have H' := Aside0.mk H
        clear H
        obtain ⟨Ao44, co44, eo44⟩ := Kd.R_slice HO721.out
        subst eo44
        have hnb45 := NB698_699.out
        have hnc45 := NB699_698.out
        have hnb46 := NB698_723.out
        have hnc46 := NB723_698.out
        have hcz47_0 : ws.cell? ⟨gb698, 0, none⟩ = some (.int .i64 a0_0) := (blk_cell BK698.out 0).trans rfl
        have hcz47_1 : ws.cell? ⟨gb698, 1, none⟩ = some (.slice A0_1 l0_1.length c0_1) := (blk_cell BK698.out 1).trans rfl
        have hcz47_2 : ws.cell? ⟨gb698, 2, none⟩ = some (.slice A0_2 l0_2.length c0_2) := (blk_cell BK698.out 2).trans rfl
        have hcz47_3 : ws.cell? ⟨gb698, 3, none⟩ = some (.slice A0_3 l0_3.length c0_3) := (blk_cell BK698.out 3).trans rfl
        have hcz47_4 : ws.cell? ⟨gb698, 4, none⟩ = some (.slice A0_4 l0_4.length c0_4) := (blk_cell BK698.out 4).trans rfl
        have hcz47_5 : ws.cell? ⟨gb698, 5, none⟩ = some (.slice A0_5 l0_5.length c0_5) := (blk_cell BK698.out 5).trans rfl
        have hfz47_0 := blk_frozen BK698.out 0
        have hfz47_1 := blk_frozen BK698.out 1
        have hfz47_2 := blk_frozen BK698.out 2
        have hfz47_3 := blk_frozen BK698.out 3
        have hfz47_4 := blk_frozen BK698.out 4
        have hfz47_5 := blk_frozen BK698.out 5
        go_wp2_with (first | (go_at_call 27; (with_reducible refine (inquestref03_Vars.calls kj2 a0_0 _ _ l0_1 _ _ l0_2 _ _ l0_3 _ _ l0_4 _ _ l0_5 t724 _ ?side1 ?side2 ?side3 ?side4 ?side5 ?side6 ?side7 ?side8 ?side9 ?side10 A41.out).mono ?_); (case side1 => exact Kd.C_below HR0_1.out (by exact HB.out)); (case side2 => exact HC0_1.out); (case side3 => exact Kd.C_below HR0_2.out (by exact HB.out)); (case side4 => exact HC0_2.out); (case side5 => exact Kd.C_below HR0_3.out (by exact HB.out)); (case side6 => exact HC0_3.out); (case side7 => exact Kd.C_below HR0_4.out (by exact HB.out)); (case side8 => exact HC0_4.out); (case side9 => exact Kd.C_below HR0_5.out (by exact HB.out)); (case side10 => exact HC0_5.out); rintro e w48 ⟨rfl, hb⟩; have n0_ := Aside0.mk (Kd.R_below (by exact HO706.out) hb); have n1_ := Aside0.mk (Kd.R_below (by exact HO709.out) hb); have n2_ := Aside0.mk (Kd.R_below (by exact HO712.out) hb); have n3_ := Aside0.mk (Kd.R_below (by exact HO715.out) hb); have n4_ := Aside0.mk (Kd.R_below (by exact HO718.out) hb); have n5_ := Aside0.mk (Kd.R_below (by exact HO721.out) hb); have n6_ := Aside0.mk (blk_below (g := gb698) (o := .cells #[.int .i64 a0_0, .slice A0_1 l0_1.length c0_1, .slice A0_2 l0_2.length c0_2, .slice A0_3 l0_3.length c0_3, .slice A0_4 l0_4.length c0_4, .slice A0_5 l0_5.length c0_5] 26 (0, 0)) (by exact BK698.out) hb); have n7_ := Aside0.mk (blk_below (g := gb699) (o := .cells #[.int .i64 a1_0, .slice A1_1 l1_1.length c1_1, .slice A1_2 l1_2.length c1_2] 31 (0, 0)) (by exact BK699.out) hb); have n8_ := Aside0.mk (blk_below (g := gb723) (o := .cells #[.int .i64 t703, .slice Ao35 t704.length co35, .slice Ao36 t707.length co36, .slice Ao37 t710.length co37, .slice Ao38 t713.length co38, .slice Ao39 t716.length co39] 26 (0, 0)) (by exact BK723.out) hb); have n9_ := Aside0.mk (below_step (by exact HB.out) hb); clear HO706; clear HO709; clear HO712; clear HO715; clear HO718; clear HO721; clear BK698; clear BK699; clear BK723; clear HB; have HO706 := n0_; have HO709 := n1_; have HO712 := n2_; have HO715 := n3_; have HO718 := n4_; have HO721 := n5_; have BK698 := n6_; have BK699 := n7_; have BK723 := n8_; have HB := n9_; clear n0_ n1_ n2_ n3_ n4_ n5_ n6_ n7_ n8_ n9_; (try clear hb); (try clear hb2); (try clear hk); (try clear hi); have hnb49 := NB723_699.out; have hnc49 := NB699_723.out; have hcz50_0 : w48.cell? ⟨gb723, 0, none⟩ = some (.int .i64 t703) := (blk_cell BK723.out 0).trans rfl; have hcz50_1 : w48.cell? ⟨gb723, 1, none⟩ = some (.slice Ao35 t704.length co35) := (blk_cell BK723.out 1).trans rfl; have hcz50_2 : w48.cell? ⟨gb723, 2, none⟩ = some (.slice Ao36 t707.length co36) := (blk_cell BK723.out 2).trans rfl; have hcz50_3 : w48.cell? ⟨gb723, 3, none⟩ = some (.slice Ao37 t710.length co37) := (blk_cell BK723.out 3).trans rfl; have hcz50_4 : w48.cell? ⟨gb723, 4, none⟩ = some (.slice Ao38 t713.length co38) := (blk_cell BK723.out 4).trans rfl; have hcz50_5 : w48.cell? ⟨gb723, 5, none⟩ = some (.slice Ao39 t716.length co39) := (blk_cell BK723.out 5).trans rfl; have hfz50_0 := blk_frozen BK723.out 0; have hfz50_1 := blk_frozen BK723.out 1; have hfz50_2 := blk_frozen BK723.out 2; have hfz50_3 := blk_frozen BK723.out 3; have hfz50_4 := blk_frozen BK723.out 4; have hfz50_5 := blk_frozen BK723.out 5; have hcz51_0 : w48.cell? ⟨gb699, 0, none⟩ = some (.int .i64 a1_0) := (blk_cell BK699.out 0).trans rfl; have hcz51_1 : w48.cell? ⟨gb699, 1, none⟩ = some (.slice A1_1 l1_1.length c1_1) := (blk_cell BK699.out 1).trans rfl; have hcz51_2 : w48.cell? ⟨gb699, 2, none⟩ = some (.slice A1_2 l1_2.length c1_2) := (blk_cell BK699.out 2).trans rfl; have hfz51_0 := blk_frozen BK699.out 0; have hfz51_1 := blk_frozen BK699.out 1; have hfz51_2 := blk_frozen BK699.out 2) | (go_at_call 48; (with_reducible refine (inquestref03_Fits.calls kj2 t703 _ _ t704 _ _ t707 _ _ t710 _ _ t713 _ _ t716 a1_0 _ _ l1_1 _ _ l1_2 t725 _ ?side1 ?side2 ?side3 ?side4 ?side5 ?side6 ?side7 ?side8 ?side9 ?side10 ?side11 ?side12 ?side13 ?side14 A43.out).mono ?_); (case side1 => repeat (first | exact (Kd.R_reads' HO706.out).2.2 | (with_reducible refine Kd.C_alloc ?_ _) | (with_reducible refine Kd.C_drewN ?_ _) | (with_reducible refine Kd.C_drew ?_))); (case side2 => exact (Kd.R_reads' HO706.out).2.1); (case side3 => repeat (first | exact (Kd.R_reads' HO709.out).2.2 | (with_reducible refine Kd.C_alloc ?_ _) | (with_reducible refine Kd.C_drewN ?_ _) | (with_reducible refine Kd.C_drew ?_))); (case side4 => exact (Kd.R_reads' HO709.out).2.1); (case side5 => repeat (first | exact (Kd.R_reads' HO712.out).2.2 | (with_reducible refine Kd.C_alloc ?_ _) | (with_reducible refine Kd.C_drewN ?_ _) | (with_reducible refine Kd.C_drew ?_))); (case side6 => exact (Kd.R_reads' HO712.out).2.1); (case side7 => repeat (first | exact (Kd.R_reads' HO715.out).2.2 | (with_reducible refine Kd.C_alloc ?_ _) | (with_reducible refine Kd.C_drewN ?_ _) | (with_reducible refine Kd.C_drew ?_))); (case side8 => exact (Kd.R_reads' HO715.out).2.1); (case side9 => repeat (first | exact (Kd.R_reads' HO718.out).2.2 | (with_reducible refine Kd.C_alloc ?_ _) | (with_reducible refine Kd.C_drewN ?_ _) | (with_reducible refine Kd.C_drew ?_))); (case side10 => exact (Kd.R_reads' HO718.out).2.1); (case side11 => exact (Kd.C_below HR1_1.out HB.out)); (case side12 => exact HC1_1.out); (case side13 => exact (Kd.C_below HR1_2.out HB.out)); (case side14 => exact HC1_2.out); rintro e w52 ⟨rfl, hb⟩; have n0_ := Aside0.mk (Kd.R_below (by exact HO706.out) hb); have n1_ := Aside0.mk (Kd.R_below (by exact HO709.out) hb); have n2_ := Aside0.mk (Kd.R_below (by exact HO712.out) hb); have n3_ := Aside0.mk (Kd.R_below (by exact HO715.out) hb); have n4_ := Aside0.mk (Kd.R_below (by exact HO718.out) hb); have n5_ := Aside0.mk (Kd.R_below (by exact HO721.out) hb); have n6_ := Aside0.mk (blk_below (g := gb698) (o := .cells #[.int .i64 a0_0, .slice A0_1 l0_1.length c0_1, .slice A0_2 l0_2.length c0_2, .slice A0_3 l0_3.length c0_3, .slice A0_4 l0_4.length c0_4, .slice A0_5 l0_5.length c0_5] 26 (0, 0)) (by exact BK698.out) hb); have n7_ := Aside0.mk (blk_below (g := gb699) (o := .cells #[.int .i64 a1_0, .slice A1_1 l1_1.length c1_1, .slice A1_2 l1_2.length c1_2] 31 (0, 0)) (by exact BK699.out) hb); have n8_ := Aside0.mk (blk_below (g := gb723) (o := .cells #[.int .i64 t703, .slice Ao35 t704.length co35, .slice Ao36 t707.length co36, .slice Ao37 t710.length co37, .slice Ao38 t713.length co38, .slice Ao39 t716.length co39] 26 (0, 0)) (by exact BK723.out) hb); have n9_ := Aside0.mk (below_step (by exact HB.out) hb); clear HO706; clear HO709; clear HO712; clear HO715; clear HO718; clear HO721; clear BK698; clear BK699; clear BK723; clear HB; have HO706 := n0_; have HO709 := n1_; have HO712 := n2_; have HO715 := n3_; have HO718 := n4_; have HO721 := n5_; have BK698 := n6_; have BK699 := n7_; have BK723 := n8_; have HB := n9_; clear n0_ n1_ n2_ n3_ n4_ n5_ n6_ n7_ n8_ n9_; (try clear hb); (try clear hb2); (try clear hk); (try clear hi)))
        repeat (go_quiet (fail); try go_wp2)
        go_meet
        case rel => exact ⟨_, (!t725), (by first | rfl | (simp; done) | (simp [*]; done)), H', ⟨by have := HJ2.out; first | omega | exact Nat.le_refl _⟩, ⟨by exact HO721.out⟩, ⟨by exact HO706.out⟩, ⟨by exact HO709.out⟩, ⟨by exact Kd.R_mono HO712.out (fun _ hk => ⟨hk.2.2, ⟨hk.1, hk.2.1⟩⟩)⟩, ⟨by exact Kd.R_mono HO715.out (fun _ hk => ⟨hk.2.2, ⟨hk.1, hk.2.1⟩⟩)⟩, ⟨by exact Kd.R_mono HO718.out (fun _ hk => ⟨hk.2.2, ⟨hk.1, hk.2.1⟩⟩)⟩, ⟨by exact BK698.out⟩, ⟨by exact BK699.out⟩, ⟨by exact BK723.out⟩, ⟨by exact HB.out⟩⟩
       ·
        rw [if_neg c42] at H
        have c42b0 : ((t719.length : Int) == (wrap64 (t724 + 1))) = false := beq_eq_false_iff_ne.mpr c42
        have c42b1 : ((t719.length : Int) != (wrap64 (t724 + 1))) = true := bne_iff_ne.mpr c42
        have H' := Aside0.mk H
        exact absurd (hrt.out.symm.trans (inquestlaw24_StrashRuns.j1_no H'.out)) (by decide)
      ·
       rw [if_neg c40] at H
       have c40b0 : (t722 == 0) = false := beq_eq_false_iff_ne.mpr c40
       have c40b1 : (t722 != 0) = true := bne_iff_ne.mpr c40
       (first | rw [c40b0] | (simp only [i64_w, i32_w]; rw [c40b0]) | skip)
       have H' := Aside0.mk H
       exact absurd (hrt.out.symm.trans (inquestlaw24_StrashRuns.j1_no H'.out)) (by decide)
     case rest =>
      as_aux_lemma =>
       clear HC27
       try clear c1
       try clear c2
       try clear p2
       try clear c3
       try clear c4
       try clear c5
       try clear c6
       try clear p6
       try clear c7
       try clear c8
       try clear c11
       try clear c11b0
       try clear c11b1
       try clear c12
       try clear c17
       try clear c23
       try clear c28
       try clear c32
       try clear c33
       try clear c40
       try clear c40b0
       try clear c40b1
       try clear c42
       try clear c42b0
       try clear c42b1
       try clear c45
       try clear c46
       try clear c49
       try clear c54
       try clear c55
       try clear hcz13_0
       try clear hcz13_1
       try clear hcz13_2
       try clear hcz13_3
       try clear hcz13_4
       try clear hcz13_5
       try clear hcz15_0
       try clear hcz15_1
       try clear hcz15_2
       try clear hcz18_0
       try clear hcz18_1
       try clear hcz18_2
       try clear hcz18_3
       try clear hcz18_4
       try clear hcz18_5
       try clear hcz20_0
       try clear hcz20_1
       try clear hcz20_2
       try clear hcz21_0
       try clear hcz21_1
       try clear hcz21_2
       try clear hcz21_3
       try clear hcz21_4
       try clear hcz21_5
       try clear hcz29_0
       try clear hcz29_1
       try clear hcz29_2
       try clear hcz29_3
       try clear hcz29_4
       try clear hcz29_5
       try clear hcz34_0
       try clear hcz34_1
       try clear hcz34_2
       try clear hcz34_3
       try clear hcz34_4
       try clear hcz34_5
       try clear hcz47_0
       try clear hcz47_1
       try clear hcz47_2
       try clear hcz47_3
       try clear hcz47_4
       try clear hcz47_5
       try clear hcz50_0
       try clear hcz50_1
       try clear hcz50_2
       try clear hcz50_3
       try clear hcz50_4
       try clear hcz50_5
       try clear hcz51_0
       try clear hcz51_1
       try clear hcz51_2
       try clear hcz56_0
       try clear hcz56_1
       try clear hcz56_2
       try clear hcz56_3
       try clear hcz56_4
       try clear hcz56_5
       try clear hcz9_0
       try clear hcz9_1
       try clear hcz9_2
       try clear hcz9_3
       try clear hcz9_4
       try clear hcz9_5
       try clear hfz13_0
       try clear hfz13_1
       try clear hfz13_2
       try clear hfz13_3
       try clear hfz13_4
       try clear hfz13_5
       try clear hfz15_0
       try clear hfz15_1
       try clear hfz15_2
       try clear hfz18_0
       try clear hfz18_1
       try clear hfz18_2
       try clear hfz18_3
       try clear hfz18_4
       try clear hfz18_5
       try clear hfz20_0
       try clear hfz20_1
       try clear hfz20_2
       try clear hfz21_0
       try clear hfz21_1
       try clear hfz21_2
       try clear hfz21_3
       try clear hfz21_4
       try clear hfz21_5
       try clear hfz29_0
       try clear hfz29_1
       try clear hfz29_2
       try clear hfz29_3
       try clear hfz29_4
       try clear hfz29_5
       try clear hfz34_0
       try clear hfz34_1
       try clear hfz34_2
       try clear hfz34_3
       try clear hfz34_4
       try clear hfz34_5
       try clear hfz47_0
       try clear hfz47_1
       try clear hfz47_2
       try clear hfz47_3
       try clear hfz47_4
       try clear hfz47_5
       try clear hfz50_0
       try clear hfz50_1
       try clear hfz50_2
       try clear hfz50_3
       try clear hfz50_4
       try clear hfz50_5
       try clear hfz51_0
       try clear hfz51_1
       try clear hfz51_2
       try clear hfz56_0
       try clear hfz56_1
       try clear hfz56_2
       try clear hfz56_3
       try clear hfz56_4
       try clear hfz56_5
       try clear hfz9_0
       try clear hfz9_1
       try clear hfz9_2
       try clear hfz9_3
       try clear hfz9_4
       try clear hfz9_5
       try clear p2
       obtain ⟨kq, x55_26, rfl, HA, HJ26, HO_6, HO_724001, HO_724002, HO_724003, HO_724004, HO_724005, BK698, BK699, BK723, HB⟩ := hcut
       cases kq with
       | zero => exact absurd HA.out (by simp [inquestlaw24_StrashRuns.j1])
       | succ kj26 =>
        have H := HA.out
        clear HA
        simp only [inquestlaw24_StrashRuns.j1] at H
        by_cases c58 : x55_26 = true
        ·
         subst c58
         have H1 : (some false) = some r := by rw [if_pos rfl] at H; exact H
         clear H
         have H := H1
         clear H1
         exact absurd (hrt.out.symm.trans (Option.some.inj H).symm) (by decide)
        ·
         replace c58 := Bool.eq_false_iff.mpr c58
         subst c58
         have H1 : ((inquestref07_Run.f kj26 a0_0 l0_1 l0_2 l0_3 l0_4 l0_5 a1_0 l1_1 l1_2).bind fun bt726 => ((inquestref07_Run.f kj26 t703 t704 t707 t710 t713 t716 a1_0 l1_1 l1_2).bind fun bt730 => (inquestlaw24_StrashRuns.l0 kj26 t719 bt726.1 bt730.1 (bt726.1.length : Int) 0 a0_0 l0_1 l0_2 l0_3 l0_4 l0_5 a1_0 l1_1 l1_2 t703 t704 t707 t710 t713 t716))) = some r := by rw [if_neg (show ¬ (false = true) by decide)] at H; exact H
         clear H
         have H := H1
         clear H1
         replace H := Option.bind_eq_some_iff.mp H
         obtain ⟨⟨t726, t729⟩, A590, H⟩ := H
         replace H : ((inquestref07_Run.f kj26 t703 t704 t707 t710 t713 t716 a1_0 l1_1 l1_2).bind fun bt730 => (inquestlaw24_StrashRuns.l0 kj26 t719 t726 bt730.1 (t726.length : Int) 0 a0_0 l0_1 l0_2 l0_3 l0_4 l0_5 a1_0 l1_1 l1_2 t703 t704 t707 t710 t713 t716)) = some r := H
         have A59 := Aside0.mk A590
         clear A590
         replace H := Option.bind_eq_some_iff.mp H
         obtain ⟨⟨t730, t733⟩, A600, H⟩ := H
         replace H : (inquestlaw24_StrashRuns.l0 kj26 t719 t726 t730 (t726.length : Int) 0 a0_0 l0_1 l0_2 l0_3 l0_4 l0_5 a1_0 l1_1 l1_2 t703 t704 t707 t710 t713 t716) = some r := H
         have A60 := Aside0.mk A600
         clear A600
         have H' := Aside0.mk H
         clear H
         have hnb61 := NB698_699.out
         have hnc61 := NB699_698.out
         have hnb62 := NB698_723.out
         have hnc62 := NB723_698.out
         have hcz63_0 : wc.cell? ⟨gb698, 0, none⟩ = some (.int .i64 a0_0) := (blk_cell BK698.out 0).trans rfl
         have hcz63_1 : wc.cell? ⟨gb698, 1, none⟩ = some (.slice A0_1 l0_1.length c0_1) := (blk_cell BK698.out 1).trans rfl
         have hcz63_2 : wc.cell? ⟨gb698, 2, none⟩ = some (.slice A0_2 l0_2.length c0_2) := (blk_cell BK698.out 2).trans rfl
         have hcz63_3 : wc.cell? ⟨gb698, 3, none⟩ = some (.slice A0_3 l0_3.length c0_3) := (blk_cell BK698.out 3).trans rfl
         have hcz63_4 : wc.cell? ⟨gb698, 4, none⟩ = some (.slice A0_4 l0_4.length c0_4) := (blk_cell BK698.out 4).trans rfl
         have hcz63_5 : wc.cell? ⟨gb698, 5, none⟩ = some (.slice A0_5 l0_5.length c0_5) := (blk_cell BK698.out 5).trans rfl
         have hfz63_0 := blk_frozen BK698.out 0
         have hfz63_1 := blk_frozen BK698.out 1
         have hfz63_2 := blk_frozen BK698.out 2
         have hfz63_3 := blk_frozen BK698.out 3
         have hfz63_4 := blk_frozen BK698.out 4
         have hfz63_5 := blk_frozen BK698.out 5
         have hnb64 := NB699_723.out
         have hnc64 := NB723_699.out
         have hcz65_0 : wc.cell? ⟨gb699, 0, none⟩ = some (.int .i64 a1_0) := (blk_cell BK699.out 0).trans rfl
         have hcz65_1 : wc.cell? ⟨gb699, 1, none⟩ = some (.slice A1_1 l1_1.length c1_1) := (blk_cell BK699.out 1).trans rfl
         have hcz65_2 : wc.cell? ⟨gb699, 2, none⟩ = some (.slice A1_2 l1_2.length c1_2) := (blk_cell BK699.out 2).trans rfl
         have hfz65_0 := blk_frozen BK699.out 0
         have hfz65_1 := blk_frozen BK699.out 1
         have hfz65_2 := blk_frozen BK699.out 2
         go_wp2_with (first | (go_at_call 49; (with_reducible refine (inquestref07_Run.calls kj26 a0_0 _ _ l0_1 _ _ l0_2 _ _ l0_3 _ _ l0_4 _ _ l0_5 a1_0 (fun k_ => k_ < w.heap.size) _ _ l1_1 _ _ l1_2 t726 t729 _ ?side1 ?side2 ?side3 ?side4 ?side5 ?side6 ?side7 ?side8 ?side9 ?side10 ?side11 ?side12 ?side13 A59.out).mono ?_); (case side1 => exact (Kd.C_below HR0_1.out HB.out)); (case side2 => exact HC0_1.out); (case side3 => exact (Kd.C_below HR0_2.out HB.out)); (case side4 => exact HC0_2.out); (case side5 => exact (Kd.C_below HR0_3.out HB.out)); (case side6 => exact HC0_3.out); (case side7 => exact (Kd.C_below HR0_4.out HB.out)); (case side8 => exact HC0_4.out); (case side9 => exact (Kd.C_below HR0_5.out HB.out)); (case side10 => exact HC0_5.out); (case side11 => exact Kd.V_mk HC1_1.out (Kd.F_below (Kd.C_F (Kd.heap_int .u8) HR1_1.out) (by exact HB.out))); (case side12 => exact (Kd.C_below HR1_2.out HB.out)); (case side13 => exact HC1_2.out); rintro e w66 ⟨v727, rfl, ho0, hb⟩; have n0_ := Aside0.mk (Kd.R_below (by exact HO_6.out) hb); have n1_ := Aside0.mk (Kd.R_below (by exact HO_724001.out) hb); have n2_ := Aside0.mk (Kd.R_below (by exact HO_724002.out) hb); have n3_ := Aside0.mk (Kd.R_below (by exact HO_724003.out) hb); have n4_ := Aside0.mk (Kd.R_below (by exact HO_724004.out) hb); have n5_ := Aside0.mk (Kd.R_below (by exact HO_724005.out) hb); have n6_ := Aside0.mk (Kd.S_lower (Kd.S_mono (ok' := fun k_ => True) ho0 (fun _ hk_ => trivial)) (below_size (by exact HB.out))); have n7_ := Aside0.mk (blk_below (g := gb698) (o := .cells #[.int .i64 a0_0, .slice A0_1 l0_1.length c0_1, .slice A0_2 l0_2.length c0_2, .slice A0_3 l0_3.length c0_3, .slice A0_4 l0_4.length c0_4, .slice A0_5 l0_5.length c0_5] 26 (0, 0)) (by exact BK698.out) hb); have n8_ := Aside0.mk (blk_below (g := gb699) (o := .cells #[.int .i64 a1_0, .slice A1_1 l1_1.length c1_1, .slice A1_2 l1_2.length c1_2] 31 (0, 0)) (by exact BK699.out) hb); have n9_ := Aside0.mk (blk_below (g := gb723) (o := .cells #[.int .i64 t703, .slice Ao35 t704.length co35, .slice Ao36 t707.length co36, .slice Ao37 t710.length co37, .slice Ao38 t713.length co38, .slice Ao39 t716.length co39] 26 (0, 0)) (by exact BK723.out) hb); have n10_ := Aside0.mk (below_step (by exact HB.out) hb); clear HO_6; clear HO_724001; clear HO_724002; clear HO_724003; clear HO_724004; clear HO_724005; clear BK698; clear BK699; clear BK723; clear HB; have HO_6 := n0_; have HO_724001 := n1_; have HO_724002 := n2_; have HO_724003 := n3_; have HO_724004 := n4_; have HO_724005 := n5_; have HO728 := n6_; have BK698 := n7_; have BK699 := n8_; have BK723 := n9_; have HB := n10_; clear n0_ n1_ n2_ n3_ n4_ n5_ n6_ n7_ n8_ n9_ n10_; (try clear hb); (try clear hb2); (try clear hk); (try clear hi); (try clear ho0); have hcz67_0 : w66.cell? ⟨gb723, 0, none⟩ = some (.int .i64 t703) := (blk_cell BK723.out 0).trans rfl; have hcz67_1 : w66.cell? ⟨gb723, 1, none⟩ = some (.slice Ao35 t704.length co35) := (blk_cell BK723.out 1).trans rfl; have hcz67_2 : w66.cell? ⟨gb723, 2, none⟩ = some (.slice Ao36 t707.length co36) := (blk_cell BK723.out 2).trans rfl; have hcz67_3 : w66.cell? ⟨gb723, 3, none⟩ = some (.slice Ao37 t710.length co37) := (blk_cell BK723.out 3).trans rfl; have hcz67_4 : w66.cell? ⟨gb723, 4, none⟩ = some (.slice Ao38 t713.length co38) := (blk_cell BK723.out 4).trans rfl; have hcz67_5 : w66.cell? ⟨gb723, 5, none⟩ = some (.slice Ao39 t716.length co39) := (blk_cell BK723.out 5).trans rfl; have hfz67_0 := blk_frozen BK723.out 0; have hfz67_1 := blk_frozen BK723.out 1; have hfz67_2 := blk_frozen BK723.out 2; have hfz67_3 := blk_frozen BK723.out 3; have hfz67_4 := blk_frozen BK723.out 4; have hfz67_5 := blk_frozen BK723.out 5; have hcz68_0 : w66.cell? ⟨gb699, 0, none⟩ = some (.int .i64 a1_0) := (blk_cell BK699.out 0).trans rfl; have hcz68_1 : w66.cell? ⟨gb699, 1, none⟩ = some (.slice A1_1 l1_1.length c1_1) := (blk_cell BK699.out 1).trans rfl; have hcz68_2 : w66.cell? ⟨gb699, 2, none⟩ = some (.slice A1_2 l1_2.length c1_2) := (blk_cell BK699.out 2).trans rfl; have hfz68_0 := blk_frozen BK699.out 0; have hfz68_1 := blk_frozen BK699.out 1; have hfz68_2 := blk_frozen BK699.out 2) | (go_at_call 49; (with_reducible refine (inquestref07_Run.calls kj26 t703 _ _ t704 _ _ t707 _ _ t710 _ _ t713 _ _ t716 a1_0 (fun k_ => k_ < w.heap.size) _ _ l1_1 _ _ l1_2 t730 t733 _ ?side1 ?side2 ?side3 ?side4 ?side5 ?side6 ?side7 ?side8 ?side9 ?side10 ?side11 ?side12 ?side13 A60.out).mono ?_); (case side1 => repeat (first | exact (Kd.R_reads' HO_724001.out).2.2 | (with_reducible refine Kd.C_alloc ?_ _) | (with_reducible refine Kd.C_drewN ?_ _) | (with_reducible refine Kd.C_drew ?_))); (case side2 => exact (Kd.R_reads' HO_724001.out).2.1); (case side3 => repeat (first | exact (Kd.R_reads' HO_724002.out).2.2 | (with_reducible refine Kd.C_alloc ?_ _) | (with_reducible refine Kd.C_drewN ?_ _) | (with_reducible refine Kd.C_drew ?_))); (case side4 => exact (Kd.R_reads' HO_724002.out).2.1); (case side5 => repeat (first | exact (Kd.R_reads' HO_724003.out).2.2 | (with_reducible refine Kd.C_alloc ?_ _) | (with_reducible refine Kd.C_drewN ?_ _) | (with_reducible refine Kd.C_drew ?_))); (case side6 => exact (Kd.R_reads' HO_724003.out).2.1); (case side7 => repeat (first | exact (Kd.R_reads' HO_724004.out).2.2 | (with_reducible refine Kd.C_alloc ?_ _) | (with_reducible refine Kd.C_drewN ?_ _) | (with_reducible refine Kd.C_drew ?_))); (case side8 => exact (Kd.R_reads' HO_724004.out).2.1); (case side9 => repeat (first | exact (Kd.R_reads' HO_724005.out).2.2 | (with_reducible refine Kd.C_alloc ?_ _) | (with_reducible refine Kd.C_drewN ?_ _) | (with_reducible refine Kd.C_drew ?_))); (case side10 => exact (Kd.R_reads' HO_724005.out).2.1); (case side11 => exact Kd.V_mk HC1_1.out (Kd.F_below (Kd.C_F (Kd.heap_int .u8) HR1_1.out) (by exact HB.out))); (case side12 => exact (Kd.C_below HR1_2.out HB.out)); (case side13 => exact HC1_2.out); rintro e w69 ⟨v731, rfl, ho0, hb⟩; have n0_ := Aside0.mk (Kd.R_below (by exact HO_6.out) hb); have n1_ := Aside0.mk (Kd.R_below (by exact HO_724001.out) hb); have n2_ := Aside0.mk (Kd.R_below (by exact HO_724002.out) hb); have n3_ := Aside0.mk (Kd.R_below (by exact HO_724003.out) hb); have n4_ := Aside0.mk (Kd.R_below (by exact HO_724004.out) hb); have n5_ := Aside0.mk (Kd.R_below (by exact HO_724005.out) hb); have n6_ := Aside0.mk (Kd.S_elder' (by exact HO728.out) (Kd.S_base ho0) hb); have n7_ := Aside0.mk (Kd.S_lower (Kd.S_new' (Kd.S_mono (ok' := fun k_ => True) ho0 (fun _ hk_ => trivial)) (Kd.S_lt (by exact HO728.out))) (below_size (by exact HB.out))); have n8_ := Aside0.mk (blk_below (g := gb698) (o := .cells #[.int .i64 a0_0, .slice A0_1 l0_1.length c0_1, .slice A0_2 l0_2.length c0_2, .slice A0_3 l0_3.length c0_3, .slice A0_4 l0_4.length c0_4, .slice A0_5 l0_5.length c0_5] 26 (0, 0)) (by exact BK698.out) hb); have n9_ := Aside0.mk (blk_below (g := gb699) (o := .cells #[.int .i64 a1_0, .slice A1_1 l1_1.length c1_1, .slice A1_2 l1_2.length c1_2] 31 (0, 0)) (by exact BK699.out) hb); have n10_ := Aside0.mk (blk_below (g := gb723) (o := .cells #[.int .i64 t703, .slice Ao35 t704.length co35, .slice Ao36 t707.length co36, .slice Ao37 t710.length co37, .slice Ao38 t713.length co38, .slice Ao39 t716.length co39] 26 (0, 0)) (by exact BK723.out) hb); have n11_ := Aside0.mk (below_step (by exact HB.out) hb); clear HO_6; clear HO_724001; clear HO_724002; clear HO_724003; clear HO_724004; clear HO_724005; clear HO728; clear BK698; clear BK699; clear BK723; clear HB; have HO_6 := n0_; have HO_724001 := n1_; have HO_724002 := n2_; have HO_724003 := n3_; have HO_724004 := n4_; have HO_724005 := n5_; have HO728 := n6_; have HO732 := n7_; have BK698 := n8_; have BK699 := n9_; have BK723 := n10_; have HB := n11_; clear n0_ n1_ n2_ n3_ n4_ n5_ n6_ n7_ n8_ n9_ n10_ n11_; (try clear hb); (try clear hb2); (try clear hk); (try clear hi); (try clear ho0); obtain ⟨Ao70, co70, eo70⟩ := Kd.S_slice HO728.out; subst eo70))
         repeat (go_quiet (fail); try go_wp2)
         go_loopg [70] kj26 (fun kq v70 w' => ∃ (x70_3 : Int), v70 = .int .i64 x70_3 ∧ Aside0 (inquestlaw24_StrashRuns.l0 kq t719 t726 t730 (t726.length : Int) x70_3 a0_0 l0_1 l0_2 l0_3 l0_4 l0_5 a1_0 l1_1 l1_2 t703 t704 t707 t710 t713 t716 = some r) ∧ Aside0 (kq ≤ kj26) ∧ Aside0 (Kd.R (Kd.int .u32) 39 w' w.heap.size (fun k_ => some k_ ≠ ((.slice Ao37 t710.length co37) : Value).ownBlock ∧ some k_ ≠ ((.slice Ao38 t713.length co38) : Value).ownBlock ∧ some k_ ≠ ((.slice Ao39 t716.length co39) : Value).ownBlock) v720 t719) ∧ Aside0 (Kd.S (Kd.slice 5 (Kd.int .u8)) 28 w' w.heap.size (fun k_ => some k_ ≠ (v731 : Value).ownBlock) (.slice Ao70 t726.length co70) t726) ∧ Aside0 (Kd.S (Kd.slice 5 (Kd.int .u8)) 28 w' w.heap.size (fun k_ => some k_ ≠ ((.slice Ao70 t726.length co70) : Value).ownBlock) v731 t730) ∧ Aside0 (Kd.R k41 41 w' w.heap.size (fun _ => True) (.slice Ao35 t704.length co35) t704) ∧ Aside0 (Kd.R k68 68 w' w.heap.size (fun _ => True) (.slice Ao36 t707.length co36) t707) ∧ Aside0 (Kd.R (Kd.int .u32) 39 w' w.heap.size (fun k_ => some k_ ≠ (v720 : Value).ownBlock ∧ some k_ ≠ ((.slice Ao38 t713.length co38) : Value).ownBlock ∧ some k_ ≠ ((.slice Ao39 t716.length co39) : Value).ownBlock) (.slice Ao37 t710.length co37) t710) ∧ Aside0 (Kd.R (Kd.int .u32) 39 w' w.heap.size (fun k_ => some k_ ≠ (v720 : Value).ownBlock ∧ some k_ ≠ ((.slice Ao37 t710.length co37) : Value).ownBlock ∧ some k_ ≠ ((.slice Ao39 t716.length co39) : Value).ownBlock) (.slice Ao38 t713.length co38) t713) ∧ Aside0 (Kd.R (Kd.int .u32) 39 w' w.heap.size (fun k_ => some k_ ≠ (v720 : Value).ownBlock ∧ some k_ ≠ ((.slice Ao37 t710.length co37) : Value).ownBlock ∧ some k_ ≠ ((.slice Ao38 t713.length co38) : Value).ownBlock) (.slice Ao39 t716.length co39) t716) ∧ Aside0 (w'.heap[gb698]? = some (.cells #[.int .i64 a0_0, (.slice A0_1 l0_1.length c0_1), (.slice A0_2 l0_2.length c0_2), (.slice A0_3 l0_3.length c0_3), (.slice A0_4 l0_4.length c0_4), (.slice A0_5 l0_5.length c0_5)] 26 (0, 0))) ∧ Aside0 (w'.heap[gb699]? = some (.cells #[.int .i64 a1_0, (.slice A1_1 l1_1.length c1_1), (.slice A1_2 l1_2.length c1_2)] 31 (0, 0))) ∧ Aside0 (w'.heap[gb723]? = some (.cells #[.int .i64 t703, (.slice Ao35 t704.length co35), (.slice Ao36 t707.length co36), (.slice Ao37 t710.length co37), (.slice Ao38 t713.length co38), (.slice Ao39 t716.length co39)] 26 (0, 0))) ∧ Aside0 (Below w.heap.size w w'))
         case atStart => exact ⟨(0), (by first | rfl | (simp; done) | (simp [*]; done)), H', ⟨Nat.le_refl _⟩, ⟨by exact HO_6.out⟩, ⟨by exact Kd.S_mono HO728.out (fun _ hk => hk.2)⟩, ⟨by exact Kd.S_mono HO732.out (fun _ hk => hk.2)⟩, ⟨by exact HO_724001.out⟩, ⟨by exact HO_724002.out⟩, ⟨by exact HO_724003.out⟩, ⟨by exact HO_724004.out⟩, ⟨by exact HO_724005.out⟩, ⟨by exact BK698.out⟩, ⟨by exact BK699.out⟩, ⟨by exact BK723.out⟩, ⟨by exact HB.out⟩⟩
         case round =>
          as_aux_lemma =>
           clear H'
           try clear c1
           try clear c2
           try clear p2
           try clear c3
           try clear c4
           try clear c5
           try clear c6
           try clear p6
           try clear c7
           try clear c8
           try clear c11
           try clear c11b0
           try clear c11b1
           try clear c12
           try clear c17
           try clear c23
           try clear c28
           try clear c32
           try clear c33
           try clear c40
           try clear c40b0
           try clear c40b1
           try clear c42
           try clear c42b0
           try clear c42b1
           try clear c45
           try clear c46
           try clear c49
           try clear c54
           try clear c55
           try clear c58
           try clear c61
           try clear c62
           try clear c64
           try clear p64
           try clear hcz13_0
           try clear hcz13_1
           try clear hcz13_2
           try clear hcz13_3
           try clear hcz13_4
           try clear hcz13_5
           try clear hcz15_0
           try clear hcz15_1
           try clear hcz15_2
           try clear hcz18_0
           try clear hcz18_1
           try clear hcz18_2
           try clear hcz18_3
           try clear hcz18_4
           try clear hcz18_5
           try clear hcz20_0
           try clear hcz20_1
           try clear hcz20_2
           try clear hcz21_0
           try clear hcz21_1
           try clear hcz21_2
           try clear hcz21_3
           try clear hcz21_4
           try clear hcz21_5
           try clear hcz29_0
           try clear hcz29_1
           try clear hcz29_2
           try clear hcz29_3
           try clear hcz29_4
           try clear hcz29_5
           try clear hcz34_0
           try clear hcz34_1
           try clear hcz34_2
           try clear hcz34_3
           try clear hcz34_4
           try clear hcz34_5
           try clear hcz47_0
           try clear hcz47_1
           try clear hcz47_2
           try clear hcz47_3
           try clear hcz47_4
           try clear hcz47_5
           try clear hcz50_0
           try clear hcz50_1
           try clear hcz50_2
           try clear hcz50_3
           try clear hcz50_4
           try clear hcz50_5
           try clear hcz51_0
           try clear hcz51_1
           try clear hcz51_2
           try clear hcz56_0
           try clear hcz56_1
           try clear hcz56_2
           try clear hcz56_3
           try clear hcz56_4
           try clear hcz56_5
           try clear hcz63_0
           try clear hcz63_1
           try clear hcz63_2
           try clear hcz63_3
           try clear hcz63_4
           try clear hcz63_5
           try clear hcz65_0
           try clear hcz65_1
           try clear hcz65_2
           try clear hcz67_0
           try clear hcz67_1
           try clear hcz67_2
           try clear hcz67_3
           try clear hcz67_4
           try clear hcz67_5
           try clear hcz68_0
           try clear hcz68_1
           try clear hcz68_2
           try clear hcz9_0
           try clear hcz9_1
           try clear hcz9_2
           try clear hcz9_3
           try clear hcz9_4
           try clear hcz9_5
           try clear hfz13_0
           try clear hfz13_1
           try clear hfz13_2
           try clear hfz13_3
           try clear hfz13_4
           try clear hfz13_5
           try clear hfz15_0
           try clear hfz15_1
           try clear hfz15_2
           try clear hfz18_0
           try clear hfz18_1
           try clear hfz18_2
           try clear hfz18_3
           try clear hfz18_4
           try clear hfz18_5
           try clear hfz20_0
           try clear hfz20_1
           try clear hfz20_2
           try clear hfz21_0
           try clear hfz21_1
           try clear hfz21_2
           try clear hfz21_3
           try clear hfz21_4
           try clear hfz21_5
           try clear hfz29_0
           try clear hfz29_1
           try clear hfz29_2
           try clear hfz29_3
           try clear hfz29_4
           try clear hfz29_5
           try clear hfz34_0
           try clear hfz34_1
           try clear hfz34_2
           try clear hfz34_3
           try clear hfz34_4
           try clear hfz34_5
           try clear hfz47_0
           try clear hfz47_1
           try clear hfz47_2
           try clear hfz47_3
           try clear hfz47_4
           try clear hfz47_5
           try clear hfz50_0
           try clear hfz50_1
           try clear hfz50_2
           try clear hfz50_3
           try clear hfz50_4
           try clear hfz50_5
           try clear hfz51_0
           try clear hfz51_1
           try clear hfz51_2
           try clear hfz56_0
           try clear hfz56_1
           try clear hfz56_2
           try clear hfz56_3
           try clear hfz56_4
           try clear hfz56_5
           try clear hfz63_0
           try clear hfz63_1
           try clear hfz63_2
           try clear hfz63_3
           try clear hfz63_4
           try clear hfz63_5
           try clear hfz65_0
           try clear hfz65_1
           try clear hfz65_2
           try clear hfz67_0
           try clear hfz67_1
           try clear hfz67_2
           try clear hfz67_3
           try clear hfz67_4
           try clear hfz67_5
           try clear hfz68_0
           try clear hfz68_1
           try clear hfz68_2
           try clear hfz9_0
           try clear hfz9_1
           try clear hfz9_2
           try clear hfz9_3
           try clear hfz9_4
           try clear hfz9_5
           try clear p2
           try clear p6
           obtain ⟨x70_3, rfl, HA, HK3, HO_6, HO_8, HO_10, HO_724001, HO_724002, HO_724003, HO_724004, HO_724005, BK698, BK699, BK723, HB⟩ := hrel
           cases gk with
           | zero => exact absurd HA.out (by simp [inquestlaw24_StrashRuns.l0])
           | succ k3 =>
            have H := HA.out
            clear HA
            simp only [inquestlaw24_StrashRuns.l0] at H
            by_cases c71 : x70_3 < (t726.length : Int)
            ·
             rw [if_pos c71] at H
             have c71b0 : decide (x70_3 < (t726.length : Int)) = true := decide_eq_true c71
             clear c71
             by_cases c72 : 0 ≤ x70_3
             ·
              rw [if_pos c72] at H
              have c72b0 : decide (0 ≤ x70_3) = true := decide_eq_true c72
              clear c72
              by_cases c73 : x70_3 < (t726.length : Int)
              ·
               rw [if_pos c73] at H
               have c73b0 : decide (x70_3 < (t726.length : Int)) = true := decide_eq_true c73
               clear c73
               have H' := Aside0.mk H
               clear H
               have p739 : 0 ≤ (x70_3 : Int) := of_decide_eq_true (by first | (with_reducible assumption) | assumption)
               have q739 : x70_3 < (t726.length : Int) := of_decide_eq_true (by first | (with_reducible assumption) | assumption)
               obtain ⟨ad739, A739_0, c739_0, e739, hx739_0, hl739_0, hi739_0⟩ := at_L9 (Kd.S_reads' HO_8.out).2.2 x70_3 p739 q739
               cases e739
               obtain ⟨ce739, hce739, hMe739, hcc739⟩ := Kd.S_get HO_8.out [] x70_3 p739 (by first | exact q739 | exact of_decide_eq_true (by first | (with_reducible assumption) | assumption) | (have e_ := (Kd.S_reads' HO_8.out).1; omega))
               obtain ⟨ve739_0, rfl, ge739_0⟩ := hMe739
               have hv739_0 := hcc739 0 _ rfl
               rw [Nat.add_zero, show ((Kd.slice 5 (Kd.int .u8))).sz = 1 from rfl, Nat.mul_one] at hv739_0
               replace hv739_0 := Option.some.inj (hv739_0.symm.trans hx739_0)
               rw [hv739_0] at ge739_0
               have HL739_0 := Aside0.mk (show Kd.R (Kd.int .u8) 5 _ _ _ _ (rd_L9 t726 x70_3) from ge739_0)
               clear hv739_0 ge739_0
               clear hcc739 hce739
               have HR739_0 := Aside0.mk hi739_0
               have HC739_0 := Aside0.mk hl739_0
               clear hi739_0 hl739_0
               replace p739 := eq_true p739
               replace q739 := eq_true q739
               go_wp2
               repeat (go_quiet (fail); try go_wp2)
               go_loopg [78] k3 (fun kq v78 w' => ∃ (x78_4 : Int), v78 = .int .i64 x78_4 ∧ Aside0 (inquestlaw24_StrashRuns.l1 kq t719 t726 t730 x70_3 (t726.length : Int) x70_3 ((rd_L9 t726 x70_3).length : Int) x78_4 a0_0 l0_1 l0_2 l0_3 l0_4 l0_5 a1_0 l1_1 l1_2 t703 t704 t707 t710 t713 t716 = some r) ∧ Aside0 (kq ≤ k3) ∧ Aside0 (Kd.R (Kd.int .u32) 39 w' w.heap.size (fun k_ => some k_ ≠ ((.slice Ao37 t710.length co37) : Value).ownBlock ∧ some k_ ≠ ((.slice Ao38 t713.length co38) : Value).ownBlock ∧ some k_ ≠ ((.slice Ao39 t716.length co39) : Value).ownBlock) v720 t719) ∧ Aside0 (Kd.S (Kd.slice 5 (Kd.int .u8)) 28 w' w.heap.size (fun k_ => some k_ ≠ (v731 : Value).ownBlock) (.slice (some ad739) t726.length co70) t726) ∧ Aside0 (Kd.S (Kd.slice 5 (Kd.int .u8)) 28 w' w.heap.size (fun k_ => some k_ ≠ ((.slice (some ad739) t726.length co70) : Value).ownBlock) v731 t730) ∧ Aside0 (Kd.R k41 41 w' w.heap.size (fun _ => True) (.slice Ao35 t704.length co35) t704) ∧ Aside0 (Kd.R k68 68 w' w.heap.size (fun _ => True) (.slice Ao36 t707.length co36) t707) ∧ Aside0 (Kd.R (Kd.int .u32) 39 w' w.heap.size (fun k_ => some k_ ≠ (v720 : Value).ownBlock ∧ some k_ ≠ ((.slice Ao38 t713.length co38) : Value).ownBlock ∧ some k_ ≠ ((.slice Ao39 t716.length co39) : Value).ownBlock) (.slice Ao37 t710.length co37) t710) ∧ Aside0 (Kd.R (Kd.int .u32) 39 w' w.heap.size (fun k_ => some k_ ≠ (v720 : Value).ownBlock ∧ some k_ ≠ ((.slice Ao37 t710.length co37) : Value).ownBlock ∧ some k_ ≠ ((.slice Ao39 t716.length co39) : Value).ownBlock) (.slice Ao38 t713.length co38) t713) ∧ Aside0 (Kd.R (Kd.int .u32) 39 w' w.heap.size (fun k_ => some k_ ≠ (v720 : Value).ownBlock ∧ some k_ ≠ ((.slice Ao37 t710.length co37) : Value).ownBlock ∧ some k_ ≠ ((.slice Ao38 t713.length co38) : Value).ownBlock) (.slice Ao39 t716.length co39) t716) ∧ Aside0 (w'.heap[gb698]? = some (.cells #[.int .i64 a0_0, (.slice A0_1 l0_1.length c0_1), (.slice A0_2 l0_2.length c0_2), (.slice A0_3 l0_3.length c0_3), (.slice A0_4 l0_4.length c0_4), (.slice A0_5 l0_5.length c0_5)] 26 (0, 0))) ∧ Aside0 (w'.heap[gb699]? = some (.cells #[.int .i64 a1_0, (.slice A1_1 l1_1.length c1_1), (.slice A1_2 l1_2.length c1_2)] 31 (0, 0))) ∧ Aside0 (w'.heap[gb723]? = some (.cells #[.int .i64 t703, (.slice Ao35 t704.length co35), (.slice Ao36 t707.length co36), (.slice Ao37 t710.length co37), (.slice Ao38 t713.length co38), (.slice Ao39 t716.length co39)] 26 (0, 0))) ∧ Aside0 (Kd.C (Kd.int .u8) w' A739_0 (rd_L9 t726 x70_3).length (rd_L9 t726 x70_3)) ∧ Aside0 (Below w.heap.size w w'))
               case atStart => exact ⟨(0), (by first | rfl | (simp; done) | (simp [*]; done)), H', ⟨Nat.le_refl _⟩, ⟨by exact HO_6.out⟩, ⟨by exact HO_8.out⟩, ⟨by exact HO_10.out⟩, ⟨by exact HO_724001.out⟩, ⟨by exact HO_724002.out⟩, ⟨by exact HO_724003.out⟩, ⟨by exact HO_724004.out⟩, ⟨by exact HO_724005.out⟩, ⟨by exact BK698.out⟩, ⟨by exact BK699.out⟩, ⟨by exact BK723.out⟩, ⟨by repeat (first | (with_reducible exact HR739_0.out) | (with_reducible refine Kd.C_alloc ?_ _) | (with_reducible refine Kd.C_drewN ?_ _) | (with_reducible refine Kd.C_drew ?_) | exact HR739_0.out)⟩, ⟨by exact HB.out⟩⟩
               case round =>
                as_aux_lemma =>
                 clear H'
                 try clear c1
                 try clear c2
                 try clear p2
                 try clear c3
                 try clear c4
                 try clear c5
                 try clear c6
                 try clear p6
                 try clear c7
                 try clear p7
                 try clear q7
                 try clear hx7
                 try clear c8
                 try clear c11
                 try clear c11b0
                 try clear c11b1
                 try clear c12
                 try clear c17
                 try clear c23
                 try clear c28
                 try clear c32
                 try clear c33
                 try clear c40
                 try clear c40b0
                 try clear c40b1
                 try clear c42
                 try clear c42b0
                 try clear c42b1
                 try clear c45
                 try clear c46
                 try clear c49
                 try clear c54
                 try clear c55
                 try clear c58
                 try clear c61
                 try clear c62
                 try clear c64
                 try clear p64
                 try clear c71
                 try clear c71b0
                 try clear c72
                 try clear c72b0
                 try clear c73
                 try clear c73b0
                 try clear p73
                 try clear q73
                 try clear hx73
                 try clear hcz13_0
                 try clear hcz13_1
                 try clear hcz13_2
                 try clear hcz13_3
                 try clear hcz13_4
                 try clear hcz13_5
                 try clear hcz15_0
                 try clear hcz15_1
                 try clear hcz15_2
                 try clear hcz18_0
                 try clear hcz18_1
                 try clear hcz18_2
                 try clear hcz18_3
                 try clear hcz18_4
                 try clear hcz18_5
                 try clear hcz20_0
                 try clear hcz20_1
                 try clear hcz20_2
                 try clear hcz21_0
                 try clear hcz21_1
                 try clear hcz21_2
                 try clear hcz21_3
                 try clear hcz21_4
                 try clear hcz21_5
                 try clear hcz29_0
                 try clear hcz29_1
                 try clear hcz29_2
                 try clear hcz29_3
                 try clear hcz29_4
                 try clear hcz29_5
                 try clear hcz34_0
                 try clear hcz34_1
                 try clear hcz34_2
                 try clear hcz34_3
                 try clear hcz34_4
                 try clear hcz34_5
                 try clear hcz47_0
                 try clear hcz47_1
                 try clear hcz47_2
                 try clear hcz47_3
                 try clear hcz47_4
                 try clear hcz47_5
                 try clear hcz50_0
                 try clear hcz50_1
                 try clear hcz50_2
                 try clear hcz50_3
                 try clear hcz50_4
                 try clear hcz50_5
                 try clear hcz51_0
                 try clear hcz51_1
                 try clear hcz51_2
                 try clear hcz56_0
                 try clear hcz56_1
                 try clear hcz56_2
                 try clear hcz56_3
                 try clear hcz56_4
                 try clear hcz56_5
                 try clear hcz63_0
                 try clear hcz63_1
                 try clear hcz63_2
                 try clear hcz63_3
                 try clear hcz63_4
                 try clear hcz63_5
                 try clear hcz65_0
                 try clear hcz65_1
                 try clear hcz65_2
                 try clear hcz67_0
                 try clear hcz67_1
                 try clear hcz67_2
                 try clear hcz67_3
                 try clear hcz67_4
                 try clear hcz67_5
                 try clear hcz68_0
                 try clear hcz68_1
                 try clear hcz68_2
                 try clear hcz9_0
                 try clear hcz9_1
                 try clear hcz9_2
                 try clear hcz9_3
                 try clear hcz9_4
                 try clear hcz9_5
                 try clear hfz13_0
                 try clear hfz13_1
                 try clear hfz13_2
                 try clear hfz13_3
                 try clear hfz13_4
                 try clear hfz13_5
                 try clear hfz15_0
                 try clear hfz15_1
                 try clear hfz15_2
                 try clear hfz18_0
                 try clear hfz18_1
                 try clear hfz18_2
                 try clear hfz18_3
                 try clear hfz18_4
                 try clear hfz18_5
                 try clear hfz20_0
                 try clear hfz20_1
                 try clear hfz20_2
                 try clear hfz21_0
                 try clear hfz21_1
                 try clear hfz21_2
                 try clear hfz21_3
                 try clear hfz21_4
                 try clear hfz21_5
                 try clear hfz29_0
                 try clear hfz29_1
                 try clear hfz29_2
                 try clear hfz29_3
                 try clear hfz29_4
                 try clear hfz29_5
                 try clear hfz34_0
                 try clear hfz34_1
                 try clear hfz34_2
                 try clear hfz34_3
                 try clear hfz34_4
                 try clear hfz34_5
                 try clear hfz47_0
                 try clear hfz47_1
                 try clear hfz47_2
                 try clear hfz47_3
                 try clear hfz47_4
                 try clear hfz47_5
                 try clear hfz50_0
                 try clear hfz50_1
                 try clear hfz50_2
                 try clear hfz50_3
                 try clear hfz50_4
                 try clear hfz50_5
                 try clear hfz51_0
                 try clear hfz51_1
                 try clear hfz51_2
                 try clear hfz56_0
                 try clear hfz56_1
                 try clear hfz56_2
                 try clear hfz56_3
                 try clear hfz56_4
                 try clear hfz56_5
                 try clear hfz63_0
                 try clear hfz63_1
                 try clear hfz63_2
                 try clear hfz63_3
                 try clear hfz63_4
                 try clear hfz63_5
                 try clear hfz65_0
                 try clear hfz65_1
                 try clear hfz65_2
                 try clear hfz67_0
                 try clear hfz67_1
                 try clear hfz67_2
                 try clear hfz67_3
                 try clear hfz67_4
                 try clear hfz67_5
                 try clear hfz68_0
                 try clear hfz68_1
                 try clear hfz68_2
                 try clear hfz9_0
                 try clear hfz9_1
                 try clear hfz9_2
                 try clear hfz9_3
                 try clear hfz9_4
                 try clear hfz9_5
                 try clear hx739_0
                 try clear p2
                 try clear p6
                 try clear p64
                 try clear p739
                 try clear q739
                 obtain ⟨x78_4, rfl, HA, HK4, HO_6, HO_8, HO_10, HO_724001, HO_724002, HO_724003, HO_724004, HO_724005, BK698, BK699, BK723, HR739_0, HB⟩ := hrel
                 cases gk with
                 | zero => exact absurd HA.out (by simp [inquestlaw24_StrashRuns.l1])
                 | succ k4 =>
                  have H := HA.out
                  clear HA
                  simp only [inquestlaw24_StrashRuns.l1] at H
                  by_cases c74 : x78_4 < ((rd_L9 t726 x70_3).length : Int)
                  ·
                   rw [if_pos c74] at H
                   have c74b0 : decide (x78_4 < ((rd_L9 t726 x70_3).length : Int)) = true := decide_eq_true c74
                   clear c74
                   by_cases c75 : 0 ≤ x70_3
                   ·
                    rw [if_pos c75] at H
                    have c75b0 : decide (0 ≤ x70_3) = true := decide_eq_true c75
                    clear c75
                    by_cases c76 : x70_3 < (t730.length : Int)
                    ·
                     rw [if_pos c76] at H
                     have c76b0 : decide (x70_3 < (t730.length : Int)) = true := decide_eq_true c76
                     clear c76
                     by_cases c77 : 0 ≤ x78_4
                     ·
                      rw [if_pos c77] at H
                      have c77b0 : decide (0 ≤ x78_4) = true := decide_eq_true c77
                      clear c77
                      by_cases c78 : x78_4 < (t719.length : Int)
                      ·
                       rw [if_pos c78] at H
                       have c78b0 : decide (x78_4 < (t719.length : Int)) = true := decide_eq_true c78
                       clear c78
                       replace H := Option.bind_eq_some_iff.mp H
                       obtain ⟨t742, A790, H⟩ := H
                       replace H : (if x70_3 < (t726.length : Int) then (if x78_4 < ((rd_L9 t726 x70_3).length : Int) then (if (rd (rd_L9 t726 x70_3) x78_4) = 2 then (inquestlaw24_StrashRuns.l1 k4 t719 t726 t730 x70_3 (t726.length : Int) x70_3 ((rd_L9 t726 x70_3).length : Int) (wrap64 (x78_4 + 1)) a0_0 l0_1 l0_2 l0_3 l0_4 l0_5 a1_0 l1_1 l1_2 t703 t704 t707 t710 t713 t716) else (if (rd (rd_L9 t726 x70_3) x78_4) = t742 then (inquestlaw24_StrashRuns.l1 k4 t719 t726 t730 x70_3 (t726.length : Int) x70_3 ((rd_L9 t726 x70_3).length : Int) (wrap64 (x78_4 + 1)) a0_0 l0_1 l0_2 l0_3 l0_4 l0_5 a1_0 l1_1 l1_2 t703 t704 t707 t710 t713 t716) else (some false))) else (none)) else (none)) = some r := H
                       have A79 := Aside0.mk A790
                       clear A790
                       by_cases c80 : x70_3 < (t726.length : Int)
                       ·
                        rw [if_pos c80] at H
                        have c80b0 : decide (x70_3 < (t726.length : Int)) = true := decide_eq_true c80
                        clear c80
                        by_cases c81 : x78_4 < ((rd_L9 t726 x70_3).length : Int)
                        ·
                         rw [if_pos c81] at H
                         have c81b0 : decide (x78_4 < ((rd_L9 t726 x70_3).length : Int)) = true := decide_eq_true c81
                         clear c81
                         by_cases c82 : (rd (rd_L9 t726 x70_3) x78_4) = 2
                         ·
                          rw [if_pos c82] at H
                          have c82b0 : ((rd (rd_L9 t726 x70_3) x78_4) == 2) = true := beq_iff_eq.mpr c82
                          have c82b1 : ((rd (rd_L9 t726 x70_3) x78_4) != 2) = false := bne_eq_false_iff_eq.mpr c82
                          clear c82
                          have H' := Aside0.mk H
                          clear H
                          obtain ⟨Ao83, co83, eo83⟩ := Kd.S_slice HO_10.out
                          subst eo83
                          have p740 : 0 ≤ (x70_3 : Int) := of_decide_eq_true (by first | (with_reducible assumption) | assumption)
                          have q740 : x70_3 < (t730.length : Int) := of_decide_eq_true (by first | (with_reducible assumption) | assumption)
                          obtain ⟨ad740, A740_0, c740_0, e740, hx740_0, hl740_0, hi740_0⟩ := at_L9 (Kd.S_reads' HO_10.out).2.2 x70_3 p740 q740
                          cases e740
                          obtain ⟨ce740, hce740, hMe740, hcc740⟩ := Kd.S_get HO_10.out [] x70_3 p740 (by first | exact q740 | exact of_decide_eq_true (by first | (with_reducible assumption) | assumption) | (have e_ := (Kd.S_reads' HO_10.out).1; omega))
                          obtain ⟨ve740_0, rfl, ge740_0⟩ := hMe740
                          have hv740_0 := hcc740 0 _ rfl
                          rw [Nat.add_zero, show ((Kd.slice 5 (Kd.int .u8))).sz = 1 from rfl, Nat.mul_one] at hv740_0
                          replace hv740_0 := Option.some.inj (hv740_0.symm.trans hx740_0)
                          rw [hv740_0] at ge740_0
                          have HL740_0 := Aside0.mk (show Kd.R (Kd.int .u8) 5 _ _ _ _ (rd_L9 t730 x70_3) from ge740_0)
                          clear hv740_0 ge740_0
                          clear hcc740 hce740
                          have HR740_0 := Aside0.mk hi740_0
                          have HC740_0 := Aside0.mk hl740_0
                          clear hi740_0 hl740_0
                          replace p740 := eq_true p740
                          replace q740 := eq_true q740
                          obtain ⟨Ao84, co84, eo84⟩ := Kd.R_slice HO_6.out
                          subst eo84
                          have p741 : 0 ≤ (x78_4 : Int) := of_decide_eq_true (by first | (with_reducible assumption) | assumption)
                          have q741 : x78_4 < (t719.length : Int) := of_decide_eq_true (by first | (with_reducible assumption) | assumption)
                          obtain ⟨ad741, e741, hx741_0⟩ := Kd.at_int (Kd.R_reads' HO_6.out).2.2 x78_4 p741 q741
                          cases e741
                          replace p741 := eq_true p741
                          replace q741 := eq_true q741
                          go_wp2_with (first | (go_at_call 50; (with_reducible refine (inquestref07_Value.calls k4 _ _ (rd_L9 t730 x70_3) (rd t719 x78_4) t742 _ ?side1 ?side2 A79.out).mono ?_); (case side1 => repeat (first | exact (by repeat (first | (with_reducible exact HR740_0.out) | (with_reducible refine Kd.C_alloc ?_ _) | (with_reducible refine Kd.C_drewN ?_ _) | (with_reducible refine Kd.C_drew ?_) | exact HR740_0.out)) | (with_reducible refine Kd.C_alloc ?_ _) | (with_reducible refine Kd.C_drewN ?_ _) | (with_reducible refine Kd.C_drew ?_))); (case side2 => exact HC740_0.out); rintro e w' ⟨rfl, ⟨nd, rfl⟩⟩; (try first | exact ⟨rfl, _, World.drewN_drewN _ _ _⟩ | exact ⟨rfl, _, Eq.trans (World.drewN_drewN _ _ _) (congrArg (World.drewN _) (Nat.add_assoc _ _ _))⟩); have p743 : 0 ≤ (x70_3 : Int) := of_decide_eq_true (by first | (with_reducible assumption) | assumption); have q743 : x70_3 < (t726.length : Int) := of_decide_eq_true (by first | (with_reducible assumption) | assumption); obtain ⟨ad743, A743_0, c743_0, e743, hx743_0, hl743_0, hi743_0⟩ := at_L9 (Kd.S_reads' HO_8.out).2.2 x70_3 p743 q743; obtain rfl : ad739 = ad743 := (by injection e743); obtain ⟨ce743, hce743, hMe743, hcc743⟩ := Kd.S_get HO_8.out [] x70_3 p743 (by first | exact q743 | exact of_decide_eq_true (by first | (with_reducible assumption) | assumption) | (have e_ := (Kd.S_reads' HO_8.out).1; omega)); obtain ⟨ve743_0, rfl, ge743_0⟩ := hMe743; have hv743_0 := hcc743 0 _ rfl; rw [Nat.add_zero, show ((Kd.slice 5 (Kd.int .u8))).sz = 1 from rfl, Nat.mul_one] at hv743_0; replace hv743_0 := Option.some.inj (hv743_0.symm.trans hx743_0); rw [hv743_0] at ge743_0; have HL743_0 := Aside0.mk (show Kd.R (Kd.int .u8) 5 _ _ _ _ (rd_L9 t726 x70_3) from ge743_0); clear hv743_0 ge743_0; clear hcc743 hce743; have HR743_0 := Aside0.mk hi743_0; have HC743_0 := Aside0.mk hl743_0; clear hi743_0 hl743_0; replace p743 := eq_true p743; replace q743 := eq_true q743; have p744 : 0 ≤ (x78_4 : Int) := of_decide_eq_true (by first | (with_reducible assumption) | assumption); have q744 : x78_4 < ((rd_L9 t726 x70_3).length : Int) := of_decide_eq_true (by first | (with_reducible assumption) | assumption); obtain ⟨ad744, e744, hx744_0⟩ := Kd.at_int (by repeat (first | (with_reducible exact HR743_0.out) | (with_reducible refine Kd.C_alloc ?_ _) | (with_reducible refine Kd.C_drewN ?_ _) | (with_reducible refine Kd.C_drew ?_) | exact HR743_0.out)) x78_4 p744 q744; cases e744; replace p744 := eq_true p744; replace q744 := eq_true q744))
                          repeat (go_quiet (first | (go_at_call 50; (with_reducible refine (inquestref07_Value.calls k4 _ _ (rd_L9 t730 x70_3) (rd t719 x78_4) t742 _ ?side1 ?side2 A79.out).mono ?_); (case side1 => repeat (first | exact (by repeat (first | (with_reducible exact HR740_0.out) | (with_reducible refine Kd.C_alloc ?_ _) | (with_reducible refine Kd.C_drewN ?_ _) | (with_reducible refine Kd.C_drew ?_) | exact HR740_0.out)) | (with_reducible refine Kd.C_alloc ?_ _) | (with_reducible refine Kd.C_drewN ?_ _) | (with_reducible refine Kd.C_drew ?_))); (case side2 => exact HC740_0.out); rintro e w' ⟨rfl, ⟨nd, rfl⟩⟩; (try first | exact ⟨rfl, _, World.drewN_drewN _ _ _⟩ | exact ⟨rfl, _, Eq.trans (World.drewN_drewN _ _ _) (congrArg (World.drewN _) (Nat.add_assoc _ _ _))⟩); have p743 : 0 ≤ (x70_3 : Int) := of_decide_eq_true (by first | (with_reducible assumption) | assumption); have q743 : x70_3 < (t726.length : Int) := of_decide_eq_true (by first | (with_reducible assumption) | assumption); obtain ⟨ad743, A743_0, c743_0, e743, hx743_0, hl743_0, hi743_0⟩ := at_L9 (Kd.S_reads' HO_8.out).2.2 x70_3 p743 q743; obtain rfl : ad739 = ad743 := (by injection e743); obtain ⟨ce743, hce743, hMe743, hcc743⟩ := Kd.S_get HO_8.out [] x70_3 p743 (by first | exact q743 | exact of_decide_eq_true (by first | (with_reducible assumption) | assumption) | (have e_ := (Kd.S_reads' HO_8.out).1; omega)); obtain ⟨ve743_0, rfl, ge743_0⟩ := hMe743; have hv743_0 := hcc743 0 _ rfl; rw [Nat.add_zero, show ((Kd.slice 5 (Kd.int .u8))).sz = 1 from rfl, Nat.mul_one] at hv743_0; replace hv743_0 := Option.some.inj (hv743_0.symm.trans hx743_0); rw [hv743_0] at ge743_0; have HL743_0 := Aside0.mk (show Kd.R (Kd.int .u8) 5 _ _ _ _ (rd_L9 t726 x70_3) from ge743_0); clear hv743_0 ge743_0; clear hcc743 hce743; have HR743_0 := Aside0.mk hi743_0; have HC743_0 := Aside0.mk hl743_0; clear hi743_0 hl743_0; replace p743 := eq_true p743; replace q743 := eq_true q743; have p744 : 0 ≤ (x78_4 : Int) := of_decide_eq_true (by first | (with_reducible assumption) | assumption); have q744 : x78_4 < ((rd_L9 t726 x70_3).length : Int) := of_decide_eq_true (by first | (with_reducible assumption) | assumption); obtain ⟨ad744, e744, hx744_0⟩ := Kd.at_int (by repeat (first | (with_reducible exact HR743_0.out) | (with_reducible refine Kd.C_alloc ?_ _) | (with_reducible refine Kd.C_drewN ?_ _) | (with_reducible refine Kd.C_drew ?_) | exact HR743_0.out)) x78_4 p744 q744; cases e744; replace p744 := eq_true p744; replace q744 := eq_true q744)); try go_wp2_with (first | (go_at_call 50; (with_reducible refine (inquestref07_Value.calls k4 _ _ (rd_L9 t730 x70_3) (rd t719 x78_4) t742 _ ?side1 ?side2 A79.out).mono ?_); (case side1 => repeat (first | exact (by repeat (first | (with_reducible exact HR740_0.out) | (with_reducible refine Kd.C_alloc ?_ _) | (with_reducible refine Kd.C_drewN ?_ _) | (with_reducible refine Kd.C_drew ?_) | exact HR740_0.out)) | (with_reducible refine Kd.C_alloc ?_ _) | (with_reducible refine Kd.C_drewN ?_ _) | (with_reducible refine Kd.C_drew ?_))); (case side2 => exact HC740_0.out); rintro e w' ⟨rfl, ⟨nd, rfl⟩⟩; (try first | exact ⟨rfl, _, World.drewN_drewN _ _ _⟩ | exact ⟨rfl, _, Eq.trans (World.drewN_drewN _ _ _) (congrArg (World.drewN _) (Nat.add_assoc _ _ _))⟩); have p743 : 0 ≤ (x70_3 : Int) := of_decide_eq_true (by first | (with_reducible assumption) | assumption); have q743 : x70_3 < (t726.length : Int) := of_decide_eq_true (by first | (with_reducible assumption) | assumption); obtain ⟨ad743, A743_0, c743_0, e743, hx743_0, hl743_0, hi743_0⟩ := at_L9 (Kd.S_reads' HO_8.out).2.2 x70_3 p743 q743; obtain rfl : ad739 = ad743 := (by injection e743); obtain ⟨ce743, hce743, hMe743, hcc743⟩ := Kd.S_get HO_8.out [] x70_3 p743 (by first | exact q743 | exact of_decide_eq_true (by first | (with_reducible assumption) | assumption) | (have e_ := (Kd.S_reads' HO_8.out).1; omega)); obtain ⟨ve743_0, rfl, ge743_0⟩ := hMe743; have hv743_0 := hcc743 0 _ rfl; rw [Nat.add_zero, show ((Kd.slice 5 (Kd.int .u8))).sz = 1 from rfl, Nat.mul_one] at hv743_0; replace hv743_0 := Option.some.inj (hv743_0.symm.trans hx743_0); rw [hv743_0] at ge743_0; have HL743_0 := Aside0.mk (show Kd.R (Kd.int .u8) 5 _ _ _ _ (rd_L9 t726 x70_3) from ge743_0); clear hv743_0 ge743_0; clear hcc743 hce743; have HR743_0 := Aside0.mk hi743_0; have HC743_0 := Aside0.mk hl743_0; clear hi743_0 hl743_0; replace p743 := eq_true p743; replace q743 := eq_true q743; have p744 : 0 ≤ (x78_4 : Int) := of_decide_eq_true (by first | (with_reducible assumption) | assumption); have q744 : x78_4 < ((rd_L9 t726 x70_3).length : Int) := of_decide_eq_true (by first | (with_reducible assumption) | assumption); obtain ⟨ad744, e744, hx744_0⟩ := Kd.at_int (by repeat (first | (with_reducible exact HR743_0.out) | (with_reducible refine Kd.C_alloc ?_ _) | (with_reducible refine Kd.C_drewN ?_ _) | (with_reducible refine Kd.C_drew ?_) | exact HR743_0.out)) x78_4 p744 q744; cases e744; replace p744 := eq_true p744; replace q744 := eq_true q744)))
                          go_roundg k4
                          case measure => have := HJ2.out; have := HJ26.out; have := HK3.out; have := HK4.out; omega
                          case rel => exact ⟨(wrap64 (x78_4 + 1)), (by first | rfl | (simp; done) | (simp [*]; done)), H', ⟨by have := HJ2.out; have := HJ26.out; have := HK3.out; have := HK4.out; omega⟩, ⟨by (with_reducible repeat (first | apply Kd.R_alloc | apply Kd.R_drewN | apply Kd.R_drew)); exact HO_6.out⟩, ⟨by (with_reducible repeat (first | apply Kd.S_alloc | apply Kd.S_drewN | apply Kd.S_drew)); exact HO_8.out⟩, ⟨by (with_reducible repeat (first | apply Kd.S_alloc | apply Kd.S_drewN | apply Kd.S_drew)); exact HO_10.out⟩, ⟨by (with_reducible repeat (first | apply Kd.R_alloc | apply Kd.R_drewN | apply Kd.R_drew)); exact HO_724001.out⟩, ⟨by (with_reducible repeat (first | apply Kd.R_alloc | apply Kd.R_drewN | apply Kd.R_drew)); exact HO_724002.out⟩, ⟨by (with_reducible repeat (first | apply Kd.R_alloc | apply Kd.R_drewN | apply Kd.R_drew)); exact HO_724003.out⟩, ⟨by (with_reducible repeat (first | apply Kd.R_alloc | apply Kd.R_drewN | apply Kd.R_drew)); exact HO_724004.out⟩, ⟨by (with_reducible repeat (first | apply Kd.R_alloc | apply Kd.R_drewN | apply Kd.R_drew)); exact HO_724005.out⟩, ⟨by (with_reducible repeat (first | refine blk_drewN ?_ _ | refine blk_drew ?_ | refine blk_alloc ?_ _)); exact BK698.out⟩, ⟨by (with_reducible repeat (first | refine blk_drewN ?_ _ | refine blk_drew ?_ | refine blk_alloc ?_ _)); exact BK699.out⟩, ⟨by (with_reducible repeat (first | refine blk_drewN ?_ _ | refine blk_drew ?_ | refine blk_alloc ?_ _)); exact BK723.out⟩, ⟨by repeat (first | (with_reducible exact HR739_0.out) | (with_reducible refine Kd.C_alloc ?_ _) | (with_reducible refine Kd.C_drewN ?_ _) | (with_reducible refine Kd.C_drew ?_) | exact HR739_0.out)⟩, ⟨by repeat (first | (with_reducible first | exact HB.out | apply below_alloc | apply pw_below_drewN | apply below_drew1 | refine below_set ?_ GE698.out | refine below_set ?_ GE699.out | refine below_set ?_ GE723.out) | exact HB.out)⟩⟩
                         ·
                          rw [if_neg c82] at H
                          have c82b0 : ((rd (rd_L9 t726 x70_3) x78_4) == 2) = false := beq_eq_false_iff_ne.mpr c82
                          have c82b1 : ((rd (rd_L9 t726 x70_3) x78_4) != 2) = true := bne_iff_ne.mpr c82
                          by_cases c85 : (rd (rd_L9 t726 x70_3) x78_4) = t742
                          ·
                           rw [if_pos c85] at H
                           have c85b0 : ((rd (rd_L9 t726 x70_3) x78_4) == t742) = true := beq_iff_eq.mpr c85
                           have c85b1 : ((rd (rd_L9 t726 x70_3) x78_4) != t742) = false := bne_eq_false_iff_eq.mpr c85
                           clear c85
                           have H' := Aside0.mk H
                           clear H
                           obtain ⟨Ao86, co86, eo86⟩ := Kd.S_slice HO_10.out
                           subst eo86
                           have p740 : 0 ≤ (x70_3 : Int) := of_decide_eq_true (by first | (with_reducible assumption) | assumption)
                           have q740 : x70_3 < (t730.length : Int) := of_decide_eq_true (by first | (with_reducible assumption) | assumption)
                           obtain ⟨ad740, A740_0, c740_0, e740, hx740_0, hl740_0, hi740_0⟩ := at_L9 (Kd.S_reads' HO_10.out).2.2 x70_3 p740 q740
                           cases e740
                           obtain ⟨ce740, hce740, hMe740, hcc740⟩ := Kd.S_get HO_10.out [] x70_3 p740 (by first | exact q740 | exact of_decide_eq_true (by first | (with_reducible assumption) | assumption) | (have e_ := (Kd.S_reads' HO_10.out).1; omega))
                           obtain ⟨ve740_0, rfl, ge740_0⟩ := hMe740
                           have hv740_0 := hcc740 0 _ rfl
                           rw [Nat.add_zero, show ((Kd.slice 5 (Kd.int .u8))).sz = 1 from rfl, Nat.mul_one] at hv740_0
                           replace hv740_0 := Option.some.inj (hv740_0.symm.trans hx740_0)
                           rw [hv740_0] at ge740_0
                           have HL740_0 := Aside0.mk (show Kd.R (Kd.int .u8) 5 _ _ _ _ (rd_L9 t730 x70_3) from ge740_0)
                           clear hv740_0 ge740_0
                           clear hcc740 hce740
                           have HR740_0 := Aside0.mk hi740_0
                           have HC740_0 := Aside0.mk hl740_0
                           clear hi740_0 hl740_0
                           replace p740 := eq_true p740
                           replace q740 := eq_true q740
                           obtain ⟨Ao87, co87, eo87⟩ := Kd.R_slice HO_6.out
                           subst eo87
                           have p741 : 0 ≤ (x78_4 : Int) := of_decide_eq_true (by first | (with_reducible assumption) | assumption)
                           have q741 : x78_4 < (t719.length : Int) := of_decide_eq_true (by first | (with_reducible assumption) | assumption)
                           obtain ⟨ad741, e741, hx741_0⟩ := Kd.at_int (Kd.R_reads' HO_6.out).2.2 x78_4 p741 q741
                           cases e741
                           replace p741 := eq_true p741
                           replace q741 := eq_true q741
                           go_wp2_with (first | (go_at_call 50; (with_reducible refine (inquestref07_Value.calls k4 _ _ (rd_L9 t730 x70_3) (rd t719 x78_4) t742 _ ?side1 ?side2 A79.out).mono ?_); (case side1 => repeat (first | exact (by repeat (first | (with_reducible exact HR740_0.out) | (with_reducible refine Kd.C_alloc ?_ _) | (with_reducible refine Kd.C_drewN ?_ _) | (with_reducible refine Kd.C_drew ?_) | exact HR740_0.out)) | (with_reducible refine Kd.C_alloc ?_ _) | (with_reducible refine Kd.C_drewN ?_ _) | (with_reducible refine Kd.C_drew ?_))); (case side2 => exact HC740_0.out); rintro e w' ⟨rfl, ⟨nd, rfl⟩⟩; (try first | exact ⟨rfl, _, World.drewN_drewN _ _ _⟩ | exact ⟨rfl, _, Eq.trans (World.drewN_drewN _ _ _) (congrArg (World.drewN _) (Nat.add_assoc _ _ _))⟩); have p743 : 0 ≤ (x70_3 : Int) := of_decide_eq_true (by first | (with_reducible assumption) | assumption); have q743 : x70_3 < (t726.length : Int) := of_decide_eq_true (by first | (with_reducible assumption) | assumption); obtain ⟨ad743, A743_0, c743_0, e743, hx743_0, hl743_0, hi743_0⟩ := at_L9 (Kd.S_reads' HO_8.out).2.2 x70_3 p743 q743; obtain rfl : ad739 = ad743 := (by injection e743); obtain ⟨ce743, hce743, hMe743, hcc743⟩ := Kd.S_get HO_8.out [] x70_3 p743 (by first | exact q743 | exact of_decide_eq_true (by first | (with_reducible assumption) | assumption) | (have e_ := (Kd.S_reads' HO_8.out).1; omega)); obtain ⟨ve743_0, rfl, ge743_0⟩ := hMe743; have hv743_0 := hcc743 0 _ rfl; rw [Nat.add_zero, show ((Kd.slice 5 (Kd.int .u8))).sz = 1 from rfl, Nat.mul_one] at hv743_0; replace hv743_0 := Option.some.inj (hv743_0.symm.trans hx743_0); rw [hv743_0] at ge743_0; have HL743_0 := Aside0.mk (show Kd.R (Kd.int .u8) 5 _ _ _ _ (rd_L9 t726 x70_3) from ge743_0); clear hv743_0 ge743_0; clear hcc743 hce743; have HR743_0 := Aside0.mk hi743_0; have HC743_0 := Aside0.mk hl743_0; clear hi743_0 hl743_0; replace p743 := eq_true p743; replace q743 := eq_true q743; have p744 : 0 ≤ (x78_4 : Int) := of_decide_eq_true (by first | (with_reducible assumption) | assumption); have q744 : x78_4 < ((rd_L9 t726 x70_3).length : Int) := of_decide_eq_true (by first | (with_reducible assumption) | assumption); obtain ⟨ad744, e744, hx744_0⟩ := Kd.at_int (by repeat (first | (with_reducible exact HR743_0.out) | (with_reducible refine Kd.C_alloc ?_ _) | (with_reducible refine Kd.C_drewN ?_ _) | (with_reducible refine Kd.C_drew ?_) | exact HR743_0.out)) x78_4 p744 q744; cases e744; replace p744 := eq_true p744; replace q744 := eq_true q744; have p745 : 0 ≤ (x70_3 : Int) := of_decide_eq_true (by first | (with_reducible assumption) | assumption); have q745 : x70_3 < (t726.length : Int) := of_decide_eq_true (by first | (with_reducible assumption) | assumption); obtain ⟨ad745, A745_0, c745_0, e745, hx745_0, hl745_0, hi745_0⟩ := at_L9 (Kd.S_reads' HO_8.out).2.2 x70_3 p745 q745; obtain rfl : ad739 = ad745 := (by injection e745); obtain ⟨ce745, hce745, hMe745, hcc745⟩ := Kd.S_get HO_8.out [] x70_3 p745 (by first | exact q745 | exact of_decide_eq_true (by first | (with_reducible assumption) | assumption) | (have e_ := (Kd.S_reads' HO_8.out).1; omega)); obtain ⟨ve745_0, rfl, ge745_0⟩ := hMe745; have hv745_0 := hcc745 0 _ rfl; rw [Nat.add_zero, show ((Kd.slice 5 (Kd.int .u8))).sz = 1 from rfl, Nat.mul_one] at hv745_0; replace hv745_0 := Option.some.inj (hv745_0.symm.trans hx745_0); rw [hv745_0] at ge745_0; have HL745_0 := Aside0.mk (show Kd.R (Kd.int .u8) 5 _ _ _ _ (rd_L9 t726 x70_3) from ge745_0); clear hv745_0 ge745_0; clear hcc745 hce745; have HR745_0 := Aside0.mk hi745_0; have HC745_0 := Aside0.mk hl745_0; clear hi745_0 hl745_0; replace p745 := eq_true p745; replace q745 := eq_true q745; have ea_ := Option.some.inj (hx743_0.symm.trans hx745_0); injection ea_ with ea_ en_ ec_; subst ea_; subst ec_; clear en_; have p746 : 0 ≤ (x78_4 : Int) := of_decide_eq_true (by first | (with_reducible assumption) | assumption); have q746 : x78_4 < ((rd_L9 t726 x70_3).length : Int) := of_decide_eq_true (by first | (with_reducible assumption) | assumption); obtain ⟨ad746, e746, hx746_0⟩ := Kd.at_int (by repeat (first | (with_reducible exact HR745_0.out) | (with_reducible refine Kd.C_alloc ?_ _) | (with_reducible refine Kd.C_drewN ?_ _) | (with_reducible refine Kd.C_drew ?_) | exact HR745_0.out)) x78_4 p746 q746; cases e746; replace p746 := eq_true p746; replace q746 := eq_true q746))
                           repeat (go_quiet (first | (go_at_call 50; (with_reducible refine (inquestref07_Value.calls k4 _ _ (rd_L9 t730 x70_3) (rd t719 x78_4) t742 _ ?side1 ?side2 A79.out).mono ?_); (case side1 => repeat (first | exact (by repeat (first | (with_reducible exact HR740_0.out) | (with_reducible refine Kd.C_alloc ?_ _) | (with_reducible refine Kd.C_drewN ?_ _) | (with_reducible refine Kd.C_drew ?_) | exact HR740_0.out)) | (with_reducible refine Kd.C_alloc ?_ _) | (with_reducible refine Kd.C_drewN ?_ _) | (with_reducible refine Kd.C_drew ?_))); (case side2 => exact HC740_0.out); rintro e w' ⟨rfl, ⟨nd, rfl⟩⟩; (try first | exact ⟨rfl, _, World.drewN_drewN _ _ _⟩ | exact ⟨rfl, _, Eq.trans (World.drewN_drewN _ _ _) (congrArg (World.drewN _) (Nat.add_assoc _ _ _))⟩); have p743 : 0 ≤ (x70_3 : Int) := of_decide_eq_true (by first | (with_reducible assumption) | assumption); have q743 : x70_3 < (t726.length : Int) := of_decide_eq_true (by first | (with_reducible assumption) | assumption); obtain ⟨ad743, A743_0, c743_0, e743, hx743_0, hl743_0, hi743_0⟩ := at_L9 (Kd.S_reads' HO_8.out).2.2 x70_3 p743 q743; obtain rfl : ad739 = ad743 := (by injection e743); obtain ⟨ce743, hce743, hMe743, hcc743⟩ := Kd.S_get HO_8.out [] x70_3 p743 (by first | exact q743 | exact of_decide_eq_true (by first | (with_reducible assumption) | assumption) | (have e_ := (Kd.S_reads' HO_8.out).1; omega)); obtain ⟨ve743_0, rfl, ge743_0⟩ := hMe743; have hv743_0 := hcc743 0 _ rfl; rw [Nat.add_zero, show ((Kd.slice 5 (Kd.int .u8))).sz = 1 from rfl, Nat.mul_one] at hv743_0; replace hv743_0 := Option.some.inj (hv743_0.symm.trans hx743_0); rw [hv743_0] at ge743_0; have HL743_0 := Aside0.mk (show Kd.R (Kd.int .u8) 5 _ _ _ _ (rd_L9 t726 x70_3) from ge743_0); clear hv743_0 ge743_0; clear hcc743 hce743; have HR743_0 := Aside0.mk hi743_0; have HC743_0 := Aside0.mk hl743_0; clear hi743_0 hl743_0; replace p743 := eq_true p743; replace q743 := eq_true q743; have p744 : 0 ≤ (x78_4 : Int) := of_decide_eq_true (by first | (with_reducible assumption) | assumption); have q744 : x78_4 < ((rd_L9 t726 x70_3).length : Int) := of_decide_eq_true (by first | (with_reducible assumption) | assumption); obtain ⟨ad744, e744, hx744_0⟩ := Kd.at_int (by repeat (first | (with_reducible exact HR743_0.out) | (with_reducible refine Kd.C_alloc ?_ _) | (with_reducible refine Kd.C_drewN ?_ _) | (with_reducible refine Kd.C_drew ?_) | exact HR743_0.out)) x78_4 p744 q744; cases e744; replace p744 := eq_true p744; replace q744 := eq_true q744; have p745 : 0 ≤ (x70_3 : Int) := of_decide_eq_true (by first | (with_reducible assumption) | assumption); have q745 : x70_3 < (t726.length : Int) := of_decide_eq_true (by first | (with_reducible assumption) | assumption); obtain ⟨ad745, A745_0, c745_0, e745, hx745_0, hl745_0, hi745_0⟩ := at_L9 (Kd.S_reads' HO_8.out).2.2 x70_3 p745 q745; obtain rfl : ad739 = ad745 := (by injection e745); obtain ⟨ce745, hce745, hMe745, hcc745⟩ := Kd.S_get HO_8.out [] x70_3 p745 (by first | exact q745 | exact of_decide_eq_true (by first | (with_reducible assumption) | assumption) | (have e_ := (Kd.S_reads' HO_8.out).1; omega)); obtain ⟨ve745_0, rfl, ge745_0⟩ := hMe745; have hv745_0 := hcc745 0 _ rfl; rw [Nat.add_zero, show ((Kd.slice 5 (Kd.int .u8))).sz = 1 from rfl, Nat.mul_one] at hv745_0; replace hv745_0 := Option.some.inj (hv745_0.symm.trans hx745_0); rw [hv745_0] at ge745_0; have HL745_0 := Aside0.mk (show Kd.R (Kd.int .u8) 5 _ _ _ _ (rd_L9 t726 x70_3) from ge745_0); clear hv745_0 ge745_0; clear hcc745 hce745; have HR745_0 := Aside0.mk hi745_0; have HC745_0 := Aside0.mk hl745_0; clear hi745_0 hl745_0; replace p745 := eq_true p745; replace q745 := eq_true q745; have ea_ := Option.some.inj (hx743_0.symm.trans hx745_0); injection ea_ with ea_ en_ ec_; subst ea_; subst ec_; clear en_; have p746 : 0 ≤ (x78_4 : Int) := of_decide_eq_true (by first | (with_reducible assumption) | assumption); have q746 : x78_4 < ((rd_L9 t726 x70_3).length : Int) := of_decide_eq_true (by first | (with_reducible assumption) | assumption); obtain ⟨ad746, e746, hx746_0⟩ := Kd.at_int (by repeat (first | (with_reducible exact HR745_0.out) | (with_reducible refine Kd.C_alloc ?_ _) | (with_reducible refine Kd.C_drewN ?_ _) | (with_reducible refine Kd.C_drew ?_) | exact HR745_0.out)) x78_4 p746 q746; cases e746; replace p746 := eq_true p746; replace q746 := eq_true q746)); try go_wp2_with (first | (go_at_call 50; (with_reducible refine (inquestref07_Value.calls k4 _ _ (rd_L9 t730 x70_3) (rd t719 x78_4) t742 _ ?side1 ?side2 A79.out).mono ?_); (case side1 => repeat (first | exact (by repeat (first | (with_reducible exact HR740_0.out) | (with_reducible refine Kd.C_alloc ?_ _) | (with_reducible refine Kd.C_drewN ?_ _) | (with_reducible refine Kd.C_drew ?_) | exact HR740_0.out)) | (with_reducible refine Kd.C_alloc ?_ _) | (with_reducible refine Kd.C_drewN ?_ _) | (with_reducible refine Kd.C_drew ?_))); (case side2 => exact HC740_0.out); rintro e w' ⟨rfl, ⟨nd, rfl⟩⟩; (try first | exact ⟨rfl, _, World.drewN_drewN _ _ _⟩ | exact ⟨rfl, _, Eq.trans (World.drewN_drewN _ _ _) (congrArg (World.drewN _) (Nat.add_assoc _ _ _))⟩); have p743 : 0 ≤ (x70_3 : Int) := of_decide_eq_true (by first | (with_reducible assumption) | assumption); have q743 : x70_3 < (t726.length : Int) := of_decide_eq_true (by first | (with_reducible assumption) | assumption); obtain ⟨ad743, A743_0, c743_0, e743, hx743_0, hl743_0, hi743_0⟩ := at_L9 (Kd.S_reads' HO_8.out).2.2 x70_3 p743 q743; obtain rfl : ad739 = ad743 := (by injection e743); obtain ⟨ce743, hce743, hMe743, hcc743⟩ := Kd.S_get HO_8.out [] x70_3 p743 (by first | exact q743 | exact of_decide_eq_true (by first | (with_reducible assumption) | assumption) | (have e_ := (Kd.S_reads' HO_8.out).1; omega)); obtain ⟨ve743_0, rfl, ge743_0⟩ := hMe743; have hv743_0 := hcc743 0 _ rfl; rw [Nat.add_zero, show ((Kd.slice 5 (Kd.int .u8))).sz = 1 from rfl, Nat.mul_one] at hv743_0; replace hv743_0 := Option.some.inj (hv743_0.symm.trans hx743_0); rw [hv743_0] at ge743_0; have HL743_0 := Aside0.mk (show Kd.R (Kd.int .u8) 5 _ _ _ _ (rd_L9 t726 x70_3) from ge743_0); clear hv743_0 ge743_0; clear hcc743 hce743; have HR743_0 := Aside0.mk hi743_0; have HC743_0 := Aside0.mk hl743_0; clear hi743_0 hl743_0; replace p743 := eq_true p743; replace q743 := eq_true q743; have p744 : 0 ≤ (x78_4 : Int) := of_decide_eq_true (by first | (with_reducible assumption) | assumption); have q744 : x78_4 < ((rd_L9 t726 x70_3).length : Int) := of_decide_eq_true (by first | (with_reducible assumption) | assumption); obtain ⟨ad744, e744, hx744_0⟩ := Kd.at_int (by repeat (first | (with_reducible exact HR743_0.out) | (with_reducible refine Kd.C_alloc ?_ _) | (with_reducible refine Kd.C_drewN ?_ _) | (with_reducible refine Kd.C_drew ?_) | exact HR743_0.out)) x78_4 p744 q744; cases e744; replace p744 := eq_true p744; replace q744 := eq_true q744; have p745 : 0 ≤ (x70_3 : Int) := of_decide_eq_true (by first | (with_reducible assumption) | assumption); have q745 : x70_3 < (t726.length : Int) := of_decide_eq_true (by first | (with_reducible assumption) | assumption); obtain ⟨ad745, A745_0, c745_0, e745, hx745_0, hl745_0, hi745_0⟩ := at_L9 (Kd.S_reads' HO_8.out).2.2 x70_3 p745 q745; obtain rfl : ad739 = ad745 := (by injection e745); obtain ⟨ce745, hce745, hMe745, hcc745⟩ := Kd.S_get HO_8.out [] x70_3 p745 (by first | exact q745 | exact of_decide_eq_true (by first | (with_reducible assumption) | assumption) | (have e_ := (Kd.S_reads' HO_8.out).1; omega)); obtain ⟨ve745_0, rfl, ge745_0⟩ := hMe745; have hv745_0 := hcc745 0 _ rfl; rw [Nat.add_zero, show ((Kd.slice 5 (Kd.int .u8))).sz = 1 from rfl, Nat.mul_one] at hv745_0; replace hv745_0 := Option.some.inj (hv745_0.symm.trans hx745_0); rw [hv745_0] at ge745_0; have HL745_0 := Aside0.mk (show Kd.R (Kd.int .u8) 5 _ _ _ _ (rd_L9 t726 x70_3) from ge745_0); clear hv745_0 ge745_0; clear hcc745 hce745; have HR745_0 := Aside0.mk hi745_0; have HC745_0 := Aside0.mk hl745_0; clear hi745_0 hl745_0; replace p745 := eq_true p745; replace q745 := eq_true q745; have ea_ := Option.some.inj (hx743_0.symm.trans hx745_0); injection ea_ with ea_ en_ ec_; subst ea_; subst ec_; clear en_; have p746 : 0 ≤ (x78_4 : Int) := of_decide_eq_true (by first | (with_reducible assumption) | assumption); have q746 : x78_4 < ((rd_L9 t726 x70_3).length : Int) := of_decide_eq_true (by first | (with_reducible assumption) | assumption); obtain ⟨ad746, e746, hx746_0⟩ := Kd.at_int (by repeat (first | (with_reducible exact HR745_0.out) | (with_reducible refine Kd.C_alloc ?_ _) | (with_reducible refine Kd.C_drewN ?_ _) | (with_reducible refine Kd.C_drew ?_) | exact HR745_0.out)) x78_4 p746 q746; cases e746; replace p746 := eq_true p746; replace q746 := eq_true q746)))
                           go_roundg k4
                           case measure => have := HJ2.out; have := HJ26.out; have := HK3.out; have := HK4.out; omega
                           case rel => exact ⟨(wrap64 (x78_4 + 1)), (by first | rfl | (simp; done) | (simp [*]; done)), H', ⟨by have := HJ2.out; have := HJ26.out; have := HK3.out; have := HK4.out; omega⟩, ⟨by (with_reducible repeat (first | apply Kd.R_alloc | apply Kd.R_drewN | apply Kd.R_drew)); exact HO_6.out⟩, ⟨by (with_reducible repeat (first | apply Kd.S_alloc | apply Kd.S_drewN | apply Kd.S_drew)); exact HO_8.out⟩, ⟨by (with_reducible repeat (first | apply Kd.S_alloc | apply Kd.S_drewN | apply Kd.S_drew)); exact HO_10.out⟩, ⟨by (with_reducible repeat (first | apply Kd.R_alloc | apply Kd.R_drewN | apply Kd.R_drew)); exact HO_724001.out⟩, ⟨by (with_reducible repeat (first | apply Kd.R_alloc | apply Kd.R_drewN | apply Kd.R_drew)); exact HO_724002.out⟩, ⟨by (with_reducible repeat (first | apply Kd.R_alloc | apply Kd.R_drewN | apply Kd.R_drew)); exact HO_724003.out⟩, ⟨by (with_reducible repeat (first | apply Kd.R_alloc | apply Kd.R_drewN | apply Kd.R_drew)); exact HO_724004.out⟩, ⟨by (with_reducible repeat (first | apply Kd.R_alloc | apply Kd.R_drewN | apply Kd.R_drew)); exact HO_724005.out⟩, ⟨by (with_reducible repeat (first | refine blk_drewN ?_ _ | refine blk_drew ?_ | refine blk_alloc ?_ _)); exact BK698.out⟩, ⟨by (with_reducible repeat (first | refine blk_drewN ?_ _ | refine blk_drew ?_ | refine blk_alloc ?_ _)); exact BK699.out⟩, ⟨by (with_reducible repeat (first | refine blk_drewN ?_ _ | refine blk_drew ?_ | refine blk_alloc ?_ _)); exact BK723.out⟩, ⟨by repeat (first | (with_reducible exact HR739_0.out) | (with_reducible refine Kd.C_alloc ?_ _) | (with_reducible refine Kd.C_drewN ?_ _) | (with_reducible refine Kd.C_drew ?_) | exact HR739_0.out)⟩, ⟨by repeat (first | (with_reducible first | exact HB.out | apply below_alloc | apply pw_below_drewN | apply below_drew1 | refine below_set ?_ GE698.out | refine below_set ?_ GE699.out | refine below_set ?_ GE723.out) | exact HB.out)⟩⟩
                          ·
                           rw [if_neg c85] at H
                           have c85b0 : ((rd (rd_L9 t726 x70_3) x78_4) == t742) = false := beq_eq_false_iff_ne.mpr c85
                           have c85b1 : ((rd (rd_L9 t726 x70_3) x78_4) != t742) = true := bne_iff_ne.mpr c85
                           exact absurd (hrt.out.symm.trans (Option.some.inj H).symm) (by decide)
                        ·
                         rw [if_neg c81] at H
                         exact absurd H (by simp)
                       ·
                        rw [if_neg c80] at H
                        exact absurd H (by simp)
                      ·
                       rw [if_neg c78] at H
                       exact absurd H (by simp)
                     ·
                      rw [if_neg c77] at H
                      exact absurd H (by simp)
                    ·
                     rw [if_neg c76] at H
                     exact absurd H (by simp)
                   ·
                    rw [if_neg c75] at H
                    exact absurd H (by simp)
                  ·
                   rw [if_neg c74] at H
                   have c74b0 : decide (x78_4 < ((rd_L9 t726 x70_3).length : Int)) = false := decide_eq_false c74
                   clear c74
                   have H' := Aside0.mk H
                   clear H
                   go_wp2
                   repeat (go_quiet (fail); try go_wp2)
                   go_roundg k4
                   case measure => have := HJ2.out; have := HJ26.out; have := HK3.out; have := HK4.out; omega
                   case rel => exact ⟨(wrap64 (x70_3 + 1)), (by first | rfl | (simp; done) | (simp [*]; done)), H', ⟨by have := HJ2.out; have := HJ26.out; have := HK3.out; have := HK4.out; omega⟩, ⟨by exact HO_6.out⟩, ⟨by exact HO_8.out⟩, ⟨by exact HO_10.out⟩, ⟨by exact HO_724001.out⟩, ⟨by exact HO_724002.out⟩, ⟨by exact HO_724003.out⟩, ⟨by exact HO_724004.out⟩, ⟨by exact HO_724005.out⟩, ⟨by exact BK698.out⟩, ⟨by exact BK699.out⟩, ⟨by exact BK723.out⟩, ⟨by exact HB.out⟩⟩
              ·
               rw [if_neg c73] at H
               exact absurd H (by simp)
             ·
              rw [if_neg c72] at H
              exact absurd H (by simp)
            ·
             rw [if_neg c71] at H
             have c71b0 : decide (x70_3 < (t726.length : Int)) = false := decide_eq_false c71
             clear c71
             replace H := Option.bind_eq_some_iff.mp H
             obtain ⟨⟨t734, t735⟩, A900, H⟩ := H
             replace H : ((inquestref07_Fails.f k3 t703 t704 t707 t710 t713 t716 a1_0 l1_1 l1_2).bind fun bt736 => (if bt736.2 = 0 then (if (t734 == bt736.1) = true then ((inquestlaw24_lives.f k3).bind fun t738 => (some t738)) else (some false)) else (some false))) = some r := H
             have A90 := Aside0.mk A900
             clear A900
             replace H := Option.bind_eq_some_iff.mp H
             obtain ⟨⟨t736, t737⟩, A910, H⟩ := H
             replace H : (if t737 = 0 then (if (t734 == t736) = true then ((inquestlaw24_lives.f k3).bind fun t738 => (some t738)) else (some false)) else (some false)) = some r := H
             have A91 := Aside0.mk A910
             clear A910
             by_cases c92 : t737 = 0
             ·
              rw [if_pos c92] at H
              have c92b0 : (t737 == 0) = true := beq_iff_eq.mpr c92
              have c92b1 : (t737 != 0) = false := bne_eq_false_iff_eq.mpr c92
              clear c92
              by_cases c93 : (t734 == t736) = true
              ·
               rw [if_pos c93] at H
               have c93b0 : (t734 == t736) = true := c93
               (try (have c93b1 : decide (t734 = t736) = true := by simpa using c93))
               (try (have c93b2 : (t734 == t736) = true := by simpa using c93))
               clear c93
               replace H := Option.bind_eq_some_iff.mp H
               obtain ⟨t738, A940, H⟩ := H
               replace H : (some t738) = some r := H
               have A94 := Aside0.mk A940
               clear A940
               obtain rfl := Option.some.inj H
               have hnb95 := NB698_699.out
               have hnc95 := NB699_698.out
               have hnb96 := NB698_723.out
               have hnc96 := NB723_698.out
               have hcz97_0 : wr.cell? ⟨gb698, 0, none⟩ = some (.int .i64 a0_0) := (blk_cell BK698.out 0).trans rfl
               have hcz97_1 : wr.cell? ⟨gb698, 1, none⟩ = some (.slice A0_1 l0_1.length c0_1) := (blk_cell BK698.out 1).trans rfl
               have hcz97_2 : wr.cell? ⟨gb698, 2, none⟩ = some (.slice A0_2 l0_2.length c0_2) := (blk_cell BK698.out 2).trans rfl
               have hcz97_3 : wr.cell? ⟨gb698, 3, none⟩ = some (.slice A0_3 l0_3.length c0_3) := (blk_cell BK698.out 3).trans rfl
               have hcz97_4 : wr.cell? ⟨gb698, 4, none⟩ = some (.slice A0_4 l0_4.length c0_4) := (blk_cell BK698.out 4).trans rfl
               have hcz97_5 : wr.cell? ⟨gb698, 5, none⟩ = some (.slice A0_5 l0_5.length c0_5) := (blk_cell BK698.out 5).trans rfl
               have hfz97_0 := blk_frozen BK698.out 0
               have hfz97_1 := blk_frozen BK698.out 1
               have hfz97_2 := blk_frozen BK698.out 2
               have hfz97_3 := blk_frozen BK698.out 3
               have hfz97_4 := blk_frozen BK698.out 4
               have hfz97_5 := blk_frozen BK698.out 5
               have hnb98 := NB699_723.out
               have hnc98 := NB723_699.out
               have hcz99_0 : wr.cell? ⟨gb699, 0, none⟩ = some (.int .i64 a1_0) := (blk_cell BK699.out 0).trans rfl
               have hcz99_1 : wr.cell? ⟨gb699, 1, none⟩ = some (.slice A1_1 l1_1.length c1_1) := (blk_cell BK699.out 1).trans rfl
               have hcz99_2 : wr.cell? ⟨gb699, 2, none⟩ = some (.slice A1_2 l1_2.length c1_2) := (blk_cell BK699.out 2).trans rfl
               have hfz99_0 := blk_frozen BK699.out 0
               have hfz99_1 := blk_frozen BK699.out 1
               have hfz99_2 := blk_frozen BK699.out 2
               go_wp2_with (first | (go_at_call 51; (with_reducible refine (inquestref07_Fails.calls k3 a0_0 _ _ l0_1 _ _ l0_2 _ _ l0_3 _ _ l0_4 _ _ l0_5 a1_0 _ _ l1_1 _ _ l1_2 t734 t735 _ ?side1 ?side2 ?side3 ?side4 ?side5 ?side6 ?side7 ?side8 ?side9 ?side10 ?side11 ?side12 ?side13 ?side14 A90.out).mono ?_); (case side1 => exact (Kd.C_below HR0_1.out HB.out)); (case side2 => exact HC0_1.out); (case side3 => exact (Kd.C_below HR0_2.out HB.out)); (case side4 => exact HC0_2.out); (case side5 => exact (Kd.C_below HR0_3.out HB.out)); (case side6 => exact HC0_3.out); (case side7 => exact (Kd.C_below HR0_4.out HB.out)); (case side8 => exact HC0_4.out); (case side9 => exact (Kd.C_below HR0_5.out HB.out)); (case side10 => exact HC0_5.out); (case side11 => exact (Kd.C_below HR1_1.out HB.out)); (case side12 => exact HC1_1.out); (case side13 => exact (Kd.C_below HR1_2.out HB.out)); (case side14 => exact HC1_2.out); rintro e w100 ⟨rfl, hb⟩; have n0_ := Aside0.mk (Kd.R_below (by exact HO_6.out) hb); have n1_ := Aside0.mk (Kd.S_below (by exact HO_8.out) hb); have n2_ := Aside0.mk (Kd.S_below (by exact HO_10.out) hb); have n3_ := Aside0.mk (Kd.R_below (by exact HO_724001.out) hb); have n4_ := Aside0.mk (Kd.R_below (by exact HO_724002.out) hb); have n5_ := Aside0.mk (Kd.R_below (by exact HO_724003.out) hb); have n6_ := Aside0.mk (Kd.R_below (by exact HO_724004.out) hb); have n7_ := Aside0.mk (Kd.R_below (by exact HO_724005.out) hb); have n8_ := Aside0.mk (blk_below (g := gb698) (o := .cells #[.int .i64 a0_0, .slice A0_1 l0_1.length c0_1, .slice A0_2 l0_2.length c0_2, .slice A0_3 l0_3.length c0_3, .slice A0_4 l0_4.length c0_4, .slice A0_5 l0_5.length c0_5] 26 (0, 0)) (by exact BK698.out) hb); have n9_ := Aside0.mk (blk_below (g := gb699) (o := .cells #[.int .i64 a1_0, .slice A1_1 l1_1.length c1_1, .slice A1_2 l1_2.length c1_2] 31 (0, 0)) (by exact BK699.out) hb); have n10_ := Aside0.mk (blk_below (g := gb723) (o := .cells #[.int .i64 t703, .slice Ao35 t704.length co35, .slice Ao36 t707.length co36, .slice Ao37 t710.length co37, .slice Ao38 t713.length co38, .slice Ao39 t716.length co39] 26 (0, 0)) (by exact BK723.out) hb); have n11_ := Aside0.mk (below_step (by exact HB.out) hb); clear HO_6; clear HO_8; clear HO_10; clear HO_724001; clear HO_724002; clear HO_724003; clear HO_724004; clear HO_724005; clear BK698; clear BK699; clear BK723; clear HB; have HO_6 := n0_; have HO_8 := n1_; have HO_10 := n2_; have HO_724001 := n3_; have HO_724002 := n4_; have HO_724003 := n5_; have HO_724004 := n6_; have HO_724005 := n7_; have BK698 := n8_; have BK699 := n9_; have BK723 := n10_; have HB := n11_; clear n0_ n1_ n2_ n3_ n4_ n5_ n6_ n7_ n8_ n9_ n10_ n11_; (try clear hb); (try clear hb2); (try clear hk); (try clear hi); have hcz101_0 : w100.cell? ⟨gb723, 0, none⟩ = some (.int .i64 t703) := (blk_cell BK723.out 0).trans rfl; have hcz101_1 : w100.cell? ⟨gb723, 1, none⟩ = some (.slice Ao35 t704.length co35) := (blk_cell BK723.out 1).trans rfl; have hcz101_2 : w100.cell? ⟨gb723, 2, none⟩ = some (.slice Ao36 t707.length co36) := (blk_cell BK723.out 2).trans rfl; have hcz101_3 : w100.cell? ⟨gb723, 3, none⟩ = some (.slice Ao37 t710.length co37) := (blk_cell BK723.out 3).trans rfl; have hcz101_4 : w100.cell? ⟨gb723, 4, none⟩ = some (.slice Ao38 t713.length co38) := (blk_cell BK723.out 4).trans rfl; have hcz101_5 : w100.cell? ⟨gb723, 5, none⟩ = some (.slice Ao39 t716.length co39) := (blk_cell BK723.out 5).trans rfl; have hfz101_0 := blk_frozen BK723.out 0; have hfz101_1 := blk_frozen BK723.out 1; have hfz101_2 := blk_frozen BK723.out 2; have hfz101_3 := blk_frozen BK723.out 3; have hfz101_4 := blk_frozen BK723.out 4; have hfz101_5 := blk_frozen BK723.out 5; have hcz102_0 : w100.cell? ⟨gb699, 0, none⟩ = some (.int .i64 a1_0) := (blk_cell BK699.out 0).trans rfl; have hcz102_1 : w100.cell? ⟨gb699, 1, none⟩ = some (.slice A1_1 l1_1.length c1_1) := (blk_cell BK699.out 1).trans rfl; have hcz102_2 : w100.cell? ⟨gb699, 2, none⟩ = some (.slice A1_2 l1_2.length c1_2) := (blk_cell BK699.out 2).trans rfl; have hfz102_0 := blk_frozen BK699.out 0; have hfz102_1 := blk_frozen BK699.out 1; have hfz102_2 := blk_frozen BK699.out 2) | (go_at_call 51; (with_reducible refine (inquestref07_Fails.calls k3 t703 _ _ t704 _ _ t707 _ _ t710 _ _ t713 _ _ t716 a1_0 _ _ l1_1 _ _ l1_2 t736 t737 _ ?side1 ?side2 ?side3 ?side4 ?side5 ?side6 ?side7 ?side8 ?side9 ?side10 ?side11 ?side12 ?side13 ?side14 A91.out).mono ?_); (case side1 => repeat (first | exact (Kd.R_reads' HO_724001.out).2.2 | (with_reducible refine Kd.C_alloc ?_ _) | (with_reducible refine Kd.C_drewN ?_ _) | (with_reducible refine Kd.C_drew ?_))); (case side2 => exact (Kd.R_reads' HO_724001.out).2.1); (case side3 => repeat (first | exact (Kd.R_reads' HO_724002.out).2.2 | (with_reducible refine Kd.C_alloc ?_ _) | (with_reducible refine Kd.C_drewN ?_ _) | (with_reducible refine Kd.C_drew ?_))); (case side4 => exact (Kd.R_reads' HO_724002.out).2.1); (case side5 => repeat (first | exact (Kd.R_reads' HO_724003.out).2.2 | (with_reducible refine Kd.C_alloc ?_ _) | (with_reducible refine Kd.C_drewN ?_ _) | (with_reducible refine Kd.C_drew ?_))); (case side6 => exact (Kd.R_reads' HO_724003.out).2.1); (case side7 => repeat (first | exact (Kd.R_reads' HO_724004.out).2.2 | (with_reducible refine Kd.C_alloc ?_ _) | (with_reducible refine Kd.C_drewN ?_ _) | (with_reducible refine Kd.C_drew ?_))); (case side8 => exact (Kd.R_reads' HO_724004.out).2.1); (case side9 => repeat (first | exact (Kd.R_reads' HO_724005.out).2.2 | (with_reducible refine Kd.C_alloc ?_ _) | (with_reducible refine Kd.C_drewN ?_ _) | (with_reducible refine Kd.C_drew ?_))); (case side10 => exact (Kd.R_reads' HO_724005.out).2.1); (case side11 => exact (Kd.C_below HR1_1.out HB.out)); (case side12 => exact HC1_1.out); (case side13 => exact (Kd.C_below HR1_2.out HB.out)); (case side14 => exact HC1_2.out); rintro e w103 ⟨rfl, hb⟩; have n0_ := Aside0.mk (Kd.R_below (by exact HO_6.out) hb); have n1_ := Aside0.mk (Kd.S_below (by exact HO_8.out) hb); have n2_ := Aside0.mk (Kd.S_below (by exact HO_10.out) hb); have n3_ := Aside0.mk (Kd.R_below (by exact HO_724001.out) hb); have n4_ := Aside0.mk (Kd.R_below (by exact HO_724002.out) hb); have n5_ := Aside0.mk (Kd.R_below (by exact HO_724003.out) hb); have n6_ := Aside0.mk (Kd.R_below (by exact HO_724004.out) hb); have n7_ := Aside0.mk (Kd.R_below (by exact HO_724005.out) hb); have n8_ := Aside0.mk (blk_below (g := gb698) (o := .cells #[.int .i64 a0_0, .slice A0_1 l0_1.length c0_1, .slice A0_2 l0_2.length c0_2, .slice A0_3 l0_3.length c0_3, .slice A0_4 l0_4.length c0_4, .slice A0_5 l0_5.length c0_5] 26 (0, 0)) (by exact BK698.out) hb); have n9_ := Aside0.mk (blk_below (g := gb699) (o := .cells #[.int .i64 a1_0, .slice A1_1 l1_1.length c1_1, .slice A1_2 l1_2.length c1_2] 31 (0, 0)) (by exact BK699.out) hb); have n10_ := Aside0.mk (blk_below (g := gb723) (o := .cells #[.int .i64 t703, .slice Ao35 t704.length co35, .slice Ao36 t707.length co36, .slice Ao37 t710.length co37, .slice Ao38 t713.length co38, .slice Ao39 t716.length co39] 26 (0, 0)) (by exact BK723.out) hb); have n11_ := Aside0.mk (below_step (by exact HB.out) hb); clear HO_6; clear HO_8; clear HO_10; clear HO_724001; clear HO_724002; clear HO_724003; clear HO_724004; clear HO_724005; clear BK698; clear BK699; clear BK723; clear HB; have HO_6 := n0_; have HO_8 := n1_; have HO_10 := n2_; have HO_724001 := n3_; have HO_724002 := n4_; have HO_724003 := n5_; have HO_724004 := n6_; have HO_724005 := n7_; have BK698 := n8_; have BK699 := n9_; have BK723 := n10_; have HB := n11_; clear n0_ n1_ n2_ n3_ n4_ n5_ n6_ n7_ n8_ n9_ n10_ n11_; (try clear hb); (try clear hb2); (try clear hk); (try clear hi)) | (go_at_call 37; (with_reducible refine (inquestlaw24_lives.calls k3  t738 _ A94.out).mono ?_); rintro e w104 ⟨rfl, hb⟩; have n0_ := Aside0.mk (Kd.R_below (by exact HO_6.out) hb); have n1_ := Aside0.mk (Kd.S_below (by exact HO_8.out) hb); have n2_ := Aside0.mk (Kd.S_below (by exact HO_10.out) hb); have n3_ := Aside0.mk (Kd.R_below (by exact HO_724001.out) hb); have n4_ := Aside0.mk (Kd.R_below (by exact HO_724002.out) hb); have n5_ := Aside0.mk (Kd.R_below (by exact HO_724003.out) hb); have n6_ := Aside0.mk (Kd.R_below (by exact HO_724004.out) hb); have n7_ := Aside0.mk (Kd.R_below (by exact HO_724005.out) hb); have n8_ := Aside0.mk (blk_below (g := gb698) (o := .cells #[.int .i64 a0_0, .slice A0_1 l0_1.length c0_1, .slice A0_2 l0_2.length c0_2, .slice A0_3 l0_3.length c0_3, .slice A0_4 l0_4.length c0_4, .slice A0_5 l0_5.length c0_5] 26 (0, 0)) (by exact BK698.out) hb); have n9_ := Aside0.mk (blk_below (g := gb699) (o := .cells #[.int .i64 a1_0, .slice A1_1 l1_1.length c1_1, .slice A1_2 l1_2.length c1_2] 31 (0, 0)) (by exact BK699.out) hb); have n10_ := Aside0.mk (blk_below (g := gb723) (o := .cells #[.int .i64 t703, .slice Ao35 t704.length co35, .slice Ao36 t707.length co36, .slice Ao37 t710.length co37, .slice Ao38 t713.length co38, .slice Ao39 t716.length co39] 26 (0, 0)) (by exact BK723.out) hb); have n11_ := Aside0.mk (below_step (by exact HB.out) hb); clear HO_6; clear HO_8; clear HO_10; clear HO_724001; clear HO_724002; clear HO_724003; clear HO_724004; clear HO_724005; clear BK698; clear BK699; clear BK723; clear HB; have HO_6 := n0_; have HO_8 := n1_; have HO_10 := n2_; have HO_724001 := n3_; have HO_724002 := n4_; have HO_724003 := n5_; have HO_724004 := n6_; have HO_724005 := n7_; have BK698 := n8_; have BK699 := n9_; have BK723 := n10_; have HB := n11_; clear n0_ n1_ n2_ n3_ n4_ n5_ n6_ n7_ n8_ n9_ n10_ n11_; (try clear hb); (try clear hb2); (try clear hk); (try clear hi)))
               repeat (go_quiet (fail); try go_wp2)
               go_ret
               exact ⟨by first | rfl | (simp [errW_none, errW_some] <;> rfl) | (simp [*, errW_none, errW_some] <;> rfl), by exact HB.out⟩
              ·
               rw [if_neg c93] at H
               have c93b0 : (t734 == t736) = false := by simpa using c93
               (try (have c93b1 : decide (t734 = t736) = false := by simpa using c93))
               (try (have c93b2 : (t734 == t736) = false := by simpa using c93))
               (try (have c93b3 : ¬ (t734 = t736) := by simpa using c93))
               clear c93
               exact absurd (hrt.out.symm.trans (Option.some.inj H).symm) (by decide)
             ·
              rw [if_neg c92] at H
              have c92b0 : (t737 == 0) = false := beq_eq_false_iff_ne.mpr c92
              have c92b1 : (t737 != 0) = true := bne_iff_ne.mpr c92
              exact absurd (hrt.out.symm.trans (Option.some.inj H).symm) (by decide)
end Go.Proofs.Yteiiodlgdbiimaa.F
end
