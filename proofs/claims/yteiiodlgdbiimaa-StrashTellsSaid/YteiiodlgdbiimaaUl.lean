/- What the proof of the law StrashTells needs, part 12: the walks of the functions that it reaches, and the plain words on what these compute. -/
import Derived.Test.YteiiodlgdbiimaaUk
section
namespace Go.Proofs.Yteiiodlgdbiimaa.F
open Go.RowKit Go.Proofs.YteiiodlgdbiimaaW.PrintWords Go.Proofs.YteiiodlgdbiimaaW.PrintLast Go.Proofs.YteiiodlgdbiimaaW.PrintMore
attribute [local go_sem] max2_int min2_int max_two min_two max_three min_three max_four min_four
set_option linter.unusedVariables false
set_option linter.unusedSimpArgs false
mutual
def inquestref24_Small.l0 : Nat → List Int → Int → Int → List (S41) → List (S68) → List Int → List Int → List Int → Option (Int × (List (S41)) × (List (S68)) × List Int × List Int × List Int × List Int × Int)
  | 0, _, _, _, _, _, _, _, _ => none
  | k + 1, x5, x6, x456000, x456001, x456002, x456003, x456004, x456005 => (inquestref03_Vars.f k x456000 x456001 x456002 x456003 x456004 x456005).bind fun t457 => (if x6 ≤ t457 then ((inquestref03_May.f k x456000 x456001 x456002 x456003 x456004 x456005).bind fun t458 => (inquestref24_Small.j1 k x5 x6 t458 x456000 x456001 x456002 x456003 x456004 x456005)) else (inquestref24_Small.j1 k x5 x6 false x456000 x456001 x456002 x456003 x456004 x456005))
def inquestref24_Small.j1 : Nat → List Int → Int → Bool → Int → List (S41) → List (S68) → List Int → List Int → List Int → Option (Int × (List (S41)) × (List (S68)) × List Int × List Int × List Int × List Int × Int)
  | 0, _, _, _, _, _, _, _, _, _ => none
  | k + 1, x5, x6, x14, x456000, x456001, x456002, x456003, x456004, x456005 => if x14 = true then (if x6 = 0 then (if x5.length < 140737488355328 then (inquestref24_Small.l0 k (x5 ++ [0]) (wrap64 (x6 + 1)) x456000 x456001 x456002 x456003 x456004 x456005) else (none)) else (if x5.length < 140737488355328 then (inquestref24_Small.l0 k (x5 ++ [2]) (wrap64 (x6 + 1)) x456000 x456001 x456002 x456003 x456004 x456005) else (none))) else ((inquestref24_With.f k x456000 x456001 x456002 x456003 x456004 x456005 x5).bind fun bt465 => (some (bt465.1, bt465.2.1, bt465.2.2.1, bt465.2.2.2.1, bt465.2.2.2.2.1, bt465.2.2.2.2.2.1, bt465.2.2.2.2.2.2.1, bt465.2.2.2.2.2.2.2)))
end
def inquestref24_Small.f (k : Nat) (a0_0 : Int) (l0_1 : List (S41)) (l0_2 : List (S68)) (l0_3 : List Int) (l0_4 : List Int) (l0_5 : List Int) : Option (Int × (List (S41)) × (List (S68)) × List Int × List Int × List Int × List Int × Int) := inquestref24_Small.l0 k ([] : List Int) 0 a0_0 l0_1 l0_2 l0_3 l0_4 l0_5
set_option maxHeartbeats 8000000 in
set_option maxRecDepth 100000 in
theorem inquestref24_Small.calls (k : Nat) (a0_0 : Int) (A0_1 : Option Addr) (c0_1 : Nat) (l0_1 : List (S41)) (A0_2 : Option Addr) (c0_2 : Nat) (l0_2 : List (S68)) (A0_3 : Option Addr) (c0_3 : Nat) (l0_3 : List Int) (A0_4 : Option Addr) (c0_4 : Nat) (l0_4 : List Int) (A0_5 : Option Addr) (c0_5 : Nat) (l0_5 : List Int) (r1 : Int) (r2 : List (S41)) (r3 : List (S68)) (r4 : List Int) (r5 : List Int) (r6 : List Int) (r7 : List Int) (r8 : Int) (w : World) (hr0_1 : Kd.C k41 w A0_1 l0_1.length l0_1) (hc0_1 : l0_1.length ≤ c0_1) (hr0_2 : Kd.C k68 w A0_2 l0_2.length l0_2) (hc0_2 : l0_2.length ≤ c0_2) (hr0_3 : Kd.C (Kd.int .u32) w A0_3 l0_3.length l0_3) (hc0_3 : l0_3.length ≤ c0_3) (hr0_4 : Kd.C (Kd.int .u32) w A0_4 l0_4.length l0_4) (hc0_4 : l0_4.length ≤ c0_4) (hr0_5 : Kd.C (Kd.int .u32) w A0_5 l0_5.length l0_5) (hc0_5 : l0_5.length ≤ c0_5) (h : inquestref24_Small.f k a0_0 l0_1 l0_2 l0_3 l0_4 l0_5 = some (r1, r2, r3, r4, r5, r6, r7, r8)) :
  Calls Try.prog 41 #[.agg #[.int .i64 a0_0, .slice A0_1 l0_1.length c0_1, .slice A0_2 l0_2.length c0_2, .slice A0_3 l0_3.length c0_3, .slice A0_4 l0_4.length c0_4, .slice A0_5 l0_5.length c0_5]] w fun e w' => ∃ v1_ v2_ v3_ v4_ v5_ v6_ : Value, e = .returned (.tuple #[.agg #[.int .i64 r1, v1_, v2_, v3_, v4_, v5_], v6_, .int .i64 r8]) ∧ Kd.R k41 41 w' w.heap.size (fun _ => True) v1_ r2 ∧ Kd.R k68 68 w' w.heap.size (fun _ => True) v2_ r3 ∧ Kd.R (Kd.int .u32) 39 w' w.heap.size (fun k_ => some k_ ≠ (v4_ : Value).ownBlock ∧ some k_ ≠ (v5_ : Value).ownBlock ∧ some k_ ≠ (v6_ : Value).ownBlock) v3_ r4 ∧ Kd.R (Kd.int .u32) 39 w' w.heap.size (fun k_ => some k_ ≠ (v3_ : Value).ownBlock ∧ some k_ ≠ (v5_ : Value).ownBlock ∧ some k_ ≠ (v6_ : Value).ownBlock) v4_ r5 ∧ Kd.R (Kd.int .u32) 39 w' w.heap.size (fun k_ => some k_ ≠ (v3_ : Value).ownBlock ∧ some k_ ≠ (v4_ : Value).ownBlock ∧ some k_ ≠ (v6_ : Value).ownBlock) v5_ r6 ∧ Kd.R (Kd.int .u32) 39 w' w.heap.size (fun k_ => some k_ ≠ (v3_ : Value).ownBlock ∧ some k_ ≠ (v4_ : Value).ownBlock ∧ some k_ ≠ (v5_ : Value).ownBlock) v6_ r7 ∧ Below w.heap.size w w' := by
 have hu26 := Try.underlying26
 have HR0_1 := Aside0.mk hr0_1
 have HC0_1 := Aside0.mk hc0_1
 clear hr0_1 hc0_1
 have HR0_2 := Aside0.mk hr0_2
 have HC0_2 := Aside0.mk hc0_2
 clear hr0_2 hc0_2
 have HR0_3 := Aside0.mk hr0_3
 have HC0_3 := Aside0.mk hc0_3
 clear hr0_3 hc0_3
 have HR0_4 := Aside0.mk hr0_4
 have HC0_4 := Aside0.mk hc0_4
 clear hr0_4 hc0_4
 have HR0_5 := Aside0.mk hr0_5
 have HC0_5 := Aside0.mk hc0_5
 clear hr0_5 hc0_5
 have HB := Aside0.mk (Below.refl w.heap.size w)
 have H : (inquestref24_Small.l0 k ([] : List Int) 0 a0_0 l0_1 l0_2 l0_3 l0_4 l0_5) = some (r1, r2, r3, r4, r5, r6, r7, r8) := h
 clear h
 have H' := Aside0.mk H
 clear H
 go_enter Try.func41, Try.ntmps41
 go_wp2_with (first | ((with_reducible refine gate_dst (N := 1) rfl ?_); refine box_event ?hg (N := 1) ?hd (cs := #[.int .i64 a0_0, .slice A0_1 l0_1.length c0_1, .slice A0_2 l0_2.length c0_2, .slice A0_3 l0_3.length c0_3, .slice A0_4 l0_4.length c0_4, .slice A0_5 l0_5.length c0_5]) (t := 26) ?hr ?_; (case hd => rfl); (case hg => rfl); (case hr => first | (go_simp; done) | (go_simp; rfl)); intro gb455 hg w2 hbox hb; have n0_ := Aside0.mk (below_step (by repeat (first | (with_reducible first | exact HB.out | apply below_alloc | apply pw_below_drewN | apply below_drew1) | exact HB.out)) hb); have n1_ := Aside0.mk (hbox); have n2_ := Aside0.mk ((by rw [hg]; exact (below_size (by repeat (first | (with_reducible first | exact HB.out | apply below_alloc | apply pw_below_drewN | apply below_drew1) | exact HB.out))) : w.heap.size ≤ gb455)); have n3_ := Aside0.mk ((by rw [hg]; exact (below_size (by repeat (first | (with_reducible first | exact HB.out | apply below_alloc | apply pw_below_drewN | apply below_drew1) | exact HB.out))) : w.heap.size ≤ gb455)); clear HB; have HB := n0_; have BK455 := n1_; have GW455 := n2_; have GE455 := n3_; clear n0_ n1_ n2_ n3_; clear hb hbox hg) | ((with_reducible refine gate_dst (N := 2) rfl ?_); refine box_event ?hg (N := 2) ?hd (cs := #[.int .i64 0, .slice none 0 0, .slice none 0 0, .slice none 0 0, .slice none 0 0, .slice none 0 0]) (t := 26) ?hr ?_; (case hd => rfl); (case hg => rfl); (case hr => first | (go_simp; done) | (go_simp; rfl)); intro gb456 hg w3 hbox hb; have n0_ := Aside0.mk (blk_below (g := gb455) (o := .cells #[.int .i64 a0_0, .slice A0_1 l0_1.length c0_1, .slice A0_2 l0_2.length c0_2, .slice A0_3 l0_3.length c0_3, .slice A0_4 l0_4.length c0_4, .slice A0_5 l0_5.length c0_5] 26 (0, 0)) (by (with_reducible repeat (first | refine blk_drewN ?_ _ | refine blk_drew ?_ | refine blk_alloc ?_ _)); exact BK455.out) hb); have n1_ := Aside0.mk (below_step (by repeat (first | (with_reducible first | exact HB.out | apply below_alloc | apply pw_below_drewN | apply below_drew1 | refine below_set ?_ GE455.out) | exact HB.out)) hb); have n2_ := Aside0.mk (hbox); have n3_ := Aside0.mk ((by rw [hg]; exact (below_size (by repeat (first | (with_reducible first | exact HB.out | apply below_alloc | apply pw_below_drewN | apply below_drew1 | refine below_set ?_ GE455.out) | exact HB.out))) : w.heap.size ≤ gb456)); have n4_ := Aside0.mk ((by rw [hg]; exact (below_size (by repeat (first | (with_reducible first | exact HB.out | apply below_alloc | apply pw_below_drewN | apply below_drew1 | refine below_set ?_ GE455.out) | exact HB.out))) : w.heap.size ≤ gb456)); have n5_ := Aside0.mk ((by rw [hg]; exact Nat.ne_of_lt (blk_lt (g := gb455) (o := .cells #[.int .i64 a0_0, .slice A0_1 l0_1.length c0_1, .slice A0_2 l0_2.length c0_2, .slice A0_3 l0_3.length c0_3, .slice A0_4 l0_4.length c0_4, .slice A0_5 l0_5.length c0_5] 26 (0, 0)) (by (with_reducible repeat (first | refine blk_drewN ?_ _ | refine blk_drew ?_ | refine blk_alloc ?_ _)); exact BK455.out)) : gb455 ≠ gb456)); have n6_ := Aside0.mk ((by rw [hg]; exact Nat.ne_of_gt (blk_lt (g := gb455) (o := .cells #[.int .i64 a0_0, .slice A0_1 l0_1.length c0_1, .slice A0_2 l0_2.length c0_2, .slice A0_3 l0_3.length c0_3, .slice A0_4 l0_4.length c0_4, .slice A0_5 l0_5.length c0_5] 26 (0, 0)) (by (with_reducible repeat (first | refine blk_drewN ?_ _ | refine blk_drew ?_ | refine blk_alloc ?_ _)); exact BK455.out)) : gb456 ≠ gb455)); clear BK455; clear HB; have BK455 := n0_; have HB := n1_; have BK456 := n2_; have GW456 := n3_; have GE456 := n4_; have NB455_456 := n5_; have NB456_455 := n6_; clear n0_ n1_ n2_ n3_ n4_ n5_ n6_; clear hb hbox hg))
 go_loopg [5, 6] k (fun kq v5 v6 w' => ∃ (x5_1 : List Int) (x6_1 : Int), v6 = .int .i64 x6_1 ∧ Aside0 (inquestref24_Small.l0 kq x5_1 x6_1 a0_0 l0_1 l0_2 l0_3 l0_4 l0_5 = some (r1, r2, r3, r4, r5, r6, r7, r8)) ∧ Aside0 (kq ≤ k) ∧ Aside0 (Kd.R (Kd.int .u8) 5 w' w.heap.size (fun _ => True) v5 x5_1) ∧ Aside0 (w'.heap[gb455]? = some (.cells #[.int .i64 a0_0, (.slice A0_1 l0_1.length c0_1), (.slice A0_2 l0_2.length c0_2), (.slice A0_3 l0_3.length c0_3), (.slice A0_4 l0_4.length c0_4), (.slice A0_5 l0_5.length c0_5)] 26 (0, 0))) ∧ Aside0 (w'.heap[gb456]? = some (.cells #[.int .i64 0, (.slice none 0 0), (.slice none 0 0), (.slice none 0 0), (.slice none 0 0), (.slice none 0 0)] 26 (0, 0))) ∧ Aside0 (Below w.heap.size w w'))
 case atStart => exact ⟨(([] : List Int)), (0), (by first | rfl | (simp; done) | (simp [*]; done)), H', ⟨Nat.le_refl _⟩, ⟨by first | exact Kd.R_nil _ _ _ _ _ | exact Kd.N_nil _ _ _ _ _ | exact Kd.V_nil _ _ _ _ _ | exact Kd.Q_nil _ _ _ _ _ | exact Kd.S_nil _ _ _ _ _⟩, ⟨by (with_reducible repeat (first | refine blk_drewN ?_ _ | refine blk_drew ?_ | refine blk_alloc ?_ _)); exact BK455.out⟩, ⟨by (with_reducible repeat (first | refine blk_drewN ?_ _ | refine blk_drew ?_ | refine blk_alloc ?_ _)); exact BK456.out⟩, ⟨by repeat (first | (with_reducible first | exact HB.out | apply below_alloc | apply pw_below_drewN | apply below_drew1 | refine below_set ?_ GE455.out | refine below_set ?_ GE456.out) | exact HB.out)⟩⟩
 case round =>
  clear H'
  try clear p2
  obtain ⟨x5_1, x6_1, rfl, HA, HK1, HO_5, BK455, BK456, HB⟩ := hrel
  cases gk with
  | zero => exact absurd HA.out (by simp [inquestref24_Small.l0])
  | succ k1 =>
   have H := HA.out
   clear HA
   simp only [inquestref24_Small.l0] at H
   have HC4 := Aside0.mk H
   clear H
   go_upto_region 3 with (fail)
   go_cut [14] (fun v14 wc => ∃ (kq : Nat) (x14_3 : Bool), v14 = .bool x14_3 ∧ Aside0 (inquestref24_Small.j1 kq x5_1 x6_1 x14_3 a0_0 l0_1 l0_2 l0_3 l0_4 l0_5 = some (r1, r2, r3, r4, r5, r6, r7, r8)) ∧ Aside0 (kq ≤ k1) ∧ Aside0 (Kd.R (Kd.int .u8) 5 wc w.heap.size (fun _ => True) u5 x5_1) ∧ Aside0 (wc.heap[gb455]? = some (.cells #[.int .i64 a0_0, (.slice A0_1 l0_1.length c0_1), (.slice A0_2 l0_2.length c0_2), (.slice A0_3 l0_3.length c0_3), (.slice A0_4 l0_4.length c0_4), (.slice A0_5 l0_5.length c0_5)] 26 (0, 0))) ∧ Aside0 (wc.heap[gb456]? = some (.cells #[.int .i64 0, (.slice none 0 0), (.slice none 0 0), (.slice none 0 0), (.slice none 0 0), (.slice none 0 0)] 26 (0, 0))) ∧ Aside0 (Below w.heap.size w wc))
   case first =>
    have H := HC4.out
    clear HC4
    replace H := Option.bind_eq_some_iff.mp H
    obtain ⟨t457, A50, H⟩ := H
    replace H : (if x6_1 ≤ t457 then ((inquestref03_May.f k1 a0_0 l0_1 l0_2 l0_3 l0_4 l0_5).bind fun t458 => (inquestref24_Small.j1 k1 x5_1 x6_1 t458 a0_0 l0_1 l0_2 l0_3 l0_4 l0_5)) else (inquestref24_Small.j1 k1 x5_1 x6_1 false a0_0 l0_1 l0_2 l0_3 l0_4 l0_5)) = some (r1, r2, r3, r4, r5, r6, r7, r8) := H
    have A5 := Aside0.mk A50
    clear A50
    by_cases c6 : x6_1 ≤ t457
    ·
     rw [if_pos c6] at H
     have c6b0 : decide (x6_1 ≤ t457) = true := decide_eq_true c6
     clear c6
     (first | rw [c6b0] | (simp only [i64_w, i32_w]; rw [c6b0]) | skip)
     replace H := Option.bind_eq_some_iff.mp H
     obtain ⟨t458, A70, H⟩ := H
     replace H : (inquestref24_Small.j1 k1 x5_1 x6_1 t458 a0_0 l0_1 l0_2 l0_3 l0_4 l0_5) = some (r1, r2, r3, r4, r5, r6, r7, r8) := H
     have A7 := Aside0.mk A70
     clear A70
     have H' := Aside0.mk H
     clear H
     have hnb8 := NB455_456.out
     have hnc8 := NB456_455.out
     have hcz9_0 : wr.cell? ⟨gb455, 0, none⟩ = some (.int .i64 a0_0) := (blk_cell BK455.out 0).trans rfl
     have hcz9_1 : wr.cell? ⟨gb455, 1, none⟩ = some (.slice A0_1 l0_1.length c0_1) := (blk_cell BK455.out 1).trans rfl
     have hcz9_2 : wr.cell? ⟨gb455, 2, none⟩ = some (.slice A0_2 l0_2.length c0_2) := (blk_cell BK455.out 2).trans rfl
     have hcz9_3 : wr.cell? ⟨gb455, 3, none⟩ = some (.slice A0_3 l0_3.length c0_3) := (blk_cell BK455.out 3).trans rfl
     have hcz9_4 : wr.cell? ⟨gb455, 4, none⟩ = some (.slice A0_4 l0_4.length c0_4) := (blk_cell BK455.out 4).trans rfl
     have hcz9_5 : wr.cell? ⟨gb455, 5, none⟩ = some (.slice A0_5 l0_5.length c0_5) := (blk_cell BK455.out 5).trans rfl
     have hfz9_0 := blk_frozen BK455.out 0
     have hfz9_1 := blk_frozen BK455.out 1
     have hfz9_2 := blk_frozen BK455.out 2
     have hfz9_3 := blk_frozen BK455.out 3
     have hfz9_4 := blk_frozen BK455.out 4
     have hfz9_5 := blk_frozen BK455.out 5
     go_wp2_with (first | ((with_reducible refine gate_callee (f := 27) rfl ?_); refine goesL_ (some 9) rfl rfl Try.func27 (by kernel_rfl) rfl #[.agg #[.int .i64 a0_0, .slice A0_1 l0_1.length c0_1, .slice A0_2 l0_2.length c0_2, .slice A0_3 l0_3.length c0_3, .slice A0_4 l0_4.length c0_4, .slice A0_5 l0_5.length c0_5]] rfl (by (try simp only [List.map_toArray, List.map_cons, List.map_nil]); first | done | rfl | (simp only [List.length_drop, List.length_take]; rfl)) ?_; (with_reducible refine (inquestref03_Vars.calls k1 a0_0 _ _ l0_1 _ _ l0_2 _ _ l0_3 _ _ l0_4 _ _ l0_5 t457 _ ?side1 ?side2 ?side3 ?side4 ?side5 ?side6 ?side7 ?side8 ?side9 ?side10 A5.out).mono ?_); (case side1 => repeat (first | exact (Kd.C_below HR0_1.out HB.out) | (with_reducible refine Kd.C_alloc ?_ _) | (with_reducible refine Kd.C_drewN ?_ _) | (with_reducible refine Kd.C_drew ?_))); (case side2 => exact HC0_1.out); (case side3 => repeat (first | exact (Kd.C_below HR0_2.out HB.out) | (with_reducible refine Kd.C_alloc ?_ _) | (with_reducible refine Kd.C_drewN ?_ _) | (with_reducible refine Kd.C_drew ?_))); (case side4 => exact HC0_2.out); (case side5 => repeat (first | exact (Kd.C_below HR0_3.out HB.out) | (with_reducible refine Kd.C_alloc ?_ _) | (with_reducible refine Kd.C_drewN ?_ _) | (with_reducible refine Kd.C_drew ?_))); (case side6 => exact HC0_3.out); (case side7 => repeat (first | exact (Kd.C_below HR0_4.out HB.out) | (with_reducible refine Kd.C_alloc ?_ _) | (with_reducible refine Kd.C_drewN ?_ _) | (with_reducible refine Kd.C_drew ?_))); (case side8 => exact HC0_4.out); (case side9 => repeat (first | exact (Kd.C_below HR0_5.out HB.out) | (with_reducible refine Kd.C_alloc ?_ _) | (with_reducible refine Kd.C_drewN ?_ _) | (with_reducible refine Kd.C_drew ?_))); (case side10 => exact HC0_5.out); rintro e w10 ⟨rfl, hb⟩; refine ⟨_, rfl, ?_⟩; have n0_ := Aside0.mk (Kd.R_below (by (with_reducible repeat (first | apply Kd.R_alloc | apply Kd.R_drewN | apply Kd.R_drew)); exact HO_5.out) hb); have n1_ := Aside0.mk (blk_below (g := gb455) (o := .cells #[.int .i64 a0_0, .slice A0_1 l0_1.length c0_1, .slice A0_2 l0_2.length c0_2, .slice A0_3 l0_3.length c0_3, .slice A0_4 l0_4.length c0_4, .slice A0_5 l0_5.length c0_5] 26 (0, 0)) (by (with_reducible repeat (first | refine blk_drewN ?_ _ | refine blk_drew ?_ | refine blk_alloc ?_ _)); exact BK455.out) hb); have n2_ := Aside0.mk (blk_below (g := gb456) (o := .cells #[.int .i64 0, .slice none 0 0, .slice none 0 0, .slice none 0 0, .slice none 0 0, .slice none 0 0] 26 (0, 0)) (by (with_reducible repeat (first | refine blk_drewN ?_ _ | refine blk_drew ?_ | refine blk_alloc ?_ _)); exact BK456.out) hb); have n3_ := Aside0.mk (below_step (by repeat (first | (with_reducible first | exact HB.out | apply below_alloc | apply pw_below_drewN | apply below_drew1 | refine below_set ?_ GE455.out | refine below_set ?_ GE456.out) | exact HB.out)) hb); clear HO_5; clear BK455; clear BK456; clear HB; have HO_5 := n0_; have BK455 := n1_; have BK456 := n2_; have HB := n3_; clear n0_ n1_ n2_ n3_; (try clear hb); (try clear hb2); (try clear hk); (try clear hi); have hcz11_0 : w10.cell? ⟨gb455, 0, none⟩ = some (.int .i64 a0_0) := (blk_cell BK455.out 0).trans rfl; have hcz11_1 : w10.cell? ⟨gb455, 1, none⟩ = some (.slice A0_1 l0_1.length c0_1) := (blk_cell BK455.out 1).trans rfl; have hcz11_2 : w10.cell? ⟨gb455, 2, none⟩ = some (.slice A0_2 l0_2.length c0_2) := (blk_cell BK455.out 2).trans rfl; have hcz11_3 : w10.cell? ⟨gb455, 3, none⟩ = some (.slice A0_3 l0_3.length c0_3) := (blk_cell BK455.out 3).trans rfl; have hcz11_4 : w10.cell? ⟨gb455, 4, none⟩ = some (.slice A0_4 l0_4.length c0_4) := (blk_cell BK455.out 4).trans rfl; have hcz11_5 : w10.cell? ⟨gb455, 5, none⟩ = some (.slice A0_5 l0_5.length c0_5) := (blk_cell BK455.out 5).trans rfl; have hfz11_0 := blk_frozen BK455.out 0; have hfz11_1 := blk_frozen BK455.out 1; have hfz11_2 := blk_frozen BK455.out 2; have hfz11_3 := blk_frozen BK455.out 3; have hfz11_4 := blk_frozen BK455.out 4; have hfz11_5 := blk_frozen BK455.out 5) | (go_at_call 26; (with_reducible refine (inquestref03_May.calls k1 a0_0 _ _ l0_1 _ _ l0_2 _ _ l0_3 _ _ l0_4 _ _ l0_5 t458 _ ?side1 ?side2 ?side3 ?side4 ?side5 ?side6 ?side7 ?side8 ?side9 ?side10 A7.out).mono ?_); (case side1 => repeat (first | exact (Kd.C_below HR0_1.out HB.out) | (with_reducible refine Kd.C_alloc ?_ _) | (with_reducible refine Kd.C_drewN ?_ _) | (with_reducible refine Kd.C_drew ?_))); (case side2 => exact HC0_1.out); (case side3 => repeat (first | exact (Kd.C_below HR0_2.out HB.out) | (with_reducible refine Kd.C_alloc ?_ _) | (with_reducible refine Kd.C_drewN ?_ _) | (with_reducible refine Kd.C_drew ?_))); (case side4 => exact HC0_2.out); (case side5 => repeat (first | exact (Kd.C_below HR0_3.out HB.out) | (with_reducible refine Kd.C_alloc ?_ _) | (with_reducible refine Kd.C_drewN ?_ _) | (with_reducible refine Kd.C_drew ?_))); (case side6 => exact HC0_3.out); (case side7 => repeat (first | exact (Kd.C_below HR0_4.out HB.out) | (with_reducible refine Kd.C_alloc ?_ _) | (with_reducible refine Kd.C_drewN ?_ _) | (with_reducible refine Kd.C_drew ?_))); (case side8 => exact HC0_4.out); (case side9 => repeat (first | exact (Kd.C_below HR0_5.out HB.out) | (with_reducible refine Kd.C_alloc ?_ _) | (with_reducible refine Kd.C_drewN ?_ _) | (with_reducible refine Kd.C_drew ?_))); (case side10 => exact HC0_5.out); rintro e w12 ⟨rfl, hb⟩; have n0_ := Aside0.mk (Kd.R_below (by (with_reducible repeat (first | apply Kd.R_alloc | apply Kd.R_drewN | apply Kd.R_drew)); exact HO_5.out) hb); have n1_ := Aside0.mk (blk_below (g := gb455) (o := .cells #[.int .i64 a0_0, .slice A0_1 l0_1.length c0_1, .slice A0_2 l0_2.length c0_2, .slice A0_3 l0_3.length c0_3, .slice A0_4 l0_4.length c0_4, .slice A0_5 l0_5.length c0_5] 26 (0, 0)) (by (with_reducible repeat (first | refine blk_drewN ?_ _ | refine blk_drew ?_ | refine blk_alloc ?_ _)); exact BK455.out) hb); have n2_ := Aside0.mk (blk_below (g := gb456) (o := .cells #[.int .i64 0, .slice none 0 0, .slice none 0 0, .slice none 0 0, .slice none 0 0, .slice none 0 0] 26 (0, 0)) (by (with_reducible repeat (first | refine blk_drewN ?_ _ | refine blk_drew ?_ | refine blk_alloc ?_ _)); exact BK456.out) hb); have n3_ := Aside0.mk (below_step (by repeat (first | (with_reducible first | exact HB.out | apply below_alloc | apply pw_below_drewN | apply below_drew1 | refine below_set ?_ GE455.out | refine below_set ?_ GE456.out) | exact HB.out)) hb); clear HO_5; clear BK455; clear BK456; clear HB; have HO_5 := n0_; have BK455 := n1_; have BK456 := n2_; have HB := n3_; clear n0_ n1_ n2_ n3_; (try clear hb); (try clear hb2); (try clear hk); (try clear hi)))
     go_meet
     case rel => exact ⟨_, (t458), (by first | rfl | (simp; done) | (simp [*]; done)), H', ⟨by have := HK1.out; first | omega | exact Nat.le_refl _⟩, ⟨by (with_reducible repeat (first | apply Kd.R_alloc | apply Kd.R_drewN | apply Kd.R_drew)); exact HO_5.out⟩, ⟨by (with_reducible repeat (first | refine blk_drewN ?_ _ | refine blk_drew ?_ | refine blk_alloc ?_ _)); exact BK455.out⟩, ⟨by (with_reducible repeat (first | refine blk_drewN ?_ _ | refine blk_drew ?_ | refine blk_alloc ?_ _)); exact BK456.out⟩, ⟨by repeat (first | (with_reducible first | exact HB.out | apply below_alloc | apply pw_below_drewN | apply below_drew1 | refine below_set ?_ GE455.out | refine below_set ?_ GE456.out) | exact HB.out)⟩⟩
    ·
     rw [if_neg c6] at H
     have c6b0 : decide (x6_1 ≤ t457) = false := decide_eq_false c6
     clear c6
     (first | rw [c6b0] | (simp only [i64_w, i32_w]; rw [c6b0]) | skip)
     have H' := Aside0.mk H
     clear H
     have hnb13 := NB455_456.out
     have hnc13 := NB456_455.out
     have hcz14_0 : wr.cell? ⟨gb455, 0, none⟩ = some (.int .i64 a0_0) := (blk_cell BK455.out 0).trans rfl
     have hcz14_1 : wr.cell? ⟨gb455, 1, none⟩ = some (.slice A0_1 l0_1.length c0_1) := (blk_cell BK455.out 1).trans rfl
     have hcz14_2 : wr.cell? ⟨gb455, 2, none⟩ = some (.slice A0_2 l0_2.length c0_2) := (blk_cell BK455.out 2).trans rfl
     have hcz14_3 : wr.cell? ⟨gb455, 3, none⟩ = some (.slice A0_3 l0_3.length c0_3) := (blk_cell BK455.out 3).trans rfl
     have hcz14_4 : wr.cell? ⟨gb455, 4, none⟩ = some (.slice A0_4 l0_4.length c0_4) := (blk_cell BK455.out 4).trans rfl
     have hcz14_5 : wr.cell? ⟨gb455, 5, none⟩ = some (.slice A0_5 l0_5.length c0_5) := (blk_cell BK455.out 5).trans rfl
     have hfz14_0 := blk_frozen BK455.out 0
     have hfz14_1 := blk_frozen BK455.out 1
     have hfz14_2 := blk_frozen BK455.out 2
     have hfz14_3 := blk_frozen BK455.out 3
     have hfz14_4 := blk_frozen BK455.out 4
     have hfz14_5 := blk_frozen BK455.out 5
     go_wp2_with (first | ((with_reducible refine gate_callee (f := 27) rfl ?_); refine goesL_ (some 9) rfl rfl Try.func27 (by kernel_rfl) rfl #[.agg #[.int .i64 a0_0, .slice A0_1 l0_1.length c0_1, .slice A0_2 l0_2.length c0_2, .slice A0_3 l0_3.length c0_3, .slice A0_4 l0_4.length c0_4, .slice A0_5 l0_5.length c0_5]] rfl (by (try simp only [List.map_toArray, List.map_cons, List.map_nil]); first | done | rfl | (simp only [List.length_drop, List.length_take]; rfl)) ?_; (with_reducible refine (inquestref03_Vars.calls k1 a0_0 _ _ l0_1 _ _ l0_2 _ _ l0_3 _ _ l0_4 _ _ l0_5 t457 _ ?side1 ?side2 ?side3 ?side4 ?side5 ?side6 ?side7 ?side8 ?side9 ?side10 A5.out).mono ?_); (case side1 => repeat (first | exact (Kd.C_below HR0_1.out HB.out) | (with_reducible refine Kd.C_alloc ?_ _) | (with_reducible refine Kd.C_drewN ?_ _) | (with_reducible refine Kd.C_drew ?_))); (case side2 => exact HC0_1.out); (case side3 => repeat (first | exact (Kd.C_below HR0_2.out HB.out) | (with_reducible refine Kd.C_alloc ?_ _) | (with_reducible refine Kd.C_drewN ?_ _) | (with_reducible refine Kd.C_drew ?_))); (case side4 => exact HC0_2.out); (case side5 => repeat (first | exact (Kd.C_below HR0_3.out HB.out) | (with_reducible refine Kd.C_alloc ?_ _) | (with_reducible refine Kd.C_drewN ?_ _) | (with_reducible refine Kd.C_drew ?_))); (case side6 => exact HC0_3.out); (case side7 => repeat (first | exact (Kd.C_below HR0_4.out HB.out) | (with_reducible refine Kd.C_alloc ?_ _) | (with_reducible refine Kd.C_drewN ?_ _) | (with_reducible refine Kd.C_drew ?_))); (case side8 => exact HC0_4.out); (case side9 => repeat (first | exact (Kd.C_below HR0_5.out HB.out) | (with_reducible refine Kd.C_alloc ?_ _) | (with_reducible refine Kd.C_drewN ?_ _) | (with_reducible refine Kd.C_drew ?_))); (case side10 => exact HC0_5.out); rintro e w15 ⟨rfl, hb⟩; refine ⟨_, rfl, ?_⟩; have n0_ := Aside0.mk (Kd.R_below (by (with_reducible repeat (first | apply Kd.R_alloc | apply Kd.R_drewN | apply Kd.R_drew)); exact HO_5.out) hb); have n1_ := Aside0.mk (blk_below (g := gb455) (o := .cells #[.int .i64 a0_0, .slice A0_1 l0_1.length c0_1, .slice A0_2 l0_2.length c0_2, .slice A0_3 l0_3.length c0_3, .slice A0_4 l0_4.length c0_4, .slice A0_5 l0_5.length c0_5] 26 (0, 0)) (by (with_reducible repeat (first | refine blk_drewN ?_ _ | refine blk_drew ?_ | refine blk_alloc ?_ _)); exact BK455.out) hb); have n2_ := Aside0.mk (blk_below (g := gb456) (o := .cells #[.int .i64 0, .slice none 0 0, .slice none 0 0, .slice none 0 0, .slice none 0 0, .slice none 0 0] 26 (0, 0)) (by (with_reducible repeat (first | refine blk_drewN ?_ _ | refine blk_drew ?_ | refine blk_alloc ?_ _)); exact BK456.out) hb); have n3_ := Aside0.mk (below_step (by repeat (first | (with_reducible first | exact HB.out | apply below_alloc | apply pw_below_drewN | apply below_drew1 | refine below_set ?_ GE455.out | refine below_set ?_ GE456.out) | exact HB.out)) hb); clear HO_5; clear BK455; clear BK456; clear HB; have HO_5 := n0_; have BK455 := n1_; have BK456 := n2_; have HB := n3_; clear n0_ n1_ n2_ n3_; (try clear hb); (try clear hb2); (try clear hk); (try clear hi)))
     go_meet
     case rel => exact ⟨_, (false), (by first | rfl | (simp; done) | (simp [*]; done)), H', ⟨by have := HK1.out; first | omega | exact Nat.le_refl _⟩, ⟨by (with_reducible repeat (first | apply Kd.R_alloc | apply Kd.R_drewN | apply Kd.R_drew)); exact HO_5.out⟩, ⟨by (with_reducible repeat (first | refine blk_drewN ?_ _ | refine blk_drew ?_ | refine blk_alloc ?_ _)); exact BK455.out⟩, ⟨by (with_reducible repeat (first | refine blk_drewN ?_ _ | refine blk_drew ?_ | refine blk_alloc ?_ _)); exact BK456.out⟩, ⟨by repeat (first | (with_reducible first | exact HB.out | apply below_alloc | apply pw_below_drewN | apply below_drew1 | refine below_set ?_ GE455.out | refine below_set ?_ GE456.out) | exact HB.out)⟩⟩
   case rest =>
    clear HC4
    try clear c1
    try clear c2
    try clear p2
    try clear c4
    try clear c6
    try clear c6b0
    try clear c8
    try clear c13
    try clear hcz11_0
    try clear hcz11_1
    try clear hcz11_2
    try clear hcz11_3
    try clear hcz11_4
    try clear hcz11_5
    try clear hcz14_0
    try clear hcz14_1
    try clear hcz14_2
    try clear hcz14_3
    try clear hcz14_4
    try clear hcz14_5
    try clear hcz9_0
    try clear hcz9_1
    try clear hcz9_2
    try clear hcz9_3
    try clear hcz9_4
    try clear hcz9_5
    try clear hfz11_0
    try clear hfz11_1
    try clear hfz11_2
    try clear hfz11_3
    try clear hfz11_4
    try clear hfz11_5
    try clear hfz14_0
    try clear hfz14_1
    try clear hfz14_2
    try clear hfz14_3
    try clear hfz14_4
    try clear hfz14_5
    try clear hfz9_0
    try clear hfz9_1
    try clear hfz9_2
    try clear hfz9_3
    try clear hfz9_4
    try clear hfz9_5
    try clear p2
    obtain ⟨kq, x14_3, rfl, HA, HJ3, HO_5, BK455, BK456, HB⟩ := hcut
    cases kq with
    | zero => exact absurd HA.out (by simp [inquestref24_Small.j1])
    | succ kj3 =>
     have H := HA.out
     clear HA
     simp only [inquestref24_Small.j1] at H
     by_cases c16 : x14_3 = true
     ·
      subst c16
      have H1 : (if x6_1 = 0 then (if x5_1.length < 140737488355328 then (inquestref24_Small.l0 kj3 (x5_1 ++ [0]) (wrap64 (x6_1 + 1)) a0_0 l0_1 l0_2 l0_3 l0_4 l0_5) else (none)) else (if x5_1.length < 140737488355328 then (inquestref24_Small.l0 kj3 (x5_1 ++ [2]) (wrap64 (x6_1 + 1)) a0_0 l0_1 l0_2 l0_3 l0_4 l0_5) else (none))) = some (r1, r2, r3, r4, r5, r6, r7, r8) := by rw [if_pos rfl] at H; exact H
      clear H
      have H := H1
      clear H1
      by_cases c17 : x6_1 = 0
      ·
       rw [if_pos c17] at H
       have c17b0 : (x6_1 == 0) = true := beq_iff_eq.mpr c17
       have c17b1 : (x6_1 != 0) = false := bne_eq_false_iff_eq.mpr c17
       clear c17
       by_cases c18 : x5_1.length < 140737488355328
       ·
        rw [if_pos c18] at H
        have LMc18 := Aside0.mk c18
        clear c18
        obtain ⟨y459, hy459⟩ : ∃ y_ : List Int, y_ = (x5_1 ++ [0]) := ⟨_, rfl⟩
        replace H : (inquestref24_Small.l0 kj3 y459 (wrap64 (x6_1 + 1)) a0_0 l0_1 l0_2 l0_3 l0_4 l0_5) = some (r1, r2, r3, r4, r5, r6, r7, r8) := by first | (rw [hy459]; with_reducible exact H) | (have H2_ := (Option.bind_some _ _).symm.trans H; rw [hy459]; with_reducible exact H2_) | (have H2_ := (Option.bind_some _ _).symm.trans H; with_reducible exact H2_) | with_reducible exact H | (rw [hy459]; exact H) | exact H
        have Ny459 := Aside0.mk hy459
        clear hy459
        have H' := Aside0.mk H
        clear H
        go_wp2_with (first | ((with_reducible refine gate_builtin (b := .append) (xs := #[.tmp 19, .tmp 20]) rfl ?_); at_builtin; refine Kd.R_append (Kd.int .u8) (w0 := w) w.heap.size rfl (.tmp 19) (.tmp 20) 28 5 (.int .u8 0) 1 rfl Try.underlying28 info5 rfl (by decide) (by omega) u5 x5_1 0 [.int .u8 0] (fun _ => True) (fun _ => False) rfl rfl ?aP (fun _ hk => hk.elim) ?aF ?aO ?aB ?aS ?aL ?_; (case aP => exact rfl); (case aB => exact (by repeat (first | (with_reducible first | exact HB.out | apply below_alloc | apply pw_below_drewN | apply below_drew1 | refine below_set ?_ GE455.out | refine below_set ?_ GE456.out) | exact HB.out))); (case aF => exact (fun _ _ => trivial)); (case aO => exact (by (with_reducible repeat (first | apply Kd.R_alloc | apply Kd.R_drewN | apply Kd.R_drew)); exact HO_5.out)); (case aS => exact (below_size (by repeat (first | (with_reducible first | exact HB.out | apply below_alloc | apply pw_below_drewN | apply below_drew1 | refine below_set ?_ GE455.out | refine below_set ?_ GE456.out) | exact HB.out)))); (case aL => have := LMc18.out; omega); intro v460 w19 ho hb hg hat; rw [← Ny459.out] at ho; have n0_ := Aside0.mk (blk_grown (g := gb455) (o := .cells #[.int .i64 a0_0, .slice A0_1 l0_1.length c0_1, .slice A0_2 l0_2.length c0_2, .slice A0_3 l0_3.length c0_3, .slice A0_4 l0_4.length c0_4, .slice A0_5 l0_5.length c0_5] 26 (0, 0)) (by (with_reducible repeat (first | refine blk_drewN ?_ _ | refine blk_drew ?_ | refine blk_alloc ?_ _)); exact BK455.out) hg (Kd.R_ne HO_5.out BK455.out (by decide))); have n1_ := Aside0.mk (blk_grown (g := gb456) (o := .cells #[.int .i64 0, .slice none 0 0, .slice none 0 0, .slice none 0 0, .slice none 0 0, .slice none 0 0] 26 (0, 0)) (by (with_reducible repeat (first | refine blk_drewN ?_ _ | refine blk_drew ?_ | refine blk_alloc ?_ _)); exact BK456.out) hg (Kd.R_ne HO_5.out BK456.out (by decide))); have n2_ := Aside0.mk (hb); have n3_ := Aside0.mk (ho); clear BK455; clear BK456; clear HB; clear HO_5; have BK455 := n0_; have BK456 := n1_; have HB := n2_; have HO461 := n3_; clear n0_ n1_ n2_ n3_; clear ho hb hg hat))
        go_roundg kj3
        case measure => have := HK1.out; have := HJ3.out; omega
        case rel => exact ⟨(y459), (wrap64 (x6_1 + 1)), (by first | rfl | (simp; done) | (simp [*]; done)), H', ⟨by have := HK1.out; have := HJ3.out; omega⟩, ⟨by (with_reducible repeat (first | apply Kd.R_alloc | apply Kd.R_drewN | apply Kd.R_drew)); exact HO461.out⟩, ⟨by (with_reducible repeat (first | refine blk_drewN ?_ _ | refine blk_drew ?_ | refine blk_alloc ?_ _)); exact BK455.out⟩, ⟨by (with_reducible repeat (first | refine blk_drewN ?_ _ | refine blk_drew ?_ | refine blk_alloc ?_ _)); exact BK456.out⟩, ⟨by repeat (first | (with_reducible first | exact HB.out | apply below_alloc | apply pw_below_drewN | apply below_drew1 | refine below_set ?_ GE455.out | refine below_set ?_ GE456.out) | exact HB.out)⟩⟩
       ·
        rw [if_neg c18] at H
        exact absurd H (by simp)
      ·
       rw [if_neg c17] at H
       have c17b0 : (x6_1 == 0) = false := beq_eq_false_iff_ne.mpr c17
       have c17b1 : (x6_1 != 0) = true := bne_iff_ne.mpr c17
       by_cases c20 : x5_1.length < 140737488355328
       ·
        rw [if_pos c20] at H
        have LMc20 := Aside0.mk c20
        clear c20
        obtain ⟨y462, hy462⟩ : ∃ y_ : List Int, y_ = (x5_1 ++ [2]) := ⟨_, rfl⟩
        replace H : (inquestref24_Small.l0 kj3 y462 (wrap64 (x6_1 + 1)) a0_0 l0_1 l0_2 l0_3 l0_4 l0_5) = some (r1, r2, r3, r4, r5, r6, r7, r8) := by first | (rw [hy462]; with_reducible exact H) | (have H2_ := (Option.bind_some _ _).symm.trans H; rw [hy462]; with_reducible exact H2_) | (have H2_ := (Option.bind_some _ _).symm.trans H; with_reducible exact H2_) | with_reducible exact H | (rw [hy462]; exact H) | exact H
        have Ny462 := Aside0.mk hy462
        clear hy462
        have H' := Aside0.mk H
        clear H
        go_wp2_with (first | ((with_reducible refine gate_builtin (b := .append) (xs := #[.tmp 22, .tmp 23]) rfl ?_); at_builtin; refine Kd.R_append (Kd.int .u8) (w0 := w) w.heap.size rfl (.tmp 22) (.tmp 23) 28 5 (.int .u8 0) 1 rfl Try.underlying28 info5 rfl (by decide) (by omega) u5 x5_1 2 [.int .u8 2] (fun _ => True) (fun _ => False) rfl rfl ?aP (fun _ hk => hk.elim) ?aF ?aO ?aB ?aS ?aL ?_; (case aP => exact rfl); (case aB => exact (by repeat (first | (with_reducible first | exact HB.out | apply below_alloc | apply pw_below_drewN | apply below_drew1 | refine below_set ?_ GE455.out | refine below_set ?_ GE456.out) | exact HB.out))); (case aF => exact (fun _ _ => trivial)); (case aO => exact (by (with_reducible repeat (first | apply Kd.R_alloc | apply Kd.R_drewN | apply Kd.R_drew)); exact HO_5.out)); (case aS => exact (below_size (by repeat (first | (with_reducible first | exact HB.out | apply below_alloc | apply pw_below_drewN | apply below_drew1 | refine below_set ?_ GE455.out | refine below_set ?_ GE456.out) | exact HB.out)))); (case aL => have := LMc20.out; omega); intro v463 w21 ho hb hg hat; rw [← Ny462.out] at ho; have n0_ := Aside0.mk (blk_grown (g := gb455) (o := .cells #[.int .i64 a0_0, .slice A0_1 l0_1.length c0_1, .slice A0_2 l0_2.length c0_2, .slice A0_3 l0_3.length c0_3, .slice A0_4 l0_4.length c0_4, .slice A0_5 l0_5.length c0_5] 26 (0, 0)) (by (with_reducible repeat (first | refine blk_drewN ?_ _ | refine blk_drew ?_ | refine blk_alloc ?_ _)); exact BK455.out) hg (Kd.R_ne HO_5.out BK455.out (by decide))); have n1_ := Aside0.mk (blk_grown (g := gb456) (o := .cells #[.int .i64 0, .slice none 0 0, .slice none 0 0, .slice none 0 0, .slice none 0 0, .slice none 0 0] 26 (0, 0)) (by (with_reducible repeat (first | refine blk_drewN ?_ _ | refine blk_drew ?_ | refine blk_alloc ?_ _)); exact BK456.out) hg (Kd.R_ne HO_5.out BK456.out (by decide))); have n2_ := Aside0.mk (hb); have n3_ := Aside0.mk (ho); clear BK455; clear BK456; clear HB; clear HO_5; have BK455 := n0_; have BK456 := n1_; have HB := n2_; have HO464 := n3_; clear n0_ n1_ n2_ n3_; clear ho hb hg hat))
        go_roundg kj3
        case measure => have := HK1.out; have := HJ3.out; omega
        case rel => exact ⟨(y462), (wrap64 (x6_1 + 1)), (by first | rfl | (simp; done) | (simp [*]; done)), H', ⟨by have := HK1.out; have := HJ3.out; omega⟩, ⟨by (with_reducible repeat (first | apply Kd.R_alloc | apply Kd.R_drewN | apply Kd.R_drew)); exact HO464.out⟩, ⟨by (with_reducible repeat (first | refine blk_drewN ?_ _ | refine blk_drew ?_ | refine blk_alloc ?_ _)); exact BK455.out⟩, ⟨by (with_reducible repeat (first | refine blk_drewN ?_ _ | refine blk_drew ?_ | refine blk_alloc ?_ _)); exact BK456.out⟩, ⟨by repeat (first | (with_reducible first | exact HB.out | apply below_alloc | apply pw_below_drewN | apply below_drew1 | refine below_set ?_ GE455.out | refine below_set ?_ GE456.out) | exact HB.out)⟩⟩
       ·
        rw [if_neg c20] at H
        exact absurd H (by simp)
     ·
      replace c16 := Bool.eq_false_iff.mpr c16
      subst c16
      have H1 : ((inquestref24_With.f kj3 a0_0 l0_1 l0_2 l0_3 l0_4 l0_5 x5_1).bind fun bt465 => (some (bt465.1, bt465.2.1, bt465.2.2.1, bt465.2.2.2.1, bt465.2.2.2.2.1, bt465.2.2.2.2.2.1, bt465.2.2.2.2.2.2.1, bt465.2.2.2.2.2.2.2))) = some (r1, r2, r3, r4, r5, r6, r7, r8) := by rw [if_neg (show ¬ (false = true) by decide)] at H; exact H
      clear H
      have H := H1
      clear H1
      replace H := Option.bind_eq_some_iff.mp H
      obtain ⟨⟨t465, t466, t469, t472, t475, t478, t481, t484⟩, A220, H⟩ := H
      replace H : (some (t465, t466, t469, t472, t475, t478, t481, t484)) = some (r1, r2, r3, r4, r5, r6, r7, r8) := H
      have A22 := Aside0.mk A220
      clear A220
      simp only [Option.some.injEq, Prod.mk.injEq] at H
      obtain ⟨rfl, rfl, rfl, rfl, rfl, rfl, rfl, rfl⟩ := H
      have hnb23 := NB455_456.out
      have hnc23 := NB456_455.out
      have hcz24_0 : wc.cell? ⟨gb455, 0, none⟩ = some (.int .i64 a0_0) := (blk_cell BK455.out 0).trans rfl
      have hcz24_1 : wc.cell? ⟨gb455, 1, none⟩ = some (.slice A0_1 l0_1.length c0_1) := (blk_cell BK455.out 1).trans rfl
      have hcz24_2 : wc.cell? ⟨gb455, 2, none⟩ = some (.slice A0_2 l0_2.length c0_2) := (blk_cell BK455.out 2).trans rfl
      have hcz24_3 : wc.cell? ⟨gb455, 3, none⟩ = some (.slice A0_3 l0_3.length c0_3) := (blk_cell BK455.out 3).trans rfl
      have hcz24_4 : wc.cell? ⟨gb455, 4, none⟩ = some (.slice A0_4 l0_4.length c0_4) := (blk_cell BK455.out 4).trans rfl
      have hcz24_5 : wc.cell? ⟨gb455, 5, none⟩ = some (.slice A0_5 l0_5.length c0_5) := (blk_cell BK455.out 5).trans rfl
      have hfz24_0 := blk_frozen BK455.out 0
      have hfz24_1 := blk_frozen BK455.out 1
      have hfz24_2 := blk_frozen BK455.out 2
      have hfz24_3 := blk_frozen BK455.out 3
      have hfz24_4 := blk_frozen BK455.out 4
      have hfz24_5 := blk_frozen BK455.out 5
      obtain ⟨Ao25, co25, eo25⟩ := Kd.R_slice HO_5.out
      subst eo25
      go_wp2_with (first | ((with_reducible refine gate_callee (f := 44) rfl ?_); refine goesL_ (some 27) rfl rfl Try.func44 (by kernel_rfl) rfl #[.agg #[.int .i64 a0_0, .slice A0_1 l0_1.length c0_1, .slice A0_2 l0_2.length c0_2, .slice A0_3 l0_3.length c0_3, .slice A0_4 l0_4.length c0_4, .slice A0_5 l0_5.length c0_5], .slice Ao25 x5_1.length co25] rfl (by (try simp only [List.map_toArray, List.map_cons, List.map_nil]); first | done | rfl | (simp only [List.length_drop, List.length_take]; rfl)) ?_; (with_reducible refine (inquestref24_With.calls kj3 a0_0 _ _ l0_1 _ _ l0_2 _ _ l0_3 _ _ l0_4 _ _ l0_5 _ _ x5_1 t465 t466 t469 t472 t475 t478 t481 t484 _ ?side1 ?side2 ?side3 ?side4 ?side5 ?side6 ?side7 ?side8 ?side9 ?side10 ?side11 ?side12 A22.out).mono ?_); (case side1 => repeat (first | exact (Kd.C_below HR0_1.out HB.out) | (with_reducible refine Kd.C_alloc ?_ _) | (with_reducible refine Kd.C_drewN ?_ _) | (with_reducible refine Kd.C_drew ?_))); (case side2 => exact HC0_1.out); (case side3 => repeat (first | exact (Kd.C_below HR0_2.out HB.out) | (with_reducible refine Kd.C_alloc ?_ _) | (with_reducible refine Kd.C_drewN ?_ _) | (with_reducible refine Kd.C_drew ?_))); (case side4 => exact HC0_2.out); (case side5 => repeat (first | exact (Kd.C_below HR0_3.out HB.out) | (with_reducible refine Kd.C_alloc ?_ _) | (with_reducible refine Kd.C_drewN ?_ _) | (with_reducible refine Kd.C_drew ?_))); (case side6 => exact HC0_3.out); (case side7 => repeat (first | exact (Kd.C_below HR0_4.out HB.out) | (with_reducible refine Kd.C_alloc ?_ _) | (with_reducible refine Kd.C_drewN ?_ _) | (with_reducible refine Kd.C_drew ?_))); (case side8 => exact HC0_4.out); (case side9 => repeat (first | exact (Kd.C_below HR0_5.out HB.out) | (with_reducible refine Kd.C_alloc ?_ _) | (with_reducible refine Kd.C_drewN ?_ _) | (with_reducible refine Kd.C_drew ?_))); (case side10 => exact HC0_5.out); (case side11 => repeat (first | exact (Kd.R_reads' HO_5.out).2.2 | (with_reducible refine Kd.C_alloc ?_ _) | (with_reducible refine Kd.C_drewN ?_ _) | (with_reducible refine Kd.C_drew ?_))); (case side12 => exact (Kd.R_reads' HO_5.out).2.1); rintro e w26 ⟨v467, v470, v473, v476, v479, v482, rfl, ho0, ho1, ho2, ho3, ho4, ho5, hb⟩; refine ⟨_, rfl, ?_⟩; have n0_ := Aside0.mk (Kd.R_below (by (with_reducible repeat (first | apply Kd.R_alloc | apply Kd.R_drewN | apply Kd.R_drew)); exact HO_5.out) hb); have n1_ := Aside0.mk (Kd.R_lower ho0 (below_size (by repeat (first | (with_reducible first | exact HB.out | apply below_alloc | apply pw_below_drewN | apply below_drew1 | refine below_set ?_ GE455.out | refine below_set ?_ GE456.out) | exact HB.out)))); have n2_ := Aside0.mk (Kd.R_lower ho1 (below_size (by repeat (first | (with_reducible first | exact HB.out | apply below_alloc | apply pw_below_drewN | apply below_drew1 | refine below_set ?_ GE455.out | refine below_set ?_ GE456.out) | exact HB.out)))); have n3_ := Aside0.mk (Kd.R_lower ho2 (below_size (by repeat (first | (with_reducible first | exact HB.out | apply below_alloc | apply pw_below_drewN | apply below_drew1 | refine below_set ?_ GE455.out | refine below_set ?_ GE456.out) | exact HB.out)))); have n4_ := Aside0.mk (Kd.R_lower ho3 (below_size (by repeat (first | (with_reducible first | exact HB.out | apply below_alloc | apply pw_below_drewN | apply below_drew1 | refine below_set ?_ GE455.out | refine below_set ?_ GE456.out) | exact HB.out)))); have n5_ := Aside0.mk (Kd.R_lower ho4 (below_size (by repeat (first | (with_reducible first | exact HB.out | apply below_alloc | apply pw_below_drewN | apply below_drew1 | refine below_set ?_ GE455.out | refine below_set ?_ GE456.out) | exact HB.out)))); have n6_ := Aside0.mk (Kd.R_lower ho5 (below_size (by repeat (first | (with_reducible first | exact HB.out | apply below_alloc | apply pw_below_drewN | apply below_drew1 | refine below_set ?_ GE455.out | refine below_set ?_ GE456.out) | exact HB.out)))); have n7_ := Aside0.mk (blk_below (g := gb455) (o := .cells #[.int .i64 a0_0, .slice A0_1 l0_1.length c0_1, .slice A0_2 l0_2.length c0_2, .slice A0_3 l0_3.length c0_3, .slice A0_4 l0_4.length c0_4, .slice A0_5 l0_5.length c0_5] 26 (0, 0)) (by (with_reducible repeat (first | refine blk_drewN ?_ _ | refine blk_drew ?_ | refine blk_alloc ?_ _)); exact BK455.out) hb); have n8_ := Aside0.mk (blk_below (g := gb456) (o := .cells #[.int .i64 0, .slice none 0 0, .slice none 0 0, .slice none 0 0, .slice none 0 0, .slice none 0 0] 26 (0, 0)) (by (with_reducible repeat (first | refine blk_drewN ?_ _ | refine blk_drew ?_ | refine blk_alloc ?_ _)); exact BK456.out) hb); have n9_ := Aside0.mk (below_step (by repeat (first | (with_reducible first | exact HB.out | apply below_alloc | apply pw_below_drewN | apply below_drew1 | refine below_set ?_ GE455.out | refine below_set ?_ GE456.out) | exact HB.out)) hb); clear HO_5; clear BK455; clear BK456; clear HB; have HO_5 := n0_; have HO468 := n1_; have HO471 := n2_; have HO474 := n3_; have HO477 := n4_; have HO480 := n5_; have HO483 := n6_; have BK455 := n7_; have BK456 := n8_; have HB := n9_; clear n0_ n1_ n2_ n3_ n4_ n5_ n6_ n7_ n8_ n9_; (try clear hb); (try clear hb2); (try clear hk); (try clear hi); (try clear ho0); (try clear ho1); (try clear ho2); (try clear ho3); (try clear ho4); (try clear ho5); have hcz27_0 : w26.cell? ⟨gb456, 0, none⟩ = some (.int .i64 0) := (blk_cell BK456.out 0).trans rfl; have hcz27_1 : w26.cell? ⟨gb456, 1, none⟩ = some (.slice none 0 0) := (blk_cell BK456.out 1).trans rfl; have hcz27_2 : w26.cell? ⟨gb456, 2, none⟩ = some (.slice none 0 0) := (blk_cell BK456.out 2).trans rfl; have hcz27_3 : w26.cell? ⟨gb456, 3, none⟩ = some (.slice none 0 0) := (blk_cell BK456.out 3).trans rfl; have hcz27_4 : w26.cell? ⟨gb456, 4, none⟩ = some (.slice none 0 0) := (blk_cell BK456.out 4).trans rfl; have hcz27_5 : w26.cell? ⟨gb456, 5, none⟩ = some (.slice none 0 0) := (blk_cell BK456.out 5).trans rfl; have hfz27_0 := blk_frozen BK456.out 0; have hfz27_1 := blk_frozen BK456.out 1; have hfz27_2 := blk_frozen BK456.out 2; have hfz27_3 := blk_frozen BK456.out 3; have hfz27_4 := blk_frozen BK456.out 4; have hfz27_5 := blk_frozen BK456.out 5; obtain ⟨Ao28, co28, eo28⟩ := Kd.R_slice HO468.out; subst eo28; obtain ⟨Ao29, co29, eo29⟩ := Kd.R_slice HO471.out; subst eo29; obtain ⟨Ao30, co30, eo30⟩ := Kd.R_slice HO474.out; subst eo30; obtain ⟨Ao31, co31, eo31⟩ := Kd.R_slice HO477.out; subst eo31; obtain ⟨Ao32, co32, eo32⟩ := Kd.R_slice HO480.out; subst eo32))
      refine bodyPost_ret (results_ctt rfl _ _ gb456 26 #[.int .i64 t465, .slice Ao28 t466.length co28, .slice Ao29 t469.length co29, .slice Ao30 t472.length co30, .slice Ao31 t475.length co31, .slice Ao32 t478.length co32] (0, 0) _ rfl (by (with_reducible repeat (first | refine blk_drewN ?_ _ | refine blk_drew ?_ | refine blk_alloc ?_ _)); refine blk_put (cs := #[.int .i64 t465, .slice Ao28 t466.length co28, .slice Ao29 t469.length co29, .slice Ao30 t472.length co30, .slice Ao31 t475.length co31, .slice none 0 0]) ?_ 5 _ rfl; (with_reducible repeat (first | refine blk_drewN ?_ _ | refine blk_drew ?_ | refine blk_alloc ?_ _)); refine blk_put (cs := #[.int .i64 t465, .slice Ao28 t466.length co28, .slice Ao29 t469.length co29, .slice Ao30 t472.length co30, .slice none 0 0, .slice none 0 0]) ?_ 4 _ rfl; (with_reducible repeat (first | refine blk_drewN ?_ _ | refine blk_drew ?_ | refine blk_alloc ?_ _)); refine blk_put (cs := #[.int .i64 t465, .slice Ao28 t466.length co28, .slice Ao29 t469.length co29, .slice none 0 0, .slice none 0 0, .slice none 0 0]) ?_ 3 _ rfl; (with_reducible repeat (first | refine blk_drewN ?_ _ | refine blk_drew ?_ | refine blk_alloc ?_ _)); refine blk_put (cs := #[.int .i64 t465, .slice Ao28 t466.length co28, .slice none 0 0, .slice none 0 0, .slice none 0 0, .slice none 0 0]) ?_ 2 _ rfl; (with_reducible repeat (first | refine blk_drewN ?_ _ | refine blk_drew ?_ | refine blk_alloc ?_ _)); refine blk_put (cs := #[.int .i64 t465, .slice none 0 0, .slice none 0 0, .slice none 0 0, .slice none 0 0, .slice none 0 0]) ?_ 1 _ rfl; (with_reducible repeat (first | refine blk_drewN ?_ _ | refine blk_drew ?_ | refine blk_alloc ?_ _)); refine blk_put (cs := #[.int .i64 0, .slice none 0 0, .slice none 0 0, .slice none 0 0, .slice none 0 0, .slice none 0 0]) ?_ 0 _ rfl; (with_reducible repeat (first | refine blk_drewN ?_ _ | refine blk_drew ?_ | refine blk_alloc ?_ _)); exact BK456.out) Try.underlying26 rfl (by kernel_rfl)) rfl ?_
      exact ⟨_, _, _, _, _, _, by first | rfl | (simp [errW_none, errW_some] <;> rfl) | (simp [*, errW_none, errW_some] <;> rfl), by (with_reducible repeat (first | apply Kd.R_alloc | apply Kd.R_drewN | apply Kd.R_drew)); exact Kd.R_mono (Kd.R_far (p := ⟨gb456, 5, none⟩) (Kd.R_far (p := ⟨gb456, 4, none⟩) (Kd.R_far (p := ⟨gb456, 3, none⟩) (Kd.R_far (p := ⟨gb456, 2, none⟩) (Kd.R_far (p := ⟨gb456, 1, none⟩) (Kd.R_far (p := ⟨gb456, 0, none⟩) (Kd.R_types HO468.out BK456.out (by decide)) (fun _ hk => hk.2) (.int .i64 t465)) (fun _ hk => hk.2) (.slice Ao28 t466.length co28)) (fun _ hk => hk.2) (.slice Ao29 t469.length co29)) (fun _ hk => hk.2) (.slice Ao30 t472.length co30)) (fun _ hk => hk.2) (.slice Ao31 t475.length co31)) (fun _ hk => hk.2) (.slice Ao32 t478.length co32)) (fun _ hk => trivial), by (with_reducible repeat (first | apply Kd.R_alloc | apply Kd.R_drewN | apply Kd.R_drew)); exact Kd.R_mono (Kd.R_far (p := ⟨gb456, 5, none⟩) (Kd.R_far (p := ⟨gb456, 4, none⟩) (Kd.R_far (p := ⟨gb456, 3, none⟩) (Kd.R_far (p := ⟨gb456, 2, none⟩) (Kd.R_far (p := ⟨gb456, 1, none⟩) (Kd.R_far (p := ⟨gb456, 0, none⟩) (Kd.R_types HO471.out BK456.out (by decide)) (fun _ hk => hk.2) (.int .i64 t465)) (fun _ hk => hk.2) (.slice Ao28 t466.length co28)) (fun _ hk => hk.2) (.slice Ao29 t469.length co29)) (fun _ hk => hk.2) (.slice Ao30 t472.length co30)) (fun _ hk => hk.2) (.slice Ao31 t475.length co31)) (fun _ hk => hk.2) (.slice Ao32 t478.length co32)) (fun _ hk => trivial), by (with_reducible repeat (first | apply Kd.R_alloc | apply Kd.R_drewN | apply Kd.R_drew)); exact Kd.R_mono (Kd.R_far (p := ⟨gb456, 5, none⟩) (Kd.R_far (p := ⟨gb456, 4, none⟩) (Kd.R_far (p := ⟨gb456, 3, none⟩) (Kd.R_far (p := ⟨gb456, 2, none⟩) (Kd.R_far (p := ⟨gb456, 1, none⟩) (Kd.R_far (p := ⟨gb456, 0, none⟩) (Kd.R_types HO474.out BK456.out (by decide)) (fun _ hk => hk.2) (.int .i64 t465)) (fun _ hk => hk.2) (.slice Ao28 t466.length co28)) (fun _ hk => hk.2) (.slice Ao29 t469.length co29)) (fun _ hk => hk.2) (.slice Ao30 t472.length co30)) (fun _ hk => hk.2) (.slice Ao31 t475.length co31)) (fun _ hk => hk.2) (.slice Ao32 t478.length co32)) (fun _ hk => ⟨hk.1.1, ⟨hk.1.2.1, hk.1.2.2⟩⟩), by (with_reducible repeat (first | apply Kd.R_alloc | apply Kd.R_drewN | apply Kd.R_drew)); exact Kd.R_mono (Kd.R_far (p := ⟨gb456, 5, none⟩) (Kd.R_far (p := ⟨gb456, 4, none⟩) (Kd.R_far (p := ⟨gb456, 3, none⟩) (Kd.R_far (p := ⟨gb456, 2, none⟩) (Kd.R_far (p := ⟨gb456, 1, none⟩) (Kd.R_far (p := ⟨gb456, 0, none⟩) (Kd.R_types HO477.out BK456.out (by decide)) (fun _ hk => hk.2) (.int .i64 t465)) (fun _ hk => hk.2) (.slice Ao28 t466.length co28)) (fun _ hk => hk.2) (.slice Ao29 t469.length co29)) (fun _ hk => hk.2) (.slice Ao30 t472.length co30)) (fun _ hk => hk.2) (.slice Ao31 t475.length co31)) (fun _ hk => hk.2) (.slice Ao32 t478.length co32)) (fun _ hk => ⟨hk.1.1, ⟨hk.1.2.1, hk.1.2.2⟩⟩), by (with_reducible repeat (first | apply Kd.R_alloc | apply Kd.R_drewN | apply Kd.R_drew)); exact Kd.R_mono (Kd.R_far (p := ⟨gb456, 5, none⟩) (Kd.R_far (p := ⟨gb456, 4, none⟩) (Kd.R_far (p := ⟨gb456, 3, none⟩) (Kd.R_far (p := ⟨gb456, 2, none⟩) (Kd.R_far (p := ⟨gb456, 1, none⟩) (Kd.R_far (p := ⟨gb456, 0, none⟩) (Kd.R_types HO480.out BK456.out (by decide)) (fun _ hk => hk.2) (.int .i64 t465)) (fun _ hk => hk.2) (.slice Ao28 t466.length co28)) (fun _ hk => hk.2) (.slice Ao29 t469.length co29)) (fun _ hk => hk.2) (.slice Ao30 t472.length co30)) (fun _ hk => hk.2) (.slice Ao31 t475.length co31)) (fun _ hk => hk.2) (.slice Ao32 t478.length co32)) (fun _ hk => ⟨hk.1.1, ⟨hk.1.2.1, hk.1.2.2⟩⟩), by (with_reducible repeat (first | apply Kd.R_alloc | apply Kd.R_drewN | apply Kd.R_drew)); exact Kd.R_mono (Kd.R_far (p := ⟨gb456, 5, none⟩) (Kd.R_far (p := ⟨gb456, 4, none⟩) (Kd.R_far (p := ⟨gb456, 3, none⟩) (Kd.R_far (p := ⟨gb456, 2, none⟩) (Kd.R_far (p := ⟨gb456, 1, none⟩) (Kd.R_far (p := ⟨gb456, 0, none⟩) (Kd.R_types HO483.out BK456.out (by decide)) (fun _ hk => hk.2) (.int .i64 t465)) (fun _ hk => hk.2) (.slice Ao28 t466.length co28)) (fun _ hk => hk.2) (.slice Ao29 t469.length co29)) (fun _ hk => hk.2) (.slice Ao30 t472.length co30)) (fun _ hk => hk.2) (.slice Ao31 t475.length co31)) (fun _ hk => hk.2) (.slice Ao32 t478.length co32)) (fun _ hk => ⟨hk.1.1, ⟨hk.1.2.1, hk.1.2.2⟩⟩), by repeat (first | (with_reducible first | exact HB.out | apply below_alloc | apply pw_below_drewN | apply below_drew1 | refine below_set ?_ GE455.out | refine below_set ?_ GE456.out) | exact HB.out)⟩
end Go.Proofs.Yteiiodlgdbiimaa.F
end
section
namespace Go.Proofs.Yteiiodlgdbiimaa.F
open Go.RowKit Go.Shelf Go.Proofs.YteiiodlgdbiimaaW.PrintWords Go.Proofs.YteiiodlgdbiimaaW.PrintLast Go.Proofs.YteiiodlgdbiimaaW.PrintMore
set_option linter.unusedVariables false
set_option linter.unusedSimpArgs false
abbrev CircR : Type := Int × (List (S41)) × (List (S68)) × List Int × List Int × List Int × List Int × Int
def withR (a0 : Int) (l1 : List S41) (l2 : List S68) (l3 l4 l5 is : List Int) : CircR :=
  if withOk a0 l1 l2 l3 l4 l5 is then (a0, latM (wasW a0 l1 l2 is).1 l1, (wasW a0 l1 l2 is).2, l3.map (litP (wasW a0 l1 l2 is).1), l4.map (litP (wasW a0 l1 l2 is).1), l5.map (litP (wasW a0 l1 l2 is).1), (wasW a0 l1 l2 is).1, 0) else (0, [], [], [], [], [], [], 2)
section
variable {a0 : Int} {l1 : List S41} {l2 : List S68} {l3 l4 l5 is : List Int}
theorem u8s_of {l : List Int} (h : InU8 l) : u8s l = true := by
  unfold u8s
  rw [List.all_eq_true]
  intro x hx
  have := h x hx
  rw [Bool.and_eq_true, decide_eq_true_eq, decide_eq_true_eq]
  exact this
theorem u8s_lat {l : List S41} (h : In41 l) : u8s (l.map (·.f1)) = true := u8s_of (fun x hx => by
  obtain ⟨g, hg, rfl⟩ := List.mem_map.1 hx
  exact (h g hg).2)
theorem with_is (n1 : l1.length ≤ 16384) (n2 : l2.length ≤ 16384) (h1 : In41 l1) (h2 : In68 l2) (h3 : InU32 l3) (h4 : InU32 l4) (h5 : InU32 l5) (hi : InU8 is) : strash_With.f a0 l1 l2 l3 l4 l5 is = some (withR a0 l1 l2 l3 l4 l5 is) := by
  unfold strash_With.f withR
  rw [if_pos ⟨okIn_of h1 h2 (by omega) (by omega), u32s_of h3, u32s_of h4, u32s_of h5, u8s_of hi, u8s_lat h1⟩]
  split <;> rfl
theorem rwith_run (hv : Valid a0 l1 l2 l3 l4 l5) (h1 : In41 l1) (h2 : In68 l2) (h3 : InU32 l3) (h4 : InU32 l4) (h5 : InU32 l5) (hi : InU8 is) (hil : (is.length : Int) = a0 + (l1.length : Int) + (l2.length : Int) + 1) (h2x : ∀ v : Nat, v < is.length → rd is (v : Int) ≤ 2) :
  Ev (fun k => inquestref24_With.l1 k is (1 + a0 + (l1.length : Int)) ([] : List Int) ([] : List (S68)) 0 a0 l1 l2 l3 l4 l5) (a0, latM (wasW a0 l1 l2 is).1 l1, (wasW a0 l1 l2 is).2, l3.map (litP (wasW a0 l1 l2 is).1), l4.map (litP (wasW a0 l1 l2 is).1), l5.map (litP (wasW a0 l1 l2 is).1), (wasW a0 l1 l2 is).1, 0) := by
 have hp := hv.pos
 have hle := hv.le
 have hn3 := hv.outs.1
 have hn4 := hv.bads.1
 have hn5 := hv.cons.1
 have hend : ∀ s : List Int × List S68, InU32 s.1 → Ev (fun k => inquestref24_With.l2 k s.1 0 a0 l1 l2 l3 l4 l5 a0 ([] : List (S41)) s.2) (a0, latM s.1 l1, s.2, l3.map (litP s.1), l4.map (litP s.1), l5.map (litP s.1), s.1, 0) := fun s hs => by
  have key : ∀ (d i : Nat), l1.length - i = d → i ≤ l1.length → Ev (fun k => inquestref24_With.l2 k s.1 (i : Int) a0 l1 l2 l3 l4 l5 a0 (latM s.1 (l1.take i)) s.2) (a0, latM s.1 l1, s.2, l3.map (litP s.1), l4.map (litP s.1), l5.map (litP s.1), s.1, 0) := by
   intro d
   induction d with
   | zero =>
    intro i hd hi'
    obtain rfl : i = l1.length := by omega
    rw [List.take_length]
    have hgo : Ev (fun k => (inquestref24_lits.f k s.1 l3).bind fun t446 => ((inquestref24_lits.f k s.1 l4).bind fun t449 => ((inquestref24_lits.f k s.1 l5).bind fun t452 => (some (a0, latM s.1 l1, s.2, t446, t449, t452, s.1, (0 : Int)))))) (a0, latM s.1 l1, s.2, l3.map (litP s.1), l4.map (litP s.1), l5.map (litP s.1), s.1, 0) :=
     Ev.bind (rlits_ev hs h3 (by omega)) (Ev.bind (rlits_ev hs h4 (by omega)) (Ev.bind (rlits_ev hs h5 (by omega)) (Ev.now _)))
    refine Ev.step (fun k => ?_) hgo
    simp only [inquestref24_With.l2]
    rw [if_neg (by omega)]
   | succ d ih =>
    intro i hd hi'
    have hlt : i < l1.length := by omega
    have hx := h1 _ (List.getElem_mem hlt)
    have e : latM s.1 (l1.take (i + 1)) = latM s.1 (l1.take i) ++ [⟨litP s.1 l1[i].f0, l1[i].f1⟩] := by unfold latM; rw [take_next hlt, List.map_append]; rfl
    have el : (latM s.1 (l1.take i)).length = i := by unfold latM; rw [List.length_map, List.length_take]; omega
    refine Ev.step (fun k => ?_) (ih (i + 1) (by omega) (by omega))
    simp only [inquestref24_With.l2]
    rw [if_pos (by omega), if_pos (by omega), rd41_at hlt, rlit_is hs hx.1.1 hx.1.2, Option.bind_some, if_pos (by omega), e, wrap_nat (by omega)]
  exact key l1.length 0 (by omega) (by omega)
 obtain ⟨F, hF⟩ : ∃ F, 1 + a0 + (l1.length : Int) = F := ⟨_, rfl⟩
 have hwas : wasW a0 l1 l2 is = runW F l2 is is.length := by unfold wasW; rw [hF]
 rw [hwas, hF]
 have key : ∀ (d v : Nat), is.length - v = d → v ≤ is.length → Ev (fun k => inquestref24_With.l1 k is F (runW F l2 is v).1 (runW F l2 is v).2 (v : Int) a0 l1 l2 l3 l4 l5) (a0, latM (runW F l2 is is.length).1 l1, (runW F l2 is is.length).2, l3.map (litP (runW F l2 is is.length).1), l4.map (litP (runW F l2 is is.length).1), l5.map (litP (runW F l2 is is.length).1), (runW F l2 is is.length).1, 0) := by
  intro d
  induction d with
  | zero =>
   intro v hd hvl
   obtain rfl : v = is.length := by omega
   obtain ⟨_, _, o3⟩ := runW_ok (first := F) (by omega) h2 hi is.length (by omega)
   refine Ev.step (fun k => ?_) (hend _ o3)
   simp only [inquestref24_With.l1]
   rw [wrap64_id (by omega) (by omega), if_neg (by omega)]
  | succ d ih =>
   intro v hd hvl
   have hlt : v < is.length := by omega
   have hn := ih (v + 1) (by omega) (by omega)
   obtain ⟨o1, o2, o3⟩ := runW_ok (first := F) (by omega) h2 hi v (by omega)
   have hx := rd_u8 hi (v : Int)
   have hx2 := h2x v hlt
   have em : ((v : Int) + 1) % 4294967296 = ((v + 1 : Nat) : Int) := by omega
   rw [runW] at hn
   generalize hR : (a0, latM (runW F l2 is is.length).1 l1, (runW F l2 is is.length).2, l3.map (litP (runW F l2 is is.length).1), l4.map (litP (runW F l2 is is.length).1), l5.map (litP (runW F l2 is is.length).1), (runW F l2 is is.length).1, (0 : Int)) = R at hn ⊢
   generalize runW F l2 is v = s at hn o1 o2 o3 ⊢
   unfold stepW at hn
   by_cases hx' : rd is (v : Int) = 2
   ·
    rw [if_neg (by simpa using hx')] at hn
    by_cases hvF : (v : Int) < F
    ·
     rw [if_pos hvF] at hn
     refine Ev.step (fun k => ?_) hn
     simp only [inquestref24_With.l1]
     rw [wrap64_id (by omega) (by omega), if_pos (by omega), if_pos (by omega), if_pos (by omega), if_pos hx', if_pos hvF, if_pos (by omega), em, show (2 * (v : Int)) % 4294967296 = 2 * (v : Int) by omega]
    ·
     rw [if_neg hvF] at hn
     obtain ⟨j, hj⟩ : ∃ j : Nat, (v : Int) = F + (j : Int) := ⟨((v : Int) - F).toNat, by omega⟩
     have ej : (v : Int) - F = (j : Int) := by omega
     have ej' : ((v : Int) - F) % 4294967296 = (j : Int) := by omega
     have hjl : j < l2.length := by omega
     have hu := rd68_ok h2 (j : Int)
     rw [ej] at hn
     generalize hy : rd_T68 l2 (j : Int) = y at hu hn
     have hU0 := litP_u32 o3 hu.1.1 hu.1.2
     have hU1 := litP_u32 o3 hu.2.1 hu.2.2
     have hone := one_ev (F := F) (gs := s.2) (by omega) (by omega) hU0 hU1
     rw [gate_one] at hn
     have hgo : Ev (fun k => (inquestref24_one.f k s.2 F (litP s.1 y.f0) (litP s.1 y.f1)).bind fun bt428 => (if bt428.2 = true then (if s.1.length < 35184372088832 then (inquestref24_With.l1 k is F (s.1 ++ [bt428.1]) s.2 ((v + 1 : Nat) : Int) a0 l1 l2 l3 l4 l5) else (none)) else (if s.2.length < 17592186044416 then (if s.1.length < 35184372088832 then (inquestref24_With.l1 k is F (s.1 ++ [(2 * ((F + (((s.2.length : Int)) % 4294967296)) % 4294967296)) % 4294967296]) (s.2 ++ [(⟨mx (litP s.1 y.f0) (litP s.1 y.f1), mn (litP s.1 y.f0) (litP s.1 y.f1)⟩ : S68)]) ((v + 1 : Nat) : Int) a0 l1 l2 l3 l4 l5) else (none)) else (none)))) R := by
      refine Ev.bind hone ?_
      cases hb : (oneP F s.2 (litP s.1 y.f0) (litP s.1 y.f1)).2 with
      | true =>
       rw [hb, if_pos rfl] at hn
       exact Ev.ifp rfl (Ev.ifp (by omega) hn)
      | false =>
       rw [hb, if_neg (by decide)] at hn
       refine Ev.ifn (by decide) (Ev.ifp (by omega) (Ev.ifp (by omega) ?_))
       rw [show (2 * ((F + (((s.2.length : Int)) % 4294967296)) % 4294967296)) % 4294967296 = 2 * (F + (s.2.length : Int)) by omega]
       exact hn
     refine Ev.step (fun k => ?_) hgo
     simp only [inquestref24_With.l1]
     rw [wrap64_id (by omega) (by omega), if_pos (by omega), if_pos (by omega), if_pos (by omega), if_pos hx', if_neg hvF, ej', if_pos (by omega), if_pos (by omega), hy, rlit_is o3 hu.1.1 hu.1.2, Option.bind_some, rlit_is o3 hu.2.1 hu.2.2, Option.bind_some, em]
   ·
    rw [if_pos hx'] at hn
    refine Ev.step (fun k => ?_) hn
    simp only [inquestref24_With.l1]
    rw [wrap64_id (by omega) (by omega), if_pos (by omega), if_pos (by omega), if_pos (by omega), if_neg hx', if_pos (by omega), em, show (rd is (v : Int)) % 4294967296 = rd is (v : Int) by omega]
 exact key is.length 0 (by omega) (by omega)
theorem rwith_ev (ha : -9223372036854775808 ≤ a0 ∧ a0 < 9223372036854775808) (n1 : l1.length ≤ 16384) (n2 : l2.length ≤ 16384) (n3 : l3.length < 9223372036854775808) (n4 : l4.length < 9223372036854775808) (n5 : l5.length < 9223372036854775808) (ni : is.length < 9223372036854775807)
    (h1 : In41 l1) (h2 : In68 l2) (h3 : InU32 l3) (h4 : InU32 l4) (h5 : InU32 l5) (hi : InU8 is) : Ev (fun k => inquestref24_With.f k a0 l1 l2 l3 l4 l5 is) (withR a0 l1 l2 l3 l4 l5 is) := by
  have hM := mayr_all ha n1 n2 n3 n4 n5 h1 h2 h3 h4 h5
  have hjt : ¬ withOk a0 l1 l2 l3 l4 l5 is → Ev (fun k => inquestref24_With.j0 k is true a0 l1 l2 l3 l4 l5) (withR a0 l1 l2 l3 l4 l5 is) := fun h => by
    unfold withR
    rw [if_neg h]
    refine Ev.step (f := fun _ => some (0, [], [], [], [], [], [], 2)) (fun k => ?_) (Ev.now _)
    simp only [inquestref24_With.j0]
    rw [if_pos trivial]
  unfold inquestref24_With.f
  refine Ev.bind hM ?_
  by_cases hm : mayB a0 l1 l2 l3 l4 l5 = true
  case neg =>
    rw [Bool.not_eq_true] at hm
    rw [hm]
    exact Ev.ifn (by decide) (hjt (fun h => by rw [h.1] at hm; cases hm))
  rw [hm]
  have hok : okIn l1 l2 = true := okIn_of h1 h2 (by omega) (by omega)
  obtain ⟨hv, _⟩ := valid_of_may hok hm
  have hp := hv.pos
  have hle := hv.le
  have hVars : Ev (fun k => inquestref03_Vars.f k a0 l1 l2 l3 l4 l5) (a0 + (l1.length : Int) + (l2.length : Int)) := by
    unfold inquestref03_Vars.f
    refine Ev.bind (mayr_ev hv h1 h2 h3 h4 h5) (Ev.ifp rfl ?_)
    rw [wrap64_id (x := a0 + (l1.length : Int)) (by omega) (by omega), wrap64_id (by omega) (by omega)]
    exact Ev.now _
  refine Ev.ifp rfl (Ev.bind hVars ?_)
  rw [wrap64_id (x := a0 + (l1.length : Int) + (l2.length : Int) + 1) (by omega) (by omega)]
  by_cases hl : (is.length : Int) = a0 + (l1.length : Int) + (l2.length : Int) + 1
  case neg => exact Ev.ifn hl (hjt (fun h => hl h.2.1))
  refine Ev.ifp hl (Ev.ifp (by omega) ?_)
  by_cases h0 : rd is 0 = 0
  case neg =>
    have e : (rd is 0 != 0) = true := bne_iff_ne.2 h0
    rw [e]
    exact hjt (fun h => h0 h.2.2.1)
  have e : (rd is 0 != 0) = false := by rw [bne_eq_false_iff_eq]; exact h0
  rw [e]
  have hbad : ¬ withOk a0 l1 l2 l3 l4 l5 is → withR a0 l1 l2 l3 l4 l5 is = (0, [], [], [], [], [], [], 2) := fun h => by unfold withR; rw [if_neg h]
  have key : ∀ (d i : Nat), is.length - i = d → i ≤ is.length → (∀ v : Nat, v < i → rd is (v : Int) ≤ 2) → Ev (fun k => inquestref24_With.l0 k is (i : Int) a0 l1 l2 l3 l4 l5) (withR a0 l1 l2 l3 l4 l5 is) := by
    intro d
    induction d with
    | zero =>
      intro i hd hi' h2x
      obtain rfl : i = is.length := by omega
      have hall : is.all (fun x => decide (x ≤ 2)) = true := List.all_eq_true.2 fun x hx => by
        obtain ⟨v, hv', rfl⟩ := List.mem_iff_getElem.1 hx
        have := h2x v hv'
        rw [rd_at hv'] at this
        exact decide_eq_true this
      have hwo : withOk a0 l1 l2 l3 l4 l5 is := ⟨hm, hl, h0, hall⟩
      have hr : withR a0 l1 l2 l3 l4 l5 is = (a0, latM (wasW a0 l1 l2 is).1 l1, (wasW a0 l1 l2 is).2, l3.map (litP (wasW a0 l1 l2 is).1), l4.map (litP (wasW a0 l1 l2 is).1), l5.map (litP (wasW a0 l1 l2 is).1), (wasW a0 l1 l2 is).1, 0) := by unfold withR; exact if_pos hwo
      rw [hr]
      refine Ev.step (fun k => ?_) (rwith_run hv h1 h2 h3 h4 h5 hi hl h2x)
      simp only [inquestref24_With.l0]
      rw [if_neg (by omega), wrap64_id (x := 1 + a0) (by omega) (by omega), wrap64_id (x := 1 + a0 + (l1.length : Int)) (by omega) (by omega), show (1 + a0 + (l1.length : Int)) % 4294967296 = 1 + a0 + (l1.length : Int) by omega]
    | succ d ih =>
      intro i hd hi' h2x
      by_cases hc : rd is (i : Int) > 2
      · rw [hbad (fun h => by
          have := List.all_eq_true.1 h.2.2.2 _ (List.getElem_mem (show i < is.length by omega))
          rw [decide_eq_true_eq] at this
          rw [rd_at (show i < is.length by omega)] at hc
          omega)]
        refine Ev.step (f := fun _ => some (0, [], [], [], [], [], [], 2)) (fun k => ?_) (Ev.now _)
        simp only [inquestref24_With.l0]
        rw [if_pos (by omega), if_pos (by omega), if_pos hc]
      · refine Ev.step (fun k => ?_) (ih (i + 1) (by omega) (by omega) (fun v hv' => ?_))
        · simp only [inquestref24_With.l0]
          rw [if_pos (by omega), if_pos (by omega), if_neg hc, wrap_nat (by omega)]
        · by_cases ev : v = i
          · rw [ev]; omega
          · exact h2x v (by omega)
  refine Ev.step (fun k => ?_) (key is.length 0 (by omega) (by omega) (fun v hv' => absurd hv' (Nat.not_lt_zero v)))
  simp only [inquestref24_With.j0]
  rw [if_neg (by decide)]
  rfl
def smallR (a0 : Int) (l1 : List S41) (l2 : List S68) (l3 l4 l5 : List Int) : CircR :=
  if mayB a0 l1 l2 l3 l4 l5 = true then (a0, latM (smallW a0 l1 l2).1 l1, (smallW a0 l1 l2).2, l3.map (litP (smallW a0 l1 l2).1), l4.map (litP (smallW a0 l1 l2).1), l5.map (litP (smallW a0 l1 l2).1), (smallW a0 l1 l2).1, 0) else (0, [], [], [], [], [], [], 2)
theorem small_is (n1 : l1.length ≤ 16384) (n2 : l2.length ≤ 16384) (h1 : In41 l1) (h2 : In68 l2) (h3 : InU32 l3) (h4 : InU32 l4) (h5 : InU32 l5) : strash_Small.f a0 l1 l2 l3 l4 l5 = some (smallR a0 l1 l2 l3 l4 l5) := by
  unfold smallR
  by_cases hm : mayB a0 l1 l2 l3 l4 l5 = true
  · rw [if_pos hm]
    exact small_ok h1 h2 h3 h4 h5 n1 n2 hm
  · rw [if_neg hm]
    exact small_no (by simpa using hm)
theorem blank_take {n i : Nat} (h : i < n) : (blankL n).take (i + 1) = (blankL n).take i ++ [if i = 0 then 0 else 2] := by
  have hl : i < (blankL n).length := by rw [blank_len]; exact h
  rw [take_next hl]
  congr 2
  rw [← rd_at hl]
  exact blank_rd (by omega) i h
theorem rsmall_ev (ha : -9223372036854775808 ≤ a0 ∧ a0 < 9223372036854775808) (n1 : l1.length ≤ 16384) (n2 : l2.length ≤ 16384) (n3 : l3.length < 9223372036854775808) (n4 : l4.length < 9223372036854775808) (n5 : l5.length < 9223372036854775808)
    (h1 : In41 l1) (h2 : In68 l2) (h3 : InU32 l3) (h4 : InU32 l4) (h5 : InU32 l5) : Ev (fun k => inquestref24_Small.f k a0 l1 l2 l3 l4 l5) (smallR a0 l1 l2 l3 l4 l5) := by
  have hM := mayr_all ha n1 n2 n3 n4 n5 h1 h2 h3 h4 h5
  have hend : ∀ (is : List Int) (v : Int), InU8 is → is.length < 9223372036854775807 → Ev (fun k => inquestref24_Small.j1 k is v false a0 l1 l2 l3 l4 l5) (withR a0 l1 l2 l3 l4 l5 is) := fun is v hi ni => by
    have hgo : Ev (fun k => (inquestref24_With.f k a0 l1 l2 l3 l4 l5 is).bind fun bt465 => (some (bt465.1, bt465.2.1, bt465.2.2.1, bt465.2.2.2.1, bt465.2.2.2.2.1, bt465.2.2.2.2.2.1, bt465.2.2.2.2.2.2.1, bt465.2.2.2.2.2.2.2))) (withR a0 l1 l2 l3 l4 l5 is) := Ev.bind (rwith_ev ha n1 n2 n3 n4 n5 ni h1 h2 h3 h4 h5 hi) (Ev.now _)
    refine Ev.step (fun k => ?_) hgo
    simp only [inquestref24_Small.j1]
    rw [if_neg (by decide)]
  unfold inquestref24_Small.f
  by_cases hm : mayB a0 l1 l2 l3 l4 l5 = true
  case neg =>
    rw [Bool.not_eq_true] at hm
    rw [hm] at hM
    have hVars : Ev (fun k => inquestref03_Vars.f k a0 l1 l2 l3 l4 l5) 0 := by
      unfold inquestref03_Vars.f
      exact Ev.bind hM (Ev.ifn (by decide) (Ev.now _))
    have hr : smallR a0 l1 l2 l3 l4 l5 = withR a0 l1 l2 l3 l4 l5 [] := by
      unfold smallR withR
      rw [if_neg (by rw [hm]; decide), if_neg (fun h => by rw [h.1] at hm; cases hm)]
    rw [hr]
    have hgo : Ev (fun k => (inquestref03_Vars.f k a0 l1 l2 l3 l4 l5).bind fun t457 => (if (0 : Int) ≤ t457 then ((inquestref03_May.f k a0 l1 l2 l3 l4 l5).bind fun t458 => (inquestref24_Small.j1 k [] 0 t458 a0 l1 l2 l3 l4 l5)) else (inquestref24_Small.j1 k [] 0 false a0 l1 l2 l3 l4 l5))) (withR a0 l1 l2 l3 l4 l5 []) :=
      Ev.bind hVars (Ev.ifp (Int.le_refl _) (Ev.bind hM (hend [] 0 (fun x hx => nomatch hx) (by decide))))
    refine Ev.step (fun k => ?_) hgo
    simp only [inquestref24_Small.l0]
  rw [hm] at hM
  have hok : okIn l1 l2 = true := okIn_of h1 h2 (by omega) (by omega)
  obtain ⟨hv, _⟩ := valid_of_may hok hm
  have hp := hv.pos
  have hle := hv.le
  have hVars : Ev (fun k => inquestref03_Vars.f k a0 l1 l2 l3 l4 l5) (a0 + (l1.length : Int) + (l2.length : Int)) := by
    unfold inquestref03_Vars.f
    refine Ev.bind hM (Ev.ifp rfl ?_)
    rw [wrap64_id (x := a0 + (l1.length : Int)) (by omega) (by omega), wrap64_id (by omega) (by omega)]
    exact Ev.now _
  obtain ⟨n, hn⟩ : ∃ n : Nat, n = a0.toNat + l1.length + l2.length + 1 := ⟨_, rfl⟩
  have hu8 : InU8 (blankL n) := fun x hx => by
    have := blank_tri n x hx
    unfold Tri at this
    omega
  have hr : smallR a0 l1 l2 l3 l4 l5 = withR a0 l1 l2 l3 l4 l5 (blankL n) := by
    unfold smallR withR smallW
    rw [if_pos hm, ← hn, if_pos ⟨hm, by rw [blank_len]; omega, (blank_blank (by omega)).1, blank_all n⟩]
  rw [hr]
  have key : ∀ (d i : Nat), n - i = d → i ≤ n → Ev (fun k => inquestref24_Small.l0 k ((blankL n).take i) (i : Int) a0 l1 l2 l3 l4 l5) (withR a0 l1 l2 l3 l4 l5 (blankL n)) := by
    intro d
    induction d with
    | zero =>
      intro i hd hi
      obtain rfl : i = n := by omega
      have e : (blankL i).take i = blankL i := by have := List.take_length (l := blankL i); rwa [blank_len] at this
      rw [e]
      have hgo : Ev (fun k => (inquestref03_Vars.f k a0 l1 l2 l3 l4 l5).bind fun t457 => (if (i : Int) ≤ t457 then ((inquestref03_May.f k a0 l1 l2 l3 l4 l5).bind fun t458 => (inquestref24_Small.j1 k (blankL i) (i : Int) t458 a0 l1 l2 l3 l4 l5)) else (inquestref24_Small.j1 k (blankL i) (i : Int) false a0 l1 l2 l3 l4 l5))) (withR a0 l1 l2 l3 l4 l5 (blankL i)) :=
        Ev.bind hVars (Ev.ifn (by omega) (hend _ _ hu8 (by rw [blank_len]; omega)))
      refine Ev.step (fun k => ?_) hgo
      simp only [inquestref24_Small.l0]
    | succ d ih =>
      intro i hd hi
      have hlt : i < n := by omega
      have el : ((blankL n).take i).length = i := by rw [List.length_take, blank_len]; omega
      have hn' := ih (i + 1) (by omega) (by omega)
      rw [blank_take hlt] at hn'
      have hj : Ev (fun k => inquestref24_Small.j1 k ((blankL n).take i) (i : Int) true a0 l1 l2 l3 l4 l5) (withR a0 l1 l2 l3 l4 l5 (blankL n)) := by
        refine Ev.step (fun k => ?_) hn'
        simp only [inquestref24_Small.j1]
        rw [if_pos trivial]
        by_cases h0 : i = 0
        · rw [if_pos (show (i : Int) = 0 by omega), if_pos (by omega), wrap_nat (by omega), if_pos h0]
        · rw [if_neg (show ¬ (i : Int) = 0 by omega), if_pos (by omega), wrap_nat (by omega), if_neg h0]
      have hgo : Ev (fun k => (inquestref03_Vars.f k a0 l1 l2 l3 l4 l5).bind fun t457 => (if (i : Int) ≤ t457 then ((inquestref03_May.f k a0 l1 l2 l3 l4 l5).bind fun t458 => (inquestref24_Small.j1 k ((blankL n).take i) (i : Int) t458 a0 l1 l2 l3 l4 l5)) else (inquestref24_Small.j1 k ((blankL n).take i) (i : Int) false a0 l1 l2 l3 l4 l5))) (withR a0 l1 l2 l3 l4 l5 (blankL n)) :=
        Ev.bind hVars (Ev.ifp (by omega) (Ev.bind hM hj))
      refine Ev.step (fun k => ?_) hgo
      simp only [inquestref24_Small.l0]
  have := key n 0 (by omega) (by omega)
  rwa [List.take_zero] at this
end
end Go.Proofs.Yteiiodlgdbiimaa.F
end
section
namespace Go.Proofs.Yteiiodlgdbiimaa.F
open Go.RowKit Go.Proofs.YteiiodlgdbiimaaW.PrintWords Go.Proofs.YteiiodlgdbiimaaW.PrintLast Go.Proofs.YteiiodlgdbiimaaW.PrintMore
attribute [local go_sem] max2_int min2_int max_two min_two max_three min_three max_four min_four
set_option linter.unusedVariables false
set_option linter.unusedSimpArgs false
theorem eqA41 (d : Nat) (w : World) (x0 y0 : Int) (x1 y1 : Int) :
    (Op.equalIn (d + 2) 41 (.agg #[.int .u32 x0, .int .u8 x1]) (.agg #[.int .u32 y0, .int .u8 y1])).run Try.prog w = .ok (x0 == y0 && (x1 == y1)) w := by
  refine eqA_of Try.underlying41 (by kernel_rfl) ?_
  refine eqf_cons (by rfl) (by go_simp; rfl) (by go_simp; rfl) (by go_simp) ?_
  exact eqf_last (by rfl) (by go_simp; rfl) (by go_simp; rfl) (by go_simp)
end Go.Proofs.Yteiiodlgdbiimaa.F
end
section
namespace Go.Proofs.Yteiiodlgdbiimaa.F
open Go.RowKit Go.Proofs.YteiiodlgdbiimaaW.PrintWords Go.Proofs.YteiiodlgdbiimaaW.PrintLast Go.Proofs.YteiiodlgdbiimaaW.PrintMore
attribute [local go_sem] max2_int min2_int max_two min_two max_three min_three max_four min_four
set_option linter.unusedVariables false
set_option linter.unusedSimpArgs false
theorem eqA68 (d : Nat) (w : World) (x0 y0 : Int) (x1 y1 : Int) :
    (Op.equalIn (d + 2) 68 (.agg #[.int .u32 x0, .int .u32 x1]) (.agg #[.int .u32 y0, .int .u32 y1])).run Try.prog w = .ok (x0 == y0 && (x1 == y1)) w := by
  refine eqA_of Try.underlying68 (by kernel_rfl) ?_
  refine eqf_cons (by rfl) (by go_simp; rfl) (by go_simp; rfl) (by go_simp) ?_
  exact eqf_last (by rfl) (by go_simp; rfl) (by go_simp; rfl) (by go_simp)
end Go.Proofs.Yteiiodlgdbiimaa.F
end
section
namespace Go.Proofs.Yteiiodlgdbiimaa.F
open Go.RowKit Go.Proofs.YteiiodlgdbiimaaW.PrintWords Go.Proofs.YteiiodlgdbiimaaW.PrintLast Go.Proofs.YteiiodlgdbiimaaW.PrintMore
attribute [local go_sem] max2_int min2_int max_two min_two max_three min_three max_four min_four
set_option linter.unusedVariables false
set_option linter.unusedSimpArgs false
def inquestref00_Numbers.l0 : Nat → List Int → List Int → Option (Bool)
  | 0, _, _ => none
  | k + 1, x0, x1 => if (x0.length : Int) > 0 then (if 0 < (x0.length : Int) then (if 0 < (x1.length : Int) then (if (rd x0 0) = (rd x1 0) then (if 1 ≤ (x0.length : Int) then (if 1 ≤ (x1.length : Int) then (inquestref00_Numbers.l0 k (x0.drop 1) (x1.drop 1)) else (none)) else (none)) else (some false)) else (none)) else (none)) else (some true)
def inquestref00_Numbers.f (k : Nat) (l0 : List Int) (l1 : List Int) : Option (Bool) := if (l0.length : Int) = (l1.length : Int) then (inquestref00_Numbers.l0 k l0 l1) else (some false)
theorem inquestref00_Numbers.mono_l : ∀ k, (∀ y0 y1, LeO (inquestref00_Numbers.l0 k y0 y1) (inquestref00_Numbers.l0 (k + 1) y0 y1))
  | 0 => fun _ _ r h => by simp [inquestref00_Numbers.l0] at h
  | k + 1 => by
    have ih0 := inquestref00_Numbers.mono_l k
    · intro y0 y1
      unfold inquestref00_Numbers.l0
      repeat' first
      | (with_reducible exact ih0 _ _)
      | (with_reducible exact LeO.refl _)
      | (with_reducible exact LeO.none _)
      | (with_reducible refine LeO.ite ?_ ?_)
      | (with_reducible refine LeO.bind ?_ (fun _ => ?_))
      | exact ih0 _ _
      | exact LeO.none _
      | refine LeO.ite ?_ ?_
      | refine LeO.bind ?_ (fun _ => ?_)
theorem inquestref00_Numbers.mono : ∀ a0 a1 k, LeO (inquestref00_Numbers.f k a0 a1) (inquestref00_Numbers.f (k + 1) a0 a1) := by
  intro a0 a1 k
  have ih0 := inquestref00_Numbers.mono_l k
  unfold inquestref00_Numbers.f
  repeat' first
      | (with_reducible exact ih0 _ _)
      | (with_reducible exact LeO.refl _)
      | (with_reducible exact LeO.none _)
      | (with_reducible refine LeO.ite ?_ ?_)
      | (with_reducible refine LeO.bind ?_ (fun _ => ?_))
      | exact ih0 _ _
      | exact LeO.none _
      | refine LeO.ite ?_ ?_
      | refine LeO.bind ?_ (fun _ => ?_)
set_option maxHeartbeats 8000000 in
set_option maxRecDepth 100000 in
theorem inquestref00_Numbers.calls (k : Nat) (P0_ : Nat → Prop) (A0 : Option Addr) (c0 : Nat) (l0 : List Int) (P1_ : Nat → Prop) (A1 : Option Addr) (c1 : Nat) (l1 : List Int) (r : Bool) (w : World) (hs0 : Kd.V (Kd.int .u32) 39 w w.heap.size (fun k_ => P0_ k_) (.slice A0 l0.length c0) l0) (hs1 : Kd.V (Kd.int .u32) 39 w w.heap.size (fun k_ => P1_ k_) (.slice A1 l1.length c1) l1) (h : inquestref00_Numbers.f k l0 l1 = some r) :
  Calls Try.prog 42 #[.slice A0 l0.length c0, .slice A1 l1.length c1] w fun e w' => e = .returned (.bool r) ∧ Below w.heap.size w w' := by
 have HO0 := Aside0.mk (show Kd.V (Kd.int .u32) 39 w w.heap.size (fun k_ => ((P0_ k_ ∨ P1_ k_) ∨ w.heap.size ≤ k_)) (.slice A0 l0.length c0) l0 from Kd.V_mono hs0 (fun k_ hk => .inl (.inl hk)))
 have HO1 := Aside0.mk (show Kd.V (Kd.int .u32) 39 w w.heap.size (fun k_ => ((P0_ k_ ∨ P1_ k_) ∨ w.heap.size ≤ k_)) (.slice A1 l1.length c1) l1 from Kd.V_mono hs1 (fun k_ hk => .inl (.inr hk)))
 have HB := Aside0.mk (Below.refl w.heap.size w)
 have H : (if (l0.length : Int) = (l1.length : Int) then (inquestref00_Numbers.l0 k l0 l1) else (some false)) = some r := h
 clear h
 by_cases c3 : (l0.length : Int) = (l1.length : Int)
 ·
  rw [if_pos c3] at H
  have c3b0 : ((l0.length : Int) == (l1.length : Int)) = true := beq_iff_eq.mpr c3
  have c3b1 : ((l0.length : Int) != (l1.length : Int)) = false := bne_eq_false_iff_eq.mpr c3
  have c3b2 : (l0.length == l1.length) = true := by first | simpa using c3 | (simp at c3 ⊢; omega)
  clear c3
  have H' := Aside0.mk H
  clear H
  go_enter Try.func42, Try.ntmps42
  go_wp2
  repeat (go_quiet (fail); try go_wp2)
  go_loopg [0, 1] k (fun kq v0 v1 w' => ∃ (x0_1 : List Int) (x1_1 : List Int), Aside0 (inquestref00_Numbers.l0 kq x0_1 x1_1 = some r) ∧ Aside0 (kq ≤ k) ∧ Aside0 (Kd.V (Kd.int .u32) 39 w' w.heap.size (fun k_ => ((P0_ k_ ∨ P1_ k_) ∨ w.heap.size ≤ k_)) v0 x0_1) ∧ Aside0 (Kd.V (Kd.int .u32) 39 w' w.heap.size (fun k_ => ((P0_ k_ ∨ P1_ k_) ∨ w.heap.size ≤ k_)) v1 x1_1) ∧ Aside0 (Below w.heap.size w w'))
  case atStart => exact ⟨(l0), (l1), H', ⟨Nat.le_refl _⟩, ⟨by (with_reducible repeat (first | apply Kd.V_alloc | apply Kd.V_drewN | apply Kd.V_drew)); exact HO0.out⟩, ⟨by (with_reducible repeat (first | apply Kd.V_alloc | apply Kd.V_drewN | apply Kd.V_drew)); exact HO1.out⟩, ⟨by repeat (first | (with_reducible first | exact HB.out | apply below_alloc | apply pw_below_drewN | apply below_drew1) | exact HB.out)⟩⟩
  case round =>
   clear H'
   try clear c1
   try clear p2
   try clear c3
   try clear c3b0
   try clear c3b1
   try clear c3b2
   obtain ⟨x0_1, x1_1, HA, HK1, HO_0, HO_1, HB⟩ := hrel
   cases gk with
   | zero => exact absurd HA.out (by simp [inquestref00_Numbers.l0])
   | succ k1 =>
    have H := HA.out
    clear HA
    simp only [inquestref00_Numbers.l0] at H
    by_cases c4 : (x0_1.length : Int) > 0
    ·
     rw [if_pos c4] at H
     have c4b0 : decide (0 < (x0_1.length : Int)) = true := decide_eq_true c4
     have c4b1 : decide (0 < x0_1.length) = true := decide_eq_true (by omega)
     clear c4
     by_cases c5 : 0 < (x0_1.length : Int)
     ·
      rw [if_pos c5] at H
      have c5b0 : decide (0 < (x0_1.length : Int)) = true := decide_eq_true c5
      have c5b1 : decide (0 < x0_1.length) = true := decide_eq_true (by omega)
      clear c5
      by_cases c6 : 0 < (x1_1.length : Int)
      ·
       rw [if_pos c6] at H
       have c6b0 : decide (0 < (x1_1.length : Int)) = true := decide_eq_true c6
       have c6b1 : decide (0 < x1_1.length) = true := decide_eq_true (by omega)
       clear c6
       by_cases c7 : (rd x0_1 0) = (rd x1_1 0)
       ·
        rw [if_pos c7] at H
        have c7b0 : ((rd x0_1 0) == (rd x1_1 0)) = true := beq_iff_eq.mpr c7
        have c7b1 : ((rd x0_1 0) != (rd x1_1 0)) = false := bne_eq_false_iff_eq.mpr c7
        clear c7
        by_cases c8 : 1 ≤ (x0_1.length : Int)
        ·
         rw [if_pos c8] at H
         have c8b0 := eq_true c8
         have c8b1 : decide (1 ≤ (x0_1.length : Int)) = true := decide_eq_true c8
         clear c8
         obtain ⟨y242, hy242⟩ : ∃ y_ : List Int, y_ = (x0_1.drop 1) := ⟨_, rfl⟩
         replace H : (if 1 ≤ (x1_1.length : Int) then (inquestref00_Numbers.l0 k1 y242 (x1_1.drop 1)) else (none)) = some r := by first | (rw [hy242]; with_reducible exact H) | (have H2_ := (Option.bind_some _ _).symm.trans H; rw [hy242]; with_reducible exact H2_) | (have H2_ := (Option.bind_some _ _).symm.trans H; with_reducible exact H2_) | with_reducible exact H | (rw [hy242]; exact H) | exact H
         have Ny242 := Aside0.mk hy242
         clear hy242
         by_cases c9 : 1 ≤ (x1_1.length : Int)
         ·
          rw [if_pos c9] at H
          have c9b0 := eq_true c9
          have c9b1 : decide (1 ≤ (x1_1.length : Int)) = true := decide_eq_true c9
          clear c9
          obtain ⟨y247, hy247⟩ : ∃ y_ : List Int, y_ = (x1_1.drop 1) := ⟨_, rfl⟩
          replace H : (inquestref00_Numbers.l0 k1 y242 y247) = some r := by first | (rw [hy247]; with_reducible exact H) | (have H2_ := (Option.bind_some _ _).symm.trans H; rw [hy247]; with_reducible exact H2_) | (have H2_ := (Option.bind_some _ _).symm.trans H; with_reducible exact H2_) | with_reducible exact H | (rw [hy247]; exact H) | exact H
          have Ny247 := Aside0.mk hy247
          clear hy247
          have H' := Aside0.mk H
          clear H
          obtain ⟨Ao10, co10, eo10⟩ := Kd.V_slice HO_0.out
          subst eo10
          have p240 : 0 ≤ (0 : Int) := (by omega)
          have q240 : 0 < (x0_1.length : Int) := of_decide_eq_true (by first | (with_reducible assumption) | assumption)
          obtain ⟨ad240, e240, hx240_0⟩ := Kd.at_int (Kd.V_reads' HO_0.out).2.2 0 p240 q240
          cases e240
          have qi240 : (0 < x0_1.length) = True := eq_true (by omega)
          (try rw [show ((0 : Int)).toNat = 0 from rfl] at hx240_0)
          (try rw [Addr.add_zero'] at hx240_0)
          replace p240 := eq_true p240
          replace q240 := eq_true q240
          obtain ⟨Ao11, co11, eo11⟩ := Kd.V_slice HO_1.out
          subst eo11
          have p241 : 0 ≤ (0 : Int) := (by omega)
          have q241 : 0 < (x1_1.length : Int) := of_decide_eq_true (by first | (with_reducible assumption) | assumption)
          obtain ⟨ad241, e241, hx241_0⟩ := Kd.at_int (Kd.V_reads' HO_1.out).2.2 0 p241 q241
          cases e241
          have qi241 : (0 < x1_1.length) = True := eq_true (by omega)
          (try rw [show ((0 : Int)).toNat = 0 from rfl] at hx241_0)
          (try rw [Addr.add_zero'] at hx241_0)
          replace p241 := eq_true p241
          replace q241 := eq_true q241
          have q12 : (1 : Int) ≤ ((x0_1.length : Int) : Int) := of_decide_eq_true (by first | (with_reducible assumption) | assumption)
          obtain ⟨i012, hi012, _, hsz12, _⟩ := info_parts info39
          have hroom12 : x0_1.length ≤ co10 := (Kd.V_reads' HO_0.out).2.1
          have hC12 : Kd.F (Kd.int .u32) _ _ (some ad240) x0_1.length x0_1 := (Kd.V_at (base := w.heap.size) HO_0.out).2.2
          have hcut12 := cut_from (P := Try.prog) 24 39 .i64 Try.underlying24 hi012 1 hsz12 (some ad240) x0_1.length co10 1 (by omega) q12
          have hr12 := Kd.F_cut (m := (1 : Int).toNat) (c := co10) hC12 (by omega) hroom12
          obtain ⟨A12, hA12⟩ : ∃ A1, A1 = (if co10 = (1 : Int).toNat then (some ad240) else ((some ad240) : Option Addr).map (·.add ((1 : Int).toNat * 1))) := ⟨_, rfl⟩
          obtain ⟨c12, hc12⟩ : ∃ c1, c1 = co10 - (1 : Int).toNat := ⟨_, rfl⟩
          have hy12 : y242.length = x0_1.length - (1 : Int).toNat := (by rw [Ny242.out, List.length_drop] <;> omega)
          rw [show (x0_1).drop (1 : Int).toNat = y242 from Ny242.out.symm] at hr12
          replace hr12 : Kd.F (Kd.int .u32) _ _ A12 y242.length y242 := (by rw [hA12]; exact hr12)
          rw [← hy12, ← hA12, ← hc12] at hcut12
          have HO246 := Aside0.mk (show Kd.V (Kd.int .u32) 39 _ w.heap.size _ (.slice A12 y242.length c12) y242 from Kd.V_mk (by rw [hy12, hc12]; exact Nat.sub_le_sub_right hroom12 _) hr12)
          have HC246 := Aside0.mk (show y242.length ≤ c12 from by rw [hy12, hc12]; exact Nat.sub_le_sub_right hroom12 _)
          clear hr12 hC12 hroom12 hi012 hsz12 hc12
          have KY12 := Aside0.mk hy12
          have KA12 := Aside0.mk hA12
          clear hy12 hA12
          replace q12 := eq_true q12
          have q13 : (1 : Int) ≤ ((x1_1.length : Int) : Int) := of_decide_eq_true (by first | (with_reducible assumption) | assumption)
          obtain ⟨i013, hi013, _, hsz13, _⟩ := info_parts info39
          have hroom13 : x1_1.length ≤ co11 := (Kd.V_reads' HO_1.out).2.1
          have hC13 : Kd.F (Kd.int .u32) _ _ (some ad241) x1_1.length x1_1 := (Kd.V_at (base := w.heap.size) HO_1.out).2.2
          have hcut13 := cut_from (P := Try.prog) 24 39 .i64 Try.underlying24 hi013 1 hsz13 (some ad241) x1_1.length co11 1 (by omega) q13
          have hr13 := Kd.F_cut (m := (1 : Int).toNat) (c := co11) hC13 (by omega) hroom13
          obtain ⟨A13, hA13⟩ : ∃ A1, A1 = (if co11 = (1 : Int).toNat then (some ad241) else ((some ad241) : Option Addr).map (·.add ((1 : Int).toNat * 1))) := ⟨_, rfl⟩
          obtain ⟨c13, hc13⟩ : ∃ c1, c1 = co11 - (1 : Int).toNat := ⟨_, rfl⟩
          have hy13 : y247.length = x1_1.length - (1 : Int).toNat := (by rw [Ny247.out, List.length_drop] <;> omega)
          rw [show (x1_1).drop (1 : Int).toNat = y247 from Ny247.out.symm] at hr13
          replace hr13 : Kd.F (Kd.int .u32) _ _ A13 y247.length y247 := (by rw [hA13]; exact hr13)
          rw [← hy13, ← hA13, ← hc13] at hcut13
          have HO251 := Aside0.mk (show Kd.V (Kd.int .u32) 39 _ w.heap.size _ (.slice A13 y247.length c13) y247 from Kd.V_mk (by rw [hy13, hc13]; exact Nat.sub_le_sub_right hroom13 _) hr13)
          have HC251 := Aside0.mk (show y247.length ≤ c13 from by rw [hy13, hc13]; exact Nat.sub_le_sub_right hroom13 _)
          clear hr13 hC13 hroom13 hi013 hsz13 hc13
          have KY13 := Aside0.mk hy13
          have KA13 := Aside0.mk hA13
          clear hy13 hA13
          replace q13 := eq_true q13
          go_wp2
          repeat (go_quiet (fail); try go_wp2)
          go_roundg k1
          case measure => have := HK1.out; omega
          case rel => exact ⟨(y242), (y247), H', ⟨by have := HK1.out; omega⟩, ⟨by (with_reducible repeat (first | apply Kd.V_alloc | apply Kd.V_drewN | apply Kd.V_drew)); exact HO246.out⟩, ⟨by (with_reducible repeat (first | apply Kd.V_alloc | apply Kd.V_drewN | apply Kd.V_drew)); exact HO251.out⟩, ⟨by repeat (first | (with_reducible first | exact HB.out | apply below_alloc | apply pw_below_drewN | apply below_drew1) | exact HB.out)⟩⟩
         ·
          rw [if_neg c9] at H
          exact absurd H (by simp)
        ·
         rw [if_neg c8] at H
         exact absurd H (by simp)
       ·
        rw [if_neg c7] at H
        have c7b0 : ((rd x0_1 0) == (rd x1_1 0)) = false := beq_eq_false_iff_ne.mpr c7
        have c7b1 : ((rd x0_1 0) != (rd x1_1 0)) = true := bne_iff_ne.mpr c7
        obtain rfl := Option.some.inj H
        obtain ⟨Ao14, co14, eo14⟩ := Kd.V_slice HO_0.out
        subst eo14
        have p240 : 0 ≤ (0 : Int) := (by omega)
        have q240 : 0 < (x0_1.length : Int) := of_decide_eq_true (by first | (with_reducible assumption) | assumption)
        obtain ⟨ad240, e240, hx240_0⟩ := Kd.at_int (Kd.V_reads' HO_0.out).2.2 0 p240 q240
        cases e240
        have qi240 : (0 < x0_1.length) = True := eq_true (by omega)
        (try rw [show ((0 : Int)).toNat = 0 from rfl] at hx240_0)
        (try rw [Addr.add_zero'] at hx240_0)
        replace p240 := eq_true p240
        replace q240 := eq_true q240
        obtain ⟨Ao15, co15, eo15⟩ := Kd.V_slice HO_1.out
        subst eo15
        have p241 : 0 ≤ (0 : Int) := (by omega)
        have q241 : 0 < (x1_1.length : Int) := of_decide_eq_true (by first | (with_reducible assumption) | assumption)
        obtain ⟨ad241, e241, hx241_0⟩ := Kd.at_int (Kd.V_reads' HO_1.out).2.2 0 p241 q241
        cases e241
        have qi241 : (0 < x1_1.length) = True := eq_true (by omega)
        (try rw [show ((0 : Int)).toNat = 0 from rfl] at hx241_0)
        (try rw [Addr.add_zero'] at hx241_0)
        replace p241 := eq_true p241
        replace q241 := eq_true q241
        go_wp2
        repeat (go_quiet (fail); try go_wp2)
        go_ret
        exact ⟨by first | rfl | (simp [errW_none, errW_some] <;> rfl) | (simp [*, errW_none, errW_some] <;> rfl), by repeat (first | (with_reducible first | exact HB.out | apply below_alloc | apply pw_below_drewN | apply below_drew1) | exact HB.out)⟩
      ·
       rw [if_neg c6] at H
       exact absurd H (by simp)
     ·
      rw [if_neg c5] at H
      exact absurd H (by simp)
    ·
     rw [if_neg c4] at H
     have c4b0 : decide (0 < (x0_1.length : Int)) = false := decide_eq_false c4
     have c4b1 : decide (0 < x0_1.length) = false := decide_eq_false (by omega)
     clear c4
     obtain rfl := Option.some.inj H
     obtain ⟨Ao16, co16, eo16⟩ := Kd.V_slice HO_0.out
     subst eo16
     go_wp2
     repeat (go_quiet (fail); try go_wp2)
     go_ret
     exact ⟨by first | rfl | (simp [errW_none, errW_some] <;> rfl) | (simp [*, errW_none, errW_some] <;> rfl), by repeat (first | (with_reducible first | exact HB.out | apply below_alloc | apply pw_below_drewN | apply below_drew1) | exact HB.out)⟩
 ·
  rw [if_neg c3] at H
  have c3b0 : ((l0.length : Int) == (l1.length : Int)) = false := beq_eq_false_iff_ne.mpr c3
  have c3b1 : ((l0.length : Int) != (l1.length : Int)) = true := bne_iff_ne.mpr c3
  have c3b2 : (l0.length == l1.length) = false := by first | simpa using c3 | (simp at c3 ⊢; omega)
  obtain rfl := Option.some.inj H
  go_enter Try.func42, Try.ntmps42
  go_wp2
  repeat (go_quiet (fail); try go_wp2)
  go_ret
  exact ⟨by first | rfl | (simp [errW_none, errW_some] <;> rfl) | (simp [*, errW_none, errW_some] <;> rfl), by repeat (first | (with_reducible first | exact HB.out | apply below_alloc | apply pw_below_drewN | apply below_drew1) | exact HB.out)⟩
end Go.Proofs.Yteiiodlgdbiimaa.F
end
