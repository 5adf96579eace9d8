/- What the proof of the law StrashTells needs, part 11: the walks of the functions that it reaches, and the plain words on what these compute. -/
import Derived.Test.YteiiodlgdbiimaaUj
section
namespace Go.Proofs.Yteiiodlgdbiimaa.F
open Go.RowKit Go.Proofs.YteiiodlgdbiimaaW.PrintWords Go.Proofs.YteiiodlgdbiimaaW.PrintLast Go.Proofs.YteiiodlgdbiimaaW.PrintMore
attribute [local go_sem] max2_int min2_int max_two min_two max_three min_three max_four min_four
set_option linter.unusedVariables false
set_option linter.unusedSimpArgs false
mutual
def inquestref24_With.j0 : Nat → List Int → Bool → Int → List (S41) → List (S68) → List Int → List Int → List Int → Option (Int × (List (S41)) × (List (S68)) × List Int × List Int × List Int × List Int × Int)
  | 0, _, _, _, _, _, _, _, _ => none
  | k + 1, x1, x35, x411000, x411001, x411002, x411003, x411004, x411005 => if x35 = true then (some (0, ([] : List (S41)), ([] : List (S68)), ([] : List Int), ([] : List Int), ([] : List Int), ([] : List Int), 2)) else (inquestref24_With.l0 k x1 0 x411000 x411001 x411002 x411003 x411004 x411005)
def inquestref24_With.l0 : Nat → List Int → Int → Int → List (S41) → List (S68) → List Int → List Int → List Int → Option (Int × (List (S41)) × (List (S68)) × List Int × List Int × List Int × List Int × Int)
  | 0, _, _, _, _, _, _, _, _ => none
  | k + 1, x1, x7, x411000, x411001, x411002, x411003, x411004, x411005 => if x7 < (x1.length : Int) then (if 0 ≤ x7 then (if (rd x1 x7) > 2 then (some (0, ([] : List (S41)), ([] : List (S68)), ([] : List Int), ([] : List Int), ([] : List Int), ([] : List Int), 2)) else (inquestref24_With.l0 k x1 (wrap64 (x7 + 1)) x411000 x411001 x411002 x411003 x411004 x411005)) else (none)) else (inquestref24_With.l1 k x1 ((wrap64 ((wrap64 (1 + x411000)) + (x411001.length : Int))) % 4294967296) ([] : List Int) ([] : List (S68)) 0 x411000 x411001 x411002 x411003 x411004 x411005)
def inquestref24_With.l1 : Nat → List Int → Int → List Int → List (S68) → Int → Int → List (S41) → List (S68) → List Int → List Int → List Int → Option (Int × (List (S41)) × (List (S68)) × List Int × List Int × List Int × List Int × Int)
  | 0, _, _, _, _, _, _, _, _, _, _, _ => none
  | k + 1, x1, x8, x9, x10, x11, x411000, x411001, x411002, x411003, x411004, x411005 => if (wrap64 (x11)) < (x1.length : Int) then (if 0 ≤ x11 then (if x11 < (x1.length : Int) then (if (rd x1 x11) = 2 then (if x11 < x8 then (if x9.length < 35184372088832 then (inquestref24_With.l1 k x1 x8 (x9 ++ [(2 * x11) % 4294967296]) x10 ((x11 + 1) % 4294967296) x411000 x411001 x411002 x411003 x411004 x411005) else (none)) else (if 0 ≤ ((x11 - x8) % 4294967296) then (if ((x11 - x8) % 4294967296) < (x411002.length : Int) then ((inquestref24_Lit.f x9 ((rd_T68 x411002 ((x11 - x8) % 4294967296)).f0)).bind fun t426 => ((inquestref24_Lit.f x9 ((rd_T68 x411002 ((x11 - x8) % 4294967296)).f1)).bind fun t427 => ((inquestref24_one.f k x10 x8 t426 t427).bind fun bt428 => (if bt428.2 = true then (if x9.length < 35184372088832 then (inquestref24_With.l1 k x1 x8 (x9 ++ [bt428.1]) x10 ((x11 + 1) % 4294967296) x411000 x411001 x411002 x411003 x411004 x411005) else (none)) else (if x10.length < 17592186044416 then (if x9.length < 35184372088832 then (inquestref24_With.l1 k x1 x8 (x9 ++ [(2 * ((x8 + (((x10.length : Int)) % 4294967296)) % 4294967296)) % 4294967296]) (x10 ++ [(⟨mx t426 t427, mn t426 t427⟩ : S68)]) ((x11 + 1) % 4294967296) x411000 x411001 x411002 x411003 x411004 x411005) else (none)) else (none)))))) else (none)) else (none))) else (if x9.length < 35184372088832 then (inquestref24_With.l1 k x1 x8 (x9 ++ [(rd x1 x11) % 4294967296]) x10 ((x11 + 1) % 4294967296) x411000 x411001 x411002 x411003 x411004 x411005) else (none))) else (none)) else (none)) else (inquestref24_With.l2 k x9 0 x411000 x411001 x411002 x411003 x411004 x411005 x411000 ([] : List (S41)) x10)
def inquestref24_With.l2 : Nat → List Int → Int → Int → List (S41) → List (S68) → List Int → List Int → List Int → Int → List (S41) → List (S68) → Option (Int × (List (S41)) × (List (S68)) × List Int × List Int × List Int × List Int × Int)
  | 0, _, _, _, _, _, _, _, _, _, _, _ => none
  | k + 1, x9, x18, x411000, x411001, x411002, x411003, x411004, x411005, x440000, x440001, x440002 => if x18 < (x411001.length : Int) then (if 0 ≤ x18 then ((inquestref24_Lit.f x9 ((rd_T41 x411001 x18).f0)).bind fun t441 => (if x440001.length < 17592186044416 then (inquestref24_With.l2 k x9 (wrap64 (x18 + 1)) x411000 x411001 x411002 x411003 x411004 x411005 x440000 (x440001 ++ [(⟨t441, (rd_T41 x411001 x18).f1⟩ : S41)]) x440002) else (none))) else (none)) else ((inquestref24_lits.f k x9 x411003).bind fun t446 => ((inquestref24_lits.f k x9 x411004).bind fun t449 => ((inquestref24_lits.f k x9 x411005).bind fun t452 => (some (x440000, x440001, x440002, t446, t449, t452, x9, 0)))))
end
def inquestref24_With.f (k : Nat) (a0_0 : Int) (l0_1 : List (S41)) (l0_2 : List (S68)) (l0_3 : List Int) (l0_4 : List Int) (l0_5 : List Int) (l1 : List Int) : Option (Int × (List (S41)) × (List (S68)) × List Int × List Int × List Int × List Int × Int) := (inquestref03_May.f k a0_0 l0_1 l0_2 l0_3 l0_4 l0_5).bind fun t412 => (if t412 = true then ((inquestref03_Vars.f k a0_0 l0_1 l0_2 l0_3 l0_4 l0_5).bind fun t413 => (if (l1.length : Int) = (wrap64 (t413 + 1)) then (if 0 < (l1.length : Int) then (inquestref24_With.j0 k l1 ((rd l1 0) != 0) a0_0 l0_1 l0_2 l0_3 l0_4 l0_5) else (none)) else (inquestref24_With.j0 k l1 true a0_0 l0_1 l0_2 l0_3 l0_4 l0_5))) else (inquestref24_With.j0 k l1 true a0_0 l0_1 l0_2 l0_3 l0_4 l0_5))
def inquestref24_With.T19 : Bool × List (List Nat × List Nat) := (true, [([], []), ([], []), ([1], [1]), ([0, 2], [0, 2]), ([], []), ([], []), ([5], [5]), ([4, 6, 3], [4, 6]), ([3, 7, 0, 1, 2, 3], [3]), ([7, 8, 0, 1, 2, 3, 4, 5, 6, 7, 8], [7])])
def inquestref24_With.B19 : List Nat := [0, 0, 2, 7, 0, 0, 32, 127, 255, 511]
theorem inquestref24_With.tab19 : rtab .any (opsOf Try.f44 19) = inquestref24_With.T19 := by kernel_rfl
theorem inquestref24_With.bits19 : waitsOk inquestref24_With.T19.2 inquestref24_With.B19 = true := by kernel_rfl
def inquestref24_With.T29 : Bool × List (List Nat × List Nat) := (true, [([], []), ([0], [0]), ([], []), ([], []), ([3], [3]), ([], []), ([4, 5], [4, 5]), ([6], [6]), ([7], [7]), ([2, 8], [2, 8]), ([], []), ([10], [10]), ([], []), ([11, 12], [11, 12]), ([13], [13]), ([14], [14]), ([9, 15], [9, 15]), ([16], [16]), ([1, 17, 9], [1, 17]), ([0, 1, 2, 3, 4, 5, 6, 7, 8, 9, 10, 11, 12, 13, 14, 15, 16, 17, 18], []), ([19, 18, 18, 0, 1, 2, 3, 4, 5, 6, 7, 8, 9, 10, 11, 12, 13, 14, 15, 16, 17, 18], [18, 19])])
def inquestref24_With.B29 : List Nat := [0, 1, 0, 0, 8, 0, 56, 120, 248, 508, 0, 1024, 0, 7168, 15360, 31744, 65532, 131068, 262143, 524287, 1048575]
theorem inquestref24_With.tab29 : rtab .any (opsOf Try.f44 29) = inquestref24_With.T29 := by kernel_rfl
theorem inquestref24_With.bits29 : waitsOk inquestref24_With.T29.2 inquestref24_With.B29 = true := by kernel_rfl
set_option maxHeartbeats 8000000 in
set_option maxRecDepth 100000 in
theorem inquestref24_With.calls (k : Nat) (a0_0 : Int) (A0_1 : Option Addr) (c0_1 : Nat) (l0_1 : List (S41)) (A0_2 : Option Addr) (c0_2 : Nat) (l0_2 : List (S68)) (A0_3 : Option Addr) (c0_3 : Nat) (l0_3 : List Int) (A0_4 : Option Addr) (c0_4 : Nat) (l0_4 : List Int) (A0_5 : Option Addr) (c0_5 : Nat) (l0_5 : List Int) (A1 : Option Addr) (c1 : Nat) (l1 : List Int) (r1 : Int) (r2 : List (S41)) (r3 : List (S68)) (r4 : List Int) (r5 : List Int) (r6 : List Int) (r7 : List Int) (r8 : Int) (w : World) (hr0_1 : Kd.C k41 w A0_1 l0_1.length l0_1) (hc0_1 : l0_1.length ≤ c0_1) (hr0_2 : Kd.C k68 w A0_2 l0_2.length l0_2) (hc0_2 : l0_2.length ≤ c0_2) (hr0_3 : Kd.C (Kd.int .u32) w A0_3 l0_3.length l0_3) (hc0_3 : l0_3.length ≤ c0_3) (hr0_4 : Kd.C (Kd.int .u32) w A0_4 l0_4.length l0_4) (hc0_4 : l0_4.length ≤ c0_4) (hr0_5 : Kd.C (Kd.int .u32) w A0_5 l0_5.length l0_5) (hc0_5 : l0_5.length ≤ c0_5) (hr1 : Kd.C (Kd.int .u8) w A1 l1.length l1) (hc1 : l1.length ≤ c1) (h : inquestref24_With.f k a0_0 l0_1 l0_2 l0_3 l0_4 l0_5 l1 = some (r1, r2, r3, r4, r5, r6, r7, r8)) :
  Calls Try.prog 44 #[.agg #[.int .i64 a0_0, .slice A0_1 l0_1.length c0_1, .slice A0_2 l0_2.length c0_2, .slice A0_3 l0_3.length c0_3, .slice A0_4 l0_4.length c0_4, .slice A0_5 l0_5.length c0_5], .slice A1 l1.length c1] w fun e w' => ∃ v1_ v2_ v3_ v4_ v5_ v6_ : Value, e = .returned (.tuple #[.agg #[.int .i64 r1, v1_, v2_, v3_, v4_, v5_], v6_, .int .i64 r8]) ∧ Kd.R k41 41 w' w.heap.size (fun _ => True) v1_ r2 ∧ Kd.R k68 68 w' w.heap.size (fun _ => True) v2_ r3 ∧ Kd.R (Kd.int .u32) 39 w' w.heap.size (fun k_ => some k_ ≠ (v4_ : Value).ownBlock ∧ some k_ ≠ (v5_ : Value).ownBlock ∧ some k_ ≠ (v6_ : Value).ownBlock) v3_ r4 ∧ Kd.R (Kd.int .u32) 39 w' w.heap.size (fun k_ => some k_ ≠ (v3_ : Value).ownBlock ∧ some k_ ≠ (v5_ : Value).ownBlock ∧ some k_ ≠ (v6_ : Value).ownBlock) v4_ r5 ∧ Kd.R (Kd.int .u32) 39 w' w.heap.size (fun k_ => some k_ ≠ (v3_ : Value).ownBlock ∧ some k_ ≠ (v4_ : Value).ownBlock ∧ some k_ ≠ (v6_ : Value).ownBlock) v5_ r6 ∧ Kd.R (Kd.int .u32) 39 w' w.heap.size (fun k_ => some k_ ≠ (v3_ : Value).ownBlock ∧ some k_ ≠ (v4_ : Value).ownBlock ∧ some k_ ≠ (v5_ : Value).ownBlock) v6_ r7 ∧ Below w.heap.size w w' := by
 have hu26 := Try.underlying26
 have hu68 := Try.underlying68
 have hu41 := Try.underlying41
 have HR0_1 := Aside0.mk hr0_1
 have HC0_1 := Aside0.mk hc0_1
 clear hr0_1 hc0_1
 have HR0_2 := Aside0.mk hr0_2
 have HC0_2 := Aside0.mk hc0_2
 clear hr0_2 hc0_2
 have HR0_3 := Aside0.mk hr0_3
 have HC0_3 := Aside0.mk hc0_3
 clear hr0_3 hc0_3
 have HR0_4 := Aside0.mk hr0_4
 have HC0_4 := Aside0.mk hc0_4
 clear hr0_4 hc0_4
 have HR0_5 := Aside0.mk hr0_5
 have HC0_5 := Aside0.mk hc0_5
 clear hr0_5 hc0_5
 have HR1 := Aside0.mk hr1
 have HC1 := Aside0.mk hc1
 clear hr1 hc1
 have HB := Aside0.mk (Below.refl w.heap.size w)
 have H : ((inquestref03_May.f k a0_0 l0_1 l0_2 l0_3 l0_4 l0_5).bind fun t412 => (if t412 = true then ((inquestref03_Vars.f k a0_0 l0_1 l0_2 l0_3 l0_4 l0_5).bind fun t413 => (if (l1.length : Int) = (wrap64 (t413 + 1)) then (if 0 < (l1.length : Int) then (inquestref24_With.j0 k l1 ((rd l1 0) != 0) a0_0 l0_1 l0_2 l0_3 l0_4 l0_5) else (none)) else (inquestref24_With.j0 k l1 true a0_0 l0_1 l0_2 l0_3 l0_4 l0_5))) else (inquestref24_With.j0 k l1 true a0_0 l0_1 l0_2 l0_3 l0_4 l0_5))) = some (r1, r2, r3, r4, r5, r6, r7, r8) := h
 clear h
 have HC3 := Aside0.mk H
 clear H
 go_enter Try.func44, Try.ntmps44
 go_upto_region 1 with (first | ((with_reducible refine gate_dst (N := 2) rfl ?_); (try (refine gate_guard (by rfl) ?_; dsimp only)); refine box_event ?hg (N := 2) ?hd (cs := #[.int .i64 a0_0, .slice A0_1 l0_1.length c0_1, .slice A0_2 l0_2.length c0_2, .slice A0_3 l0_3.length c0_3, .slice A0_4 l0_4.length c0_4, .slice A0_5 l0_5.length c0_5]) (t := 26) ?hr ?_; (case hd => rfl); (case hg => rfl); (case hr => first | (go_simp; done) | (go_simp; rfl)); intro gb410 hg w4 hbox hb; have n0_ := Aside0.mk (below_step (by repeat (first | (with_reducible first | exact HB.out | apply below_alloc | apply pw_below_drewN | apply below_drew1) | exact HB.out)) hb); have n1_ := Aside0.mk (hbox); have n2_ := Aside0.mk ((by rw [hg]; exact (below_size (by repeat (first | (with_reducible first | exact HB.out | apply below_alloc | apply pw_below_drewN | apply below_drew1) | exact HB.out))) : w.heap.size ≤ gb410)); have n3_ := Aside0.mk ((by rw [hg]; exact (below_size (by repeat (first | (with_reducible first | exact HB.out | apply below_alloc | apply pw_below_drewN | apply below_drew1) | exact HB.out))) : w.heap.size ≤ gb410)); clear HB; have HB := n0_; have BK410 := n1_; have GW410 := n2_; have GE410 := n3_; clear n0_ n1_ n2_ n3_; clear hb hbox hg) | ((with_reducible refine gate_dst (N := 4) rfl ?_); (try (refine gate_guard (by rfl) ?_; dsimp only)); refine box_event ?hg (N := 4) ?hd (cs := #[.int .i64 0, .slice none 0 0, .slice none 0 0, .slice none 0 0, .slice none 0 0, .slice none 0 0]) (t := 26) ?hr ?_; (case hd => rfl); (case hg => rfl); (case hr => first | (go_simp; done) | (go_simp; rfl)); intro gb411 hg w5 hbox hb; have n0_ := Aside0.mk (blk_below (g := gb410) (o := .cells #[.int .i64 a0_0, .slice A0_1 l0_1.length c0_1, .slice A0_2 l0_2.length c0_2, .slice A0_3 l0_3.length c0_3, .slice A0_4 l0_4.length c0_4, .slice A0_5 l0_5.length c0_5] 26 (0, 0)) (by (with_reducible repeat (first | refine blk_drewN ?_ _ | refine blk_drew ?_ | refine blk_alloc ?_ _)); exact BK410.out) hb); have n1_ := Aside0.mk (below_step (by repeat (first | (with_reducible first | exact HB.out | apply below_alloc | apply pw_below_drewN | apply below_drew1 | refine below_set ?_ GE410.out) | exact HB.out)) hb); have n2_ := Aside0.mk (hbox); have n3_ := Aside0.mk ((by rw [hg]; exact (below_size (by repeat (first | (with_reducible first | exact HB.out | apply below_alloc | apply pw_below_drewN | apply below_drew1 | refine below_set ?_ GE410.out) | exact HB.out))) : w.heap.size ≤ gb411)); have n4_ := Aside0.mk ((by rw [hg]; exact (below_size (by repeat (first | (with_reducible first | exact HB.out | apply below_alloc | apply pw_below_drewN | apply below_drew1 | refine below_set ?_ GE410.out) | exact HB.out))) : w.heap.size ≤ gb411)); have n5_ := Aside0.mk ((by rw [hg]; exact Nat.ne_of_lt (blk_lt (g := gb410) (o := .cells #[.int .i64 a0_0, .slice A0_1 l0_1.length c0_1, .slice A0_2 l0_2.length c0_2, .slice A0_3 l0_3.length c0_3, .slice A0_4 l0_4.length c0_4, .slice A0_5 l0_5.length c0_5] 26 (0, 0)) (by (with_reducible repeat (first | refine blk_drewN ?_ _ | refine blk_drew ?_ | refine blk_alloc ?_ _)); exact BK410.out)) : gb410 ≠ gb411)); have n6_ := Aside0.mk ((by rw [hg]; exact Nat.ne_of_gt (blk_lt (g := gb410) (o := .cells #[.int .i64 a0_0, .slice A0_1 l0_1.length c0_1, .slice A0_2 l0_2.length c0_2, .slice A0_3 l0_3.length c0_3, .slice A0_4 l0_4.length c0_4, .slice A0_5 l0_5.length c0_5] 26 (0, 0)) (by (with_reducible repeat (first | refine blk_drewN ?_ _ | refine blk_drew ?_ | refine blk_alloc ?_ _)); exact BK410.out)) : gb411 ≠ gb410)); clear BK410; clear HB; have BK410 := n0_; have HB := n1_; have BK411 := n2_; have GW411 := n3_; have GE411 := n4_; have NB410_411 := n5_; have NB411_410 := n6_; clear n0_ n1_ n2_ n3_ n4_ n5_ n6_; clear hb hbox hg))
 (try simp only [Act.put, List.setIfInBounds_toArray, List.set_cons_zero, List.set_cons_succ])
 go_cut [35] (fun v35 wc => ∃ (kq : Nat) (x35_2 : Bool), v35 = .bool x35_2 ∧ Aside0 (inquestref24_With.j0 kq l1 x35_2 a0_0 l0_1 l0_2 l0_3 l0_4 l0_5 = some (r1, r2, r3, r4, r5, r6, r7, r8)) ∧ Aside0 (kq ≤ k) ∧ Aside0 (wc.heap[gb410]? = some (.cells #[.int .i64 a0_0, (.slice A0_1 l0_1.length c0_1), (.slice A0_2 l0_2.length c0_2), (.slice A0_3 l0_3.length c0_3), (.slice A0_4 l0_4.length c0_4), (.slice A0_5 l0_5.length c0_5)] 26 (0, 0))) ∧ Aside0 (wc.heap[gb411]? = some (.cells #[.int .i64 0, (.slice none 0 0), (.slice none 0 0), (.slice none 0 0), (.slice none 0 0), (.slice none 0 0)] 26 (0, 0))) ∧ Aside0 (Below w.heap.size w wc))
 case first =>
  have H := HC3.out
  clear HC3
  replace H := Option.bind_eq_some_iff.mp H
  obtain ⟨t412, A60, H⟩ := H
  replace H : (if t412 = true then ((inquestref03_Vars.f k a0_0 l0_1 l0_2 l0_3 l0_4 l0_5).bind fun t413 => (if (l1.length : Int) = (wrap64 (t413 + 1)) then (if 0 < (l1.length : Int) then (inquestref24_With.j0 k l1 ((rd l1 0) != 0) a0_0 l0_1 l0_2 l0_3 l0_4 l0_5) else (none)) else (inquestref24_With.j0 k l1 true a0_0 l0_1 l0_2 l0_3 l0_4 l0_5))) else (inquestref24_With.j0 k l1 true a0_0 l0_1 l0_2 l0_3 l0_4 l0_5)) = some (r1, r2, r3, r4, r5, r6, r7, r8) := H
  have A6 := Aside0.mk A60
  clear A60
  by_cases c7 : t412 = true
  ·
   subst c7
   have H1 : ((inquestref03_Vars.f k a0_0 l0_1 l0_2 l0_3 l0_4 l0_5).bind fun t413 => (if (l1.length : Int) = (wrap64 (t413 + 1)) then (if 0 < (l1.length : Int) then (inquestref24_With.j0 k l1 ((rd l1 0) != 0) a0_0 l0_1 l0_2 l0_3 l0_4 l0_5) else (none)) else (inquestref24_With.j0 k l1 true a0_0 l0_1 l0_2 l0_3 l0_4 l0_5))) = some (r1, r2, r3, r4, r5, r6, r7, r8) := by rw [if_pos rfl] at H; exact H
   clear H
   have H := H1
   clear H1
   replace H := Option.bind_eq_some_iff.mp H
   obtain ⟨t413, A80, H⟩ := H
   replace H : (if (l1.length : Int) = (wrap64 (t413 + 1)) then (if 0 < (l1.length : Int) then (inquestref24_With.j0 k l1 ((rd l1 0) != 0) a0_0 l0_1 l0_2 l0_3 l0_4 l0_5) else (none)) else (inquestref24_With.j0 k l1 true a0_0 l0_1 l0_2 l0_3 l0_4 l0_5)) = some (r1, r2, r3, r4, r5, r6, r7, r8) := H
   have A8 := Aside0.mk A80
   clear A80
   by_cases c9 : (l1.length : Int) = (wrap64 (t413 + 1))
   ·
    rw [if_pos c9] at H
    have c9b0 : ((l1.length : Int) == (wrap64 (t413 + 1))) = true := beq_iff_eq.mpr c9
    have c9b1 : ((l1.length : Int) != (wrap64 (t413 + 1))) = false := bne_eq_false_iff_eq.mpr c9
    clear c9
    (first | rw [c9b0] | (simp only [i64_w, i32_w]; rw [c9b0]) | skip)
    by_cases c10 : 0 < (l1.length : Int)
    ·
     rw [if_pos c10] at H
     have c10b0 : decide (0 < (l1.length : Int)) = true := decide_eq_true c10
     have c10b1 : decide (0 < l1.length) = true := decide_eq_true (by omega)
     clear c10
     have H' := Aside0.mk H
     clear H
     have hnb11 := NB410_411.out
     have hnc11 := NB411_410.out
     have hcz12_0 : w5.cell? ⟨gb410, 0, none⟩ = some (.int .i64 a0_0) := (blk_cell BK410.out 0).trans rfl
     have hcz12_1 : w5.cell? ⟨gb410, 1, none⟩ = some (.slice A0_1 l0_1.length c0_1) := (blk_cell BK410.out 1).trans rfl
     have hcz12_2 : w5.cell? ⟨gb410, 2, none⟩ = some (.slice A0_2 l0_2.length c0_2) := (blk_cell BK410.out 2).trans rfl
     have hcz12_3 : w5.cell? ⟨gb410, 3, none⟩ = some (.slice A0_3 l0_3.length c0_3) := (blk_cell BK410.out 3).trans rfl
     have hcz12_4 : w5.cell? ⟨gb410, 4, none⟩ = some (.slice A0_4 l0_4.length c0_4) := (blk_cell BK410.out 4).trans rfl
     have hcz12_5 : w5.cell? ⟨gb410, 5, none⟩ = some (.slice A0_5 l0_5.length c0_5) := (blk_cell BK410.out 5).trans rfl
     have hfz12_0 := blk_frozen BK410.out 0
     have hfz12_1 := blk_frozen BK410.out 1
     have hfz12_2 := blk_frozen BK410.out 2
     have hfz12_3 := blk_frozen BK410.out 3
     have hfz12_4 := blk_frozen BK410.out 4
     have hfz12_5 := blk_frozen BK410.out 5
     go_wp2_with (first | ((with_reducible refine gate_callee (f := 26) rfl ?_); refine goesL_ (some 20) rfl rfl Try.func26 (by kernel_rfl) rfl #[.agg #[.int .i64 a0_0, .slice A0_1 l0_1.length c0_1, .slice A0_2 l0_2.length c0_2, .slice A0_3 l0_3.length c0_3, .slice A0_4 l0_4.length c0_4, .slice A0_5 l0_5.length c0_5]] rfl (by (try simp only [List.map_toArray, List.map_cons, List.map_nil]); first | done | rfl | (simp only [List.length_drop, List.length_take]; rfl)) ?_; (with_reducible refine (inquestref03_May.calls k a0_0 _ _ l0_1 _ _ l0_2 _ _ l0_3 _ _ l0_4 _ _ l0_5 true _ ?side1 ?side2 ?side3 ?side4 ?side5 ?side6 ?side7 ?side8 ?side9 ?side10 A6.out).mono ?_); (case side1 => repeat (first | exact (Kd.C_below HR0_1.out HB.out) | (with_reducible refine Kd.C_alloc ?_ _) | (with_reducible refine Kd.C_drewN ?_ _) | (with_reducible refine Kd.C_drew ?_))); (case side2 => exact HC0_1.out); (case side3 => repeat (first | exact (Kd.C_below HR0_2.out HB.out) | (with_reducible refine Kd.C_alloc ?_ _) | (with_reducible refine Kd.C_drewN ?_ _) | (with_reducible refine Kd.C_drew ?_))); (case side4 => exact HC0_2.out); (case side5 => repeat (first | exact (Kd.C_below HR0_3.out HB.out) | (with_reducible refine Kd.C_alloc ?_ _) | (with_reducible refine Kd.C_drewN ?_ _) | (with_reducible refine Kd.C_drew ?_))); (case side6 => exact HC0_3.out); (case side7 => repeat (first | exact (Kd.C_below HR0_4.out HB.out) | (with_reducible refine Kd.C_alloc ?_ _) | (with_reducible refine Kd.C_drewN ?_ _) | (with_reducible refine Kd.C_drew ?_))); (case side8 => exact HC0_4.out); (case side9 => repeat (first | exact (Kd.C_below HR0_5.out HB.out) | (with_reducible refine Kd.C_alloc ?_ _) | (with_reducible refine Kd.C_drewN ?_ _) | (with_reducible refine Kd.C_drew ?_))); (case side10 => exact HC0_5.out); rintro e w13 ⟨rfl, hb⟩; refine ⟨_, rfl, ?_⟩; have n0_ := Aside0.mk (blk_below (g := gb410) (o := .cells #[.int .i64 a0_0, .slice A0_1 l0_1.length c0_1, .slice A0_2 l0_2.length c0_2, .slice A0_3 l0_3.length c0_3, .slice A0_4 l0_4.length c0_4, .slice A0_5 l0_5.length c0_5] 26 (0, 0)) (by (with_reducible repeat (first | refine blk_drewN ?_ _ | refine blk_drew ?_ | refine blk_alloc ?_ _)); exact BK410.out) hb); have n1_ := Aside0.mk (blk_below (g := gb411) (o := .cells #[.int .i64 0, .slice none 0 0, .slice none 0 0, .slice none 0 0, .slice none 0 0, .slice none 0 0] 26 (0, 0)) (by (with_reducible repeat (first | refine blk_drewN ?_ _ | refine blk_drew ?_ | refine blk_alloc ?_ _)); exact BK411.out) hb); have n2_ := Aside0.mk (below_step (by repeat (first | (with_reducible first | exact HB.out | apply below_alloc | apply pw_below_drewN | apply below_drew1 | refine below_set ?_ GE410.out | refine below_set ?_ GE411.out) | exact HB.out)) hb); clear BK410; clear BK411; clear HB; have BK410 := n0_; have BK411 := n1_; have HB := n2_; clear n0_ n1_ n2_; (try clear hb); (try clear hb2); (try clear hk); (try clear hi); have hcz14_0 : w13.cell? ⟨gb410, 0, none⟩ = some (.int .i64 a0_0) := (blk_cell BK410.out 0).trans rfl; have hcz14_1 : w13.cell? ⟨gb410, 1, none⟩ = some (.slice A0_1 l0_1.length c0_1) := (blk_cell BK410.out 1).trans rfl; have hcz14_2 : w13.cell? ⟨gb410, 2, none⟩ = some (.slice A0_2 l0_2.length c0_2) := (blk_cell BK410.out 2).trans rfl; have hcz14_3 : w13.cell? ⟨gb410, 3, none⟩ = some (.slice A0_3 l0_3.length c0_3) := (blk_cell BK410.out 3).trans rfl; have hcz14_4 : w13.cell? ⟨gb410, 4, none⟩ = some (.slice A0_4 l0_4.length c0_4) := (blk_cell BK410.out 4).trans rfl; have hcz14_5 : w13.cell? ⟨gb410, 5, none⟩ = some (.slice A0_5 l0_5.length c0_5) := (blk_cell BK410.out 5).trans rfl; have hfz14_0 := blk_frozen BK410.out 0; have hfz14_1 := blk_frozen BK410.out 1; have hfz14_2 := blk_frozen BK410.out 2; have hfz14_3 := blk_frozen BK410.out 3; have hfz14_4 := blk_frozen BK410.out 4; have hfz14_5 := blk_frozen BK410.out 5) | (go_at_call 27; (with_reducible refine (inquestref03_Vars.calls k a0_0 _ _ l0_1 _ _ l0_2 _ _ l0_3 _ _ l0_4 _ _ l0_5 t413 _ ?side1 ?side2 ?side3 ?side4 ?side5 ?side6 ?side7 ?side8 ?side9 ?side10 A8.out).mono ?_); (case side1 => repeat (first | exact (Kd.C_below HR0_1.out HB.out) | (with_reducible refine Kd.C_alloc ?_ _) | (with_reducible refine Kd.C_drewN ?_ _) | (with_reducible refine Kd.C_drew ?_))); (case side2 => exact HC0_1.out); (case side3 => repeat (first | exact (Kd.C_below HR0_2.out HB.out) | (with_reducible refine Kd.C_alloc ?_ _) | (with_reducible refine Kd.C_drewN ?_ _) | (with_reducible refine Kd.C_drew ?_))); (case side4 => exact HC0_2.out); (case side5 => repeat (first | exact (Kd.C_below HR0_3.out HB.out) | (with_reducible refine Kd.C_alloc ?_ _) | (with_reducible refine Kd.C_drewN ?_ _) | (with_reducible refine Kd.C_drew ?_))); (case side6 => exact HC0_3.out); (case side7 => repeat (first | exact (Kd.C_below HR0_4.out HB.out) | (with_reducible refine Kd.C_alloc ?_ _) | (with_reducible refine Kd.C_drewN ?_ _) | (with_reducible refine Kd.C_drew ?_))); (case side8 => exact HC0_4.out); (case side9 => repeat (first | exact (Kd.C_below HR0_5.out HB.out) | (with_reducible refine Kd.C_alloc ?_ _) | (with_reducible refine Kd.C_drewN ?_ _) | (with_reducible refine Kd.C_drew ?_))); (case side10 => exact HC0_5.out); rintro e w15 ⟨rfl, hb⟩; have n0_ := Aside0.mk (blk_below (g := gb410) (o := .cells #[.int .i64 a0_0, .slice A0_1 l0_1.length c0_1, .slice A0_2 l0_2.length c0_2, .slice A0_3 l0_3.length c0_3, .slice A0_4 l0_4.length c0_4, .slice A0_5 l0_5.length c0_5] 26 (0, 0)) (by (with_reducible repeat (first | refine blk_drewN ?_ _ | refine blk_drew ?_ | refine blk_alloc ?_ _)); exact BK410.out) hb); have n1_ := Aside0.mk (blk_below (g := gb411) (o := .cells #[.int .i64 0, .slice none 0 0, .slice none 0 0, .slice none 0 0, .slice none 0 0, .slice none 0 0] 26 (0, 0)) (by (with_reducible repeat (first | refine blk_drewN ?_ _ | refine blk_drew ?_ | refine blk_alloc ?_ _)); exact BK411.out) hb); have n2_ := Aside0.mk (below_step (by repeat (first | (with_reducible first | exact HB.out | apply below_alloc | apply pw_below_drewN | apply below_drew1 | refine below_set ?_ GE410.out | refine below_set ?_ GE411.out) | exact HB.out)) hb); clear BK410; clear BK411; clear HB; have BK410 := n0_; have BK411 := n1_; have HB := n2_; clear n0_ n1_ n2_; (try clear hb); (try clear hb2); (try clear hk); (try clear hi); have p414 : 0 ≤ (0 : Int) := (by omega); have q414 : 0 < (l1.length : Int) := of_decide_eq_true (by first | (with_reducible assumption) | assumption); obtain ⟨ad414, e414, hx414_0⟩ := Kd.at_int HR1.out 0 p414 q414; cases e414; have qi414 : (0 < l1.length) = True := eq_true (by omega); (try rw [show ((0 : Int)).toNat = 0 from rfl] at hx414_0); (try rw [Addr.add_zero'] at hx414_0); replace hx414_0 := (HB.out.cell (World.block_lt_of_cell? w _ hx414_0)).trans hx414_0; replace p414 := eq_true p414; replace q414 := eq_true q414))
     go_meet
     case rel => exact ⟨_, (((rd l1 0) != 0)), (by first | rfl | (simp; done) | (simp [*]; done)), H', ⟨by first | omega | exact Nat.le_refl _⟩, ⟨by (with_reducible repeat (first | refine blk_drewN ?_ _ | refine blk_drew ?_ | refine blk_alloc ?_ _)); exact BK410.out⟩, ⟨by (with_reducible repeat (first | refine blk_drewN ?_ _ | refine blk_drew ?_ | refine blk_alloc ?_ _)); exact BK411.out⟩, ⟨by repeat (first | (with_reducible first | exact HB.out | apply below_alloc | apply pw_below_drewN | apply below_drew1 | refine below_set ?_ GE410.out | refine below_set ?_ GE411.out) | exact HB.out)⟩⟩
    ·
     rw [if_neg c10] at H
     exact absurd H (by simp)
   ·
    rw [if_neg c9] at H
    have c9b0 : ((l1.length : Int) == (wrap64 (t413 + 1))) = false := beq_eq_false_iff_ne.mpr c9
    have c9b1 : ((l1.length : Int) != (wrap64 (t413 + 1))) = true := bne_iff_ne.mpr c9
    (first | rw [c9b0] | (simp only [i64_w, i32_w]; rw [c9b0]) | skip)
    have H' := Aside0.mk H
    clear H
    have hnb16 := NB410_411.out
    have hnc16 := NB411_410.out
    have hcz17_0 : w5.cell? ⟨gb410, 0, none⟩ = some (.int .i64 a0_0) := (blk_cell BK410.out 0).trans rfl
    have hcz17_1 : w5.cell? ⟨gb410, 1, none⟩ = some (.slice A0_1 l0_1.length c0_1) := (blk_cell BK410.out 1).trans rfl
    have hcz17_2 : w5.cell? ⟨gb410, 2, none⟩ = some (.slice A0_2 l0_2.length c0_2) := (blk_cell BK410.out 2).trans rfl
    have hcz17_3 : w5.cell? ⟨gb410, 3, none⟩ = some (.slice A0_3 l0_3.length c0_3) := (blk_cell BK410.out 3).trans rfl
    have hcz17_4 : w5.cell? ⟨gb410, 4, none⟩ = some (.slice A0_4 l0_4.length c0_4) := (blk_cell BK410.out 4).trans rfl
    have hcz17_5 : w5.cell? ⟨gb410, 5, none⟩ = some (.slice A0_5 l0_5.length c0_5) := (blk_cell BK410.out 5).trans rfl
    have hfz17_0 := blk_frozen BK410.out 0
    have hfz17_1 := blk_frozen BK410.out 1
    have hfz17_2 := blk_frozen BK410.out 2
    have hfz17_3 := blk_frozen BK410.out 3
    have hfz17_4 := blk_frozen BK410.out 4
    have hfz17_5 := blk_frozen BK410.out 5
    go_wp2_with (first | ((with_reducible refine gate_callee (f := 26) rfl ?_); refine goesL_ (some 20) rfl rfl Try.func26 (by kernel_rfl) rfl #[.agg #[.int .i64 a0_0, .slice A0_1 l0_1.length c0_1, .slice A0_2 l0_2.length c0_2, .slice A0_3 l0_3.length c0_3, .slice A0_4 l0_4.length c0_4, .slice A0_5 l0_5.length c0_5]] rfl (by (try simp only [List.map_toArray, List.map_cons, List.map_nil]); first | done | rfl | (simp only [List.length_drop, List.length_take]; rfl)) ?_; (with_reducible refine (inquestref03_May.calls k a0_0 _ _ l0_1 _ _ l0_2 _ _ l0_3 _ _ l0_4 _ _ l0_5 true _ ?side1 ?side2 ?side3 ?side4 ?side5 ?side6 ?side7 ?side8 ?side9 ?side10 A6.out).mono ?_); (case side1 => repeat (first | exact (Kd.C_below HR0_1.out HB.out) | (with_reducible refine Kd.C_alloc ?_ _) | (with_reducible refine Kd.C_drewN ?_ _) | (with_reducible refine Kd.C_drew ?_))); (case side2 => exact HC0_1.out); (case side3 => repeat (first | exact (Kd.C_below HR0_2.out HB.out) | (with_reducible refine Kd.C_alloc ?_ _) | (with_reducible refine Kd.C_drewN ?_ _) | (with_reducible refine Kd.C_drew ?_))); (case side4 => exact HC0_2.out); (case side5 => repeat (first | exact (Kd.C_below HR0_3.out HB.out) | (with_reducible refine Kd.C_alloc ?_ _) | (with_reducible refine Kd.C_drewN ?_ _) | (with_reducible refine Kd.C_drew ?_))); (case side6 => exact HC0_3.out); (case side7 => repeat (first | exact (Kd.C_below HR0_4.out HB.out) | (with_reducible refine Kd.C_alloc ?_ _) | (with_reducible refine Kd.C_drewN ?_ _) | (with_reducible refine Kd.C_drew ?_))); (case side8 => exact HC0_4.out); (case side9 => repeat (first | exact (Kd.C_below HR0_5.out HB.out) | (with_reducible refine Kd.C_alloc ?_ _) | (with_reducible refine Kd.C_drewN ?_ _) | (with_reducible refine Kd.C_drew ?_))); (case side10 => exact HC0_5.out); rintro e w18 ⟨rfl, hb⟩; refine ⟨_, rfl, ?_⟩; have n0_ := Aside0.mk (blk_below (g := gb410) (o := .cells #[.int .i64 a0_0, .slice A0_1 l0_1.length c0_1, .slice A0_2 l0_2.length c0_2, .slice A0_3 l0_3.length c0_3, .slice A0_4 l0_4.length c0_4, .slice A0_5 l0_5.length c0_5] 26 (0, 0)) (by (with_reducible repeat (first | refine blk_drewN ?_ _ | refine blk_drew ?_ | refine blk_alloc ?_ _)); exact BK410.out) hb); have n1_ := Aside0.mk (blk_below (g := gb411) (o := .cells #[.int .i64 0, .slice none 0 0, .slice none 0 0, .slice none 0 0, .slice none 0 0, .slice none 0 0] 26 (0, 0)) (by (with_reducible repeat (first | refine blk_drewN ?_ _ | refine blk_drew ?_ | refine blk_alloc ?_ _)); exact BK411.out) hb); have n2_ := Aside0.mk (below_step (by repeat (first | (with_reducible first | exact HB.out | apply below_alloc | apply pw_below_drewN | apply below_drew1 | refine below_set ?_ GE410.out | refine below_set ?_ GE411.out) | exact HB.out)) hb); clear BK410; clear BK411; clear HB; have BK410 := n0_; have BK411 := n1_; have HB := n2_; clear n0_ n1_ n2_; (try clear hb); (try clear hb2); (try clear hk); (try clear hi); have hcz19_0 : w18.cell? ⟨gb410, 0, none⟩ = some (.int .i64 a0_0) := (blk_cell BK410.out 0).trans rfl; have hcz19_1 : w18.cell? ⟨gb410, 1, none⟩ = some (.slice A0_1 l0_1.length c0_1) := (blk_cell BK410.out 1).trans rfl; have hcz19_2 : w18.cell? ⟨gb410, 2, none⟩ = some (.slice A0_2 l0_2.length c0_2) := (blk_cell BK410.out 2).trans rfl; have hcz19_3 : w18.cell? ⟨gb410, 3, none⟩ = some (.slice A0_3 l0_3.length c0_3) := (blk_cell BK410.out 3).trans rfl; have hcz19_4 : w18.cell? ⟨gb410, 4, none⟩ = some (.slice A0_4 l0_4.length c0_4) := (blk_cell BK410.out 4).trans rfl; have hcz19_5 : w18.cell? ⟨gb410, 5, none⟩ = some (.slice A0_5 l0_5.length c0_5) := (blk_cell BK410.out 5).trans rfl; have hfz19_0 := blk_frozen BK410.out 0; have hfz19_1 := blk_frozen BK410.out 1; have hfz19_2 := blk_frozen BK410.out 2; have hfz19_3 := blk_frozen BK410.out 3; have hfz19_4 := blk_frozen BK410.out 4; have hfz19_5 := blk_frozen BK410.out 5) | (go_at_call 27; (with_reducible refine (inquestref03_Vars.calls k a0_0 _ _ l0_1 _ _ l0_2 _ _ l0_3 _ _ l0_4 _ _ l0_5 t413 _ ?side1 ?side2 ?side3 ?side4 ?side5 ?side6 ?side7 ?side8 ?side9 ?side10 A8.out).mono ?_); (case side1 => repeat (first | exact (Kd.C_below HR0_1.out HB.out) | (with_reducible refine Kd.C_alloc ?_ _) | (with_reducible refine Kd.C_drewN ?_ _) | (with_reducible refine Kd.C_drew ?_))); (case side2 => exact HC0_1.out); (case side3 => repeat (first | exact (Kd.C_below HR0_2.out HB.out) | (with_reducible refine Kd.C_alloc ?_ _) | (with_reducible refine Kd.C_drewN ?_ _) | (with_reducible refine Kd.C_drew ?_))); (case side4 => exact HC0_2.out); (case side5 => repeat (first | exact (Kd.C_below HR0_3.out HB.out) | (with_reducible refine Kd.C_alloc ?_ _) | (with_reducible refine Kd.C_drewN ?_ _) | (with_reducible refine Kd.C_drew ?_))); (case side6 => exact HC0_3.out); (case side7 => repeat (first | exact (Kd.C_below HR0_4.out HB.out) | (with_reducible refine Kd.C_alloc ?_ _) | (with_reducible refine Kd.C_drewN ?_ _) | (with_reducible refine Kd.C_drew ?_))); (case side8 => exact HC0_4.out); (case side9 => repeat (first | exact (Kd.C_below HR0_5.out HB.out) | (with_reducible refine Kd.C_alloc ?_ _) | (with_reducible refine Kd.C_drewN ?_ _) | (with_reducible refine Kd.C_drew ?_))); (case side10 => exact HC0_5.out); rintro e w20 ⟨rfl, hb⟩; have n0_ := Aside0.mk (blk_below (g := gb410) (o := .cells #[.int .i64 a0_0, .slice A0_1 l0_1.length c0_1, .slice A0_2 l0_2.length c0_2, .slice A0_3 l0_3.length c0_3, .slice A0_4 l0_4.length c0_4, .slice A0_5 l0_5.length c0_5] 26 (0, 0)) (by (with_reducible repeat (first | refine blk_drewN ?_ _ | refine blk_drew ?_ | refine blk_alloc ?_ _)); exact BK410.out) hb); have n1_ := Aside0.mk (blk_below (g := gb411) (o := .cells #[.int .i64 0, .slice none 0 0, .slice none 0 0, .slice none 0 0, .slice none 0 0, .slice none 0 0] 26 (0, 0)) (by (with_reducible repeat (first | refine blk_drewN ?_ _ | refine blk_drew ?_ | refine blk_alloc ?_ _)); exact BK411.out) hb); have n2_ := Aside0.mk (below_step (by repeat (first | (with_reducible first | exact HB.out | apply below_alloc | apply pw_below_drewN | apply below_drew1 | refine below_set ?_ GE410.out | refine below_set ?_ GE411.out) | exact HB.out)) hb); clear BK410; clear BK411; clear HB; have BK410 := n0_; have BK411 := n1_; have HB := n2_; clear n0_ n1_ n2_; (try clear hb); (try clear hb2); (try clear hk); (try clear hi)))
    go_meet
    case rel => exact ⟨_, (true), (by first | rfl | (simp; done) | (simp [*]; done)), H', ⟨by first | omega | exact Nat.le_refl _⟩, ⟨by (with_reducible repeat (first | refine blk_drewN ?_ _ | refine blk_drew ?_ | refine blk_alloc ?_ _)); exact BK410.out⟩, ⟨by (with_reducible repeat (first | refine blk_drewN ?_ _ | refine blk_drew ?_ | refine blk_alloc ?_ _)); exact BK411.out⟩, ⟨by repeat (first | (with_reducible first | exact HB.out | apply below_alloc | apply pw_below_drewN | apply below_drew1 | refine below_set ?_ GE410.out | refine below_set ?_ GE411.out) | exact HB.out)⟩⟩
  ·
   replace c7 := Bool.eq_false_iff.mpr c7
   subst c7
   have H1 : (inquestref24_With.j0 k l1 true a0_0 l0_1 l0_2 l0_3 l0_4 l0_5) = some (r1, r2, r3, r4, r5, r6, r7, r8) := by rw [if_neg (show ¬ (false = true) by decide)] at H; exact H
   clear H
   have H := H1
   clear H1
   have H' := Aside0.mk H
   clear H
   have hnb21 := NB410_411.out
   have hnc21 := NB411_410.out
   have hcz22_0 : w5.cell? ⟨gb410, 0, none⟩ = some (.int .i64 a0_0) := (blk_cell BK410.out 0).trans rfl
   have hcz22_1 : w5.cell? ⟨gb410, 1, none⟩ = some (.slice A0_1 l0_1.length c0_1) := (blk_cell BK410.out 1).trans rfl
   have hcz22_2 : w5.cell? ⟨gb410, 2, none⟩ = some (.slice A0_2 l0_2.length c0_2) := (blk_cell BK410.out 2).trans rfl
   have hcz22_3 : w5.cell? ⟨gb410, 3, none⟩ = some (.slice A0_3 l0_3.length c0_3) := (blk_cell BK410.out 3).trans rfl
   have hcz22_4 : w5.cell? ⟨gb410, 4, none⟩ = some (.slice A0_4 l0_4.length c0_4) := (blk_cell BK410.out 4).trans rfl
   have hcz22_5 : w5.cell? ⟨gb410, 5, none⟩ = some (.slice A0_5 l0_5.length c0_5) := (blk_cell BK410.out 5).trans rfl
   have hfz22_0 := blk_frozen BK410.out 0
   have hfz22_1 := blk_frozen BK410.out 1
   have hfz22_2 := blk_frozen BK410.out 2
   have hfz22_3 := blk_frozen BK410.out 3
   have hfz22_4 := blk_frozen BK410.out 4
   have hfz22_5 := blk_frozen BK410.out 5
   go_wp2_with (first | ((with_reducible refine gate_callee (f := 26) rfl ?_); refine goesL_ (some 20) rfl rfl Try.func26 (by kernel_rfl) rfl #[.agg #[.int .i64 a0_0, .slice A0_1 l0_1.length c0_1, .slice A0_2 l0_2.length c0_2, .slice A0_3 l0_3.length c0_3, .slice A0_4 l0_4.length c0_4, .slice A0_5 l0_5.length c0_5]] rfl (by (try simp only [List.map_toArray, List.map_cons, List.map_nil]); first | done | rfl | (simp only [List.length_drop, List.length_take]; rfl)) ?_; (with_reducible refine (inquestref03_May.calls k a0_0 _ _ l0_1 _ _ l0_2 _ _ l0_3 _ _ l0_4 _ _ l0_5 false _ ?side1 ?side2 ?side3 ?side4 ?side5 ?side6 ?side7 ?side8 ?side9 ?side10 A6.out).mono ?_); (case side1 => repeat (first | exact (Kd.C_below HR0_1.out HB.out) | (with_reducible refine Kd.C_alloc ?_ _) | (with_reducible refine Kd.C_drewN ?_ _) | (with_reducible refine Kd.C_drew ?_))); (case side2 => exact HC0_1.out); (case side3 => repeat (first | exact (Kd.C_below HR0_2.out HB.out) | (with_reducible refine Kd.C_alloc ?_ _) | (with_reducible refine Kd.C_drewN ?_ _) | (with_reducible refine Kd.C_drew ?_))); (case side4 => exact HC0_2.out); (case side5 => repeat (first | exact (Kd.C_below HR0_3.out HB.out) | (with_reducible refine Kd.C_alloc ?_ _) | (with_reducible refine Kd.C_drewN ?_ _) | (with_reducible refine Kd.C_drew ?_))); (case side6 => exact HC0_3.out); (case side7 => repeat (first | exact (Kd.C_below HR0_4.out HB.out) | (with_reducible refine Kd.C_alloc ?_ _) | (with_reducible refine Kd.C_drewN ?_ _) | (with_reducible refine Kd.C_drew ?_))); (case side8 => exact HC0_4.out); (case side9 => repeat (first | exact (Kd.C_below HR0_5.out HB.out) | (with_reducible refine Kd.C_alloc ?_ _) | (with_reducible refine Kd.C_drewN ?_ _) | (with_reducible refine Kd.C_drew ?_))); (case side10 => exact HC0_5.out); rintro e w23 ⟨rfl, hb⟩; refine ⟨_, rfl, ?_⟩; have n0_ := Aside0.mk (blk_below (g := gb410) (o := .cells #[.int .i64 a0_0, .slice A0_1 l0_1.length c0_1, .slice A0_2 l0_2.length c0_2, .slice A0_3 l0_3.length c0_3, .slice A0_4 l0_4.length c0_4, .slice A0_5 l0_5.length c0_5] 26 (0, 0)) (by (with_reducible repeat (first | refine blk_drewN ?_ _ | refine blk_drew ?_ | refine blk_alloc ?_ _)); exact BK410.out) hb); have n1_ := Aside0.mk (blk_below (g := gb411) (o := .cells #[.int .i64 0, .slice none 0 0, .slice none 0 0, .slice none 0 0, .slice none 0 0, .slice none 0 0] 26 (0, 0)) (by (with_reducible repeat (first | refine blk_drewN ?_ _ | refine blk_drew ?_ | refine blk_alloc ?_ _)); exact BK411.out) hb); have n2_ := Aside0.mk (below_step (by repeat (first | (with_reducible first | exact HB.out | apply below_alloc | apply pw_below_drewN | apply below_drew1 | refine below_set ?_ GE410.out | refine below_set ?_ GE411.out) | exact HB.out)) hb); clear BK410; clear BK411; clear HB; have BK410 := n0_; have BK411 := n1_; have HB := n2_; clear n0_ n1_ n2_; (try clear hb); (try clear hb2); (try clear hk); (try clear hi)))
   go_meet
   case rel => exact ⟨_, (true), (by first | rfl | (simp; done) | (simp [*]; done)), H', ⟨by first | omega | exact Nat.le_refl _⟩, ⟨by (with_reducible repeat (first | refine blk_drewN ?_ _ | refine blk_drew ?_ | refine blk_alloc ?_ _)); exact BK410.out⟩, ⟨by (with_reducible repeat (first | refine blk_drewN ?_ _ | refine blk_drew ?_ | refine blk_alloc ?_ _)); exact BK411.out⟩, ⟨by repeat (first | (with_reducible first | exact HB.out | apply below_alloc | apply pw_below_drewN | apply below_drew1 | refine below_set ?_ GE410.out | refine below_set ?_ GE411.out) | exact HB.out)⟩⟩
 case rest =>
  clear HC3
  try clear c1
  try clear c2
  try clear p2
  try clear c4
  try clear p4
  try clear q4
  try clear hx4
  try clear qi4
  try clear p6
  try clear c7
  try clear c9
  try clear c9b0
  try clear c9b1
  try clear c10
  try clear c10b0
  try clear c10b1
  try clear c11
  try clear c16
  try clear c21
  try clear hcz12_0
  try clear hcz12_1
  try clear hcz12_2
  try clear hcz12_3
  try clear hcz12_4
  try clear hcz12_5
  try clear hcz14_0
  try clear hcz14_1
  try clear hcz14_2
  try clear hcz14_3
  try clear hcz14_4
  try clear hcz14_5
  try clear hcz17_0
  try clear hcz17_1
  try clear hcz17_2
  try clear hcz17_3
  try clear hcz17_4
  try clear hcz17_5
  try clear hcz19_0
  try clear hcz19_1
  try clear hcz19_2
  try clear hcz19_3
  try clear hcz19_4
  try clear hcz19_5
  try clear hcz22_0
  try clear hcz22_1
  try clear hcz22_2
  try clear hcz22_3
  try clear hcz22_4
  try clear hcz22_5
  try clear hfz12_0
  try clear hfz12_1
  try clear hfz12_2
  try clear hfz12_3
  try clear hfz12_4
  try clear hfz12_5
  try clear hfz14_0
  try clear hfz14_1
  try clear hfz14_2
  try clear hfz14_3
  try clear hfz14_4
  try clear hfz14_5
  try clear hfz17_0
  try clear hfz17_1
  try clear hfz17_2
  try clear hfz17_3
  try clear hfz17_4
  try clear hfz17_5
  try clear hfz19_0
  try clear hfz19_1
  try clear hfz19_2
  try clear hfz19_3
  try clear hfz19_4
  try clear hfz19_5
  try clear hfz22_0
  try clear hfz22_1
  try clear hfz22_2
  try clear hfz22_3
  try clear hfz22_4
  try clear hfz22_5
  try clear hx414_0
  try clear p414
  try clear q414
  obtain ⟨kq, x35_2, rfl, HA, HJ2, BK410, BK411, HB⟩ := hcut
  cases kq with
  | zero => exact absurd HA.out (by simp [inquestref24_With.j0])
  | succ kj2 =>
   have H := HA.out
   clear HA
   simp only [inquestref24_With.j0] at H
   by_cases c24 : x35_2 = true
   ·
    subst c24
    have H1 : (some (0, ([] : List (S41)), ([] : List (S68)), ([] : List Int), ([] : List Int), ([] : List Int), ([] : List Int), 2)) = some (r1, r2, r3, r4, r5, r6, r7, r8) := by rw [if_pos rfl] at H; exact H
    clear H
    have H := H1
    clear H1
    simp only [Option.some.injEq, Prod.mk.injEq] at H
    obtain ⟨rfl, rfl, rfl, rfl, rfl, rfl, rfl, rfl⟩ := H
    have hnb25 := NB411_410.out
    have hnc25 := NB410_411.out
    have hcz26_0 : wc.cell? ⟨gb411, 0, none⟩ = some (.int .i64 0) := (blk_cell BK411.out 0).trans rfl
    have hcz26_1 : wc.cell? ⟨gb411, 1, none⟩ = some (.slice none 0 0) := (blk_cell BK411.out 1).trans rfl
    have hcz26_2 : wc.cell? ⟨gb411, 2, none⟩ = some (.slice none 0 0) := (blk_cell BK411.out 2).trans rfl
    have hcz26_3 : wc.cell? ⟨gb411, 3, none⟩ = some (.slice none 0 0) := (blk_cell BK411.out 3).trans rfl
    have hcz26_4 : wc.cell? ⟨gb411, 4, none⟩ = some (.slice none 0 0) := (blk_cell BK411.out 4).trans rfl
    have hcz26_5 : wc.cell? ⟨gb411, 5, none⟩ = some (.slice none 0 0) := (blk_cell BK411.out 5).trans rfl
    have hfz26_0 := blk_frozen BK411.out 0
    have hfz26_1 := blk_frozen BK411.out 1
    have hfz26_2 := blk_frozen BK411.out 2
    have hfz26_3 := blk_frozen BK411.out 3
    have hfz26_4 := blk_frozen BK411.out 4
    have hfz26_5 := blk_frozen BK411.out 5
    go_wp2
    refine bodyPost_ret (results_ctt rfl _ _ gb411 26 #[.int .i64 0, .slice none 0 0, .slice none 0 0, .slice none 0 0, .slice none 0 0, .slice none 0 0] (0, 0) _ rfl (by (with_reducible repeat (first | refine blk_drewN ?_ _ | refine blk_drew ?_ | refine blk_alloc ?_ _)); refine blk_put (cs := #[.int .i64 0, .slice none 0 0, .slice none 0 0, .slice none 0 0, .slice none 0 0, .slice none 0 0]) ?_ 5 _ rfl; (with_reducible repeat (first | refine blk_drewN ?_ _ | refine blk_drew ?_ | refine blk_alloc ?_ _)); refine blk_put (cs := #[.int .i64 0, .slice none 0 0, .slice none 0 0, .slice none 0 0, .slice none 0 0, .slice none 0 0]) ?_ 4 _ rfl; (with_reducible repeat (first | refine blk_drewN ?_ _ | refine blk_drew ?_ | refine blk_alloc ?_ _)); refine blk_put (cs := #[.int .i64 0, .slice none 0 0, .slice none 0 0, .slice none 0 0, .slice none 0 0, .slice none 0 0]) ?_ 3 _ rfl; (with_reducible repeat (first | refine blk_drewN ?_ _ | refine blk_drew ?_ | refine blk_alloc ?_ _)); refine blk_put (cs := #[.int .i64 0, .slice none 0 0, .slice none 0 0, .slice none 0 0, .slice none 0 0, .slice none 0 0]) ?_ 2 _ rfl; (with_reducible repeat (first | refine blk_drewN ?_ _ | refine blk_drew ?_ | refine blk_alloc ?_ _)); refine blk_put (cs := #[.int .i64 0, .slice none 0 0, .slice none 0 0, .slice none 0 0, .slice none 0 0, .slice none 0 0]) ?_ 1 _ rfl; (with_reducible repeat (first | refine blk_drewN ?_ _ | refine blk_drew ?_ | refine blk_alloc ?_ _)); refine blk_put (cs := #[.int .i64 0, .slice none 0 0, .slice none 0 0, .slice none 0 0, .slice none 0 0, .slice none 0 0]) ?_ 0 _ rfl; (with_reducible repeat (first | refine blk_drewN ?_ _ | refine blk_drew ?_ | refine blk_alloc ?_ _)); exact BK411.out) Try.underlying26 rfl (by kernel_rfl)) rfl ?_
    exact ⟨_, _, _, _, _, _, by first | rfl | (simp [errW_none, errW_some] <;> rfl) | (simp [*, errW_none, errW_some] <;> rfl), by first | exact Kd.R_nil _ _ _ _ _ | exact Kd.N_nil _ _ _ _ _ | exact Kd.V_nil _ _ _ _ _ | exact Kd.Q_nil _ _ _ _ _ | exact Kd.S_nil _ _ _ _ _, by first | exact Kd.R_nil _ _ _ _ _ | exact Kd.N_nil _ _ _ _ _ | exact Kd.V_nil _ _ _ _ _ | exact Kd.Q_nil _ _ _ _ _ | exact Kd.S_nil _ _ _ _ _, by first | exact Kd.R_nil _ _ _ _ _ | exact Kd.N_nil _ _ _ _ _ | exact Kd.V_nil _ _ _ _ _ | exact Kd.Q_nil _ _ _ _ _ | exact Kd.S_nil _ _ _ _ _, by first | exact Kd.R_nil _ _ _ _ _ | exact Kd.N_nil _ _ _ _ _ | exact Kd.V_nil _ _ _ _ _ | exact Kd.Q_nil _ _ _ _ _ | exact Kd.S_nil _ _ _ _ _, by first | exact Kd.R_nil _ _ _ _ _ | exact Kd.N_nil _ _ _ _ _ | exact Kd.V_nil _ _ _ _ _ | exact Kd.Q_nil _ _ _ _ _ | exact Kd.S_nil _ _ _ _ _, by first | exact Kd.R_nil _ _ _ _ _ | exact Kd.N_nil _ _ _ _ _ | exact Kd.V_nil _ _ _ _ _ | exact Kd.Q_nil _ _ _ _ _ | exact Kd.S_nil _ _ _ _ _, by repeat (first | (with_reducible first | exact HB.out | apply below_alloc | apply pw_below_drewN | apply below_drew1 | refine below_set ?_ GE410.out | refine below_set ?_ GE411.out) | exact HB.out)⟩
   ·
    replace c24 := Bool.eq_false_iff.mpr c24
    subst c24
    have H1 : (inquestref24_With.l0 kj2 l1 0 a0_0 l0_1 l0_2 l0_3 l0_4 l0_5) = some (r1, r2, r3, r4, r5, r6, r7, r8) := by rw [if_neg (show ¬ (false = true) by decide)] at H; exact H
    clear H
    have H := H1
    clear H1
    have H' := Aside0.mk H
    clear H
    go_wp2
    go_loopg [7] kj2 (fun kq v7 w' => ∃ (x7_2 : Int) (x412000_2 : Int), v7 = .int .i64 x7_2 ∧ Aside0 (inquestref24_With.l0 kq l1 x7_2 a0_0 l0_1 l0_2 l0_3 l0_4 l0_5 = some (r1, r2, r3, r4, r5, r6, r7, r8)) ∧ Aside0 (kq ≤ kj2) ∧ Aside0 (w'.heap[gb410]? = some (.cells #[.int .i64 a0_0, (.slice A0_1 l0_1.length c0_1), (.slice A0_2 l0_2.length c0_2), (.slice A0_3 l0_3.length c0_3), (.slice A0_4 l0_4.length c0_4), (.slice A0_5 l0_5.length c0_5)] 26 (0, 0))) ∧ Aside0 (w'.heap[gb411]? = some (.cells #[.int .i64 x412000_2, (.slice none 0 0), (.slice none 0 0), (.slice none 0 0), (.slice none 0 0), (.slice none 0 0)] 26 (0, 0))) ∧ Aside0 (Below w.heap.size w w'))
    case atStart => exact ⟨(0), (0), (by first | rfl | (simp; done) | (simp [*]; done)), H', ⟨Nat.le_refl _⟩, ⟨by (with_reducible repeat (first | refine blk_drewN ?_ _ | refine blk_drew ?_ | refine blk_alloc ?_ _)); exact BK410.out⟩, ⟨by (with_reducible repeat (first | refine blk_drewN ?_ _ | refine blk_drew ?_ | refine blk_alloc ?_ _)); exact BK411.out⟩, ⟨by repeat (first | (with_reducible first | exact HB.out | apply below_alloc | apply pw_below_drewN | apply below_drew1 | refine below_set ?_ GE410.out | refine below_set ?_ GE411.out) | exact HB.out)⟩⟩
    case round =>
     clear H'
     try clear c1
     try clear c2
     try clear p2
     try clear c4
     try clear p4
     try clear q4
     try clear hx4
     try clear qi4
     try clear p6
     try clear c7
     try clear c9
     try clear c9b0
     try clear c9b1
     try clear c10
     try clear c10b0
     try clear c10b1
     try clear c11
     try clear c16
     try clear c21
     try clear c24
     try clear c25
     try clear c26
     try clear hcz12_0
     try clear hcz12_1
     try clear hcz12_2
     try clear hcz12_3
     try clear hcz12_4
     try clear hcz12_5
     try clear hcz14_0
     try clear hcz14_1
     try clear hcz14_2
     try clear hcz14_3
     try clear hcz14_4
     try clear hcz14_5
     try clear hcz17_0
     try clear hcz17_1
     try clear hcz17_2
     try clear hcz17_3
     try clear hcz17_4
     try clear hcz17_5
     try clear hcz19_0
     try clear hcz19_1
     try clear hcz19_2
     try clear hcz19_3
     try clear hcz19_4
     try clear hcz19_5
     try clear hcz22_0
     try clear hcz22_1
     try clear hcz22_2
     try clear hcz22_3
     try clear hcz22_4
     try clear hcz22_5
     try clear hcz26_0
     try clear hcz26_1
     try clear hcz26_2
     try clear hcz26_3
     try clear hcz26_4
     try clear hcz26_5
     try clear hfz12_0
     try clear hfz12_1
     try clear hfz12_2
     try clear hfz12_3
     try clear hfz12_4
     try clear hfz12_5
     try clear hfz14_0
     try clear hfz14_1
     try clear hfz14_2
     try clear hfz14_3
     try clear hfz14_4
     try clear hfz14_5
     try clear hfz17_0
     try clear hfz17_1
     try clear hfz17_2
     try clear hfz17_3
     try clear hfz17_4
     try clear hfz17_5
     try clear hfz19_0
     try clear hfz19_1
     try clear hfz19_2
     try clear hfz19_3
     try clear hfz19_4
     try clear hfz19_5
     try clear hfz22_0
     try clear hfz22_1
     try clear hfz22_2
     try clear hfz22_3
     try clear hfz22_4
     try clear hfz22_5
     try clear hfz26_0
     try clear hfz26_1
     try clear hfz26_2
     try clear hfz26_3
     try clear hfz26_4
     try clear hfz26_5
     try clear hx414_0
     try clear p2
     try clear p4
     try clear p414
     try clear p6
     try clear q4
     try clear q414
     obtain ⟨x7_2, x412000_2, rfl, HA, HK2, BK410, BK411, HB⟩ := hrel
     cases gk with
     | zero => exact absurd HA.out (by simp [inquestref24_With.l0])
     | succ k2 =>
      have H := HA.out
      clear HA
      simp only [inquestref24_With.l0] at H
      by_cases c27 : x7_2 < (l1.length : Int)
      ·
       rw [if_pos c27] at H
       have c27b0 : decide (x7_2 < (l1.length : Int)) = true := decide_eq_true c27
       clear c27
       by_cases c28 : 0 ≤ x7_2
       ·
        rw [if_pos c28] at H
        have c28b0 : decide (0 ≤ x7_2) = true := decide_eq_true c28
        clear c28
        by_cases c29 : (rd l1 x7_2) > 2
        ·
         rw [if_pos c29] at H
         have c29b0 : decide (2 < (rd l1 x7_2)) = true := decide_eq_true c29
         clear c29
         simp only [Option.some.injEq, Prod.mk.injEq] at H
         obtain ⟨rfl, rfl, rfl, rfl, rfl, rfl, rfl, rfl⟩ := H
         have p415 : 0 ≤ (x7_2 : Int) := of_decide_eq_true (by first | (with_reducible assumption) | assumption)
         have q415 : x7_2 < (l1.length : Int) := of_decide_eq_true (by first | (with_reducible assumption) | assumption)
         obtain ⟨ad415, e415, hx415_0⟩ := Kd.at_int HR1.out x7_2 p415 q415
         cases e415
         replace hx415_0 := (HB.out.cell (World.block_lt_of_cell? w _ hx415_0)).trans hx415_0
         replace p415 := eq_true p415
         replace q415 := eq_true q415
         have hnb30 := NB411_410.out
         have hnc30 := NB410_411.out
         have hcz31_0 : wr.cell? ⟨gb411, 0, none⟩ = some (.int .i64 x412000_2) := (blk_cell BK411.out 0).trans rfl
         have hcz31_1 : wr.cell? ⟨gb411, 1, none⟩ = some (.slice none 0 0) := (blk_cell BK411.out 1).trans rfl
         have hcz31_2 : wr.cell? ⟨gb411, 2, none⟩ = some (.slice none 0 0) := (blk_cell BK411.out 2).trans rfl
         have hcz31_3 : wr.cell? ⟨gb411, 3, none⟩ = some (.slice none 0 0) := (blk_cell BK411.out 3).trans rfl
         have hcz31_4 : wr.cell? ⟨gb411, 4, none⟩ = some (.slice none 0 0) := (blk_cell BK411.out 4).trans rfl
         have hcz31_5 : wr.cell? ⟨gb411, 5, none⟩ = some (.slice none 0 0) := (blk_cell BK411.out 5).trans rfl
         have hfz31_0 := blk_frozen BK411.out 0
         have hfz31_1 := blk_frozen BK411.out 1
         have hfz31_2 := blk_frozen BK411.out 2
         have hfz31_3 := blk_frozen BK411.out 3
         have hfz31_4 := blk_frozen BK411.out 4
         have hfz31_5 := blk_frozen BK411.out 5
         go_wp2
         refine bodyPost_ret (results_ctt rfl _ _ gb411 26 #[.int .i64 0, .slice none 0 0, .slice none 0 0, .slice none 0 0, .slice none 0 0, .slice none 0 0] (0, 0) _ rfl (by (with_reducible repeat (first | refine blk_drewN ?_ _ | refine blk_drew ?_ | refine blk_alloc ?_ _)); refine blk_put (cs := #[.int .i64 0, .slice none 0 0, .slice none 0 0, .slice none 0 0, .slice none 0 0, .slice none 0 0]) ?_ 5 _ rfl; (with_reducible repeat (first | refine blk_drewN ?_ _ | refine blk_drew ?_ | refine blk_alloc ?_ _)); refine blk_put (cs := #[.int .i64 0, .slice none 0 0, .slice none 0 0, .slice none 0 0, .slice none 0 0, .slice none 0 0]) ?_ 4 _ rfl; (with_reducible repeat (first | refine blk_drewN ?_ _ | refine blk_drew ?_ | refine blk_alloc ?_ _)); refine blk_put (cs := #[.int .i64 0, .slice none 0 0, .slice none 0 0, .slice none 0 0, .slice none 0 0, .slice none 0 0]) ?_ 3 _ rfl; (with_reducible repeat (first | refine blk_drewN ?_ _ | refine blk_drew ?_ | refine blk_alloc ?_ _)); refine blk_put (cs := #[.int .i64 0, .slice none 0 0, .slice none 0 0, .slice none 0 0, .slice none 0 0, .slice none 0 0]) ?_ 2 _ rfl; (with_reducible repeat (first | refine blk_drewN ?_ _ | refine blk_drew ?_ | refine blk_alloc ?_ _)); refine blk_put (cs := #[.int .i64 0, .slice none 0 0, .slice none 0 0, .slice none 0 0, .slice none 0 0, .slice none 0 0]) ?_ 1 _ rfl; (with_reducible repeat (first | refine blk_drewN ?_ _ | refine blk_drew ?_ | refine blk_alloc ?_ _)); refine blk_put (cs := #[.int .i64 x412000_2, .slice none 0 0, .slice none 0 0, .slice none 0 0, .slice none 0 0, .slice none 0 0]) ?_ 0 _ rfl; (with_reducible repeat (first | refine blk_drewN ?_ _ | refine blk_drew ?_ | refine blk_alloc ?_ _)); exact BK411.out) Try.underlying26 rfl (by kernel_rfl)) rfl ?_
         exact ⟨_, _, _, _, _, _, by first | rfl | (simp [errW_none, errW_some] <;> rfl) | (simp [*, errW_none, errW_some] <;> rfl), by first | exact Kd.R_nil _ _ _ _ _ | exact Kd.N_nil _ _ _ _ _ | exact Kd.V_nil _ _ _ _ _ | exact Kd.Q_nil _ _ _ _ _ | exact Kd.S_nil _ _ _ _ _, by first | exact Kd.R_nil _ _ _ _ _ | exact Kd.N_nil _ _ _ _ _ | exact Kd.V_nil _ _ _ _ _ | exact Kd.Q_nil _ _ _ _ _ | exact Kd.S_nil _ _ _ _ _, by first | exact Kd.R_nil _ _ _ _ _ | exact Kd.N_nil _ _ _ _ _ | exact Kd.V_nil _ _ _ _ _ | exact Kd.Q_nil _ _ _ _ _ | exact Kd.S_nil _ _ _ _ _, by first | exact Kd.R_nil _ _ _ _ _ | exact Kd.N_nil _ _ _ _ _ | exact Kd.V_nil _ _ _ _ _ | exact Kd.Q_nil _ _ _ _ _ | exact Kd.S_nil _ _ _ _ _, by first | exact Kd.R_nil _ _ _ _ _ | exact Kd.N_nil _ _ _ _ _ | exact Kd.V_nil _ _ _ _ _ | exact Kd.Q_nil _ _ _ _ _ | exact Kd.S_nil _ _ _ _ _, by first | exact Kd.R_nil _ _ _ _ _ | exact Kd.N_nil _ _ _ _ _ | exact Kd.V_nil _ _ _ _ _ | exact Kd.Q_nil _ _ _ _ _ | exact Kd.S_nil _ _ _ _ _, by repeat (first | (with_reducible first | exact HB.out | apply below_alloc | apply pw_below_drewN | apply below_drew1 | refine below_set ?_ GE410.out | refine below_set ?_ GE411.out) | exact HB.out)⟩
        ·
         rw [if_neg c29] at H
         have c29b0 : decide (2 < (rd l1 x7_2)) = false := decide_eq_false c29
         clear c29
         have H' := Aside0.mk H
         clear H
         have p415 : 0 ≤ (x7_2 : Int) := of_decide_eq_true (by first | (with_reducible assumption) | assumption)
         have q415 : x7_2 < (l1.length : Int) := of_decide_eq_true (by first | (with_reducible assumption) | assumption)
         obtain ⟨ad415, e415, hx415_0⟩ := Kd.at_int HR1.out x7_2 p415 q415
         cases e415
         replace hx415_0 := (HB.out.cell (World.block_lt_of_cell? w _ hx415_0)).trans hx415_0
         replace p415 := eq_true p415
         replace q415 := eq_true q415
         go_wp2
         go_roundg k2
         case measure => have := HJ2.out; have := HK2.out; omega
         case rel => exact ⟨(wrap64 (x7_2 + 1)), (x412000_2), (by first | rfl | (simp; done) | (simp [*]; done)), H', ⟨by have := HJ2.out; have := HK2.out; omega⟩, ⟨by (with_reducible repeat (first | refine blk_drewN ?_ _ | refine blk_drew ?_ | refine blk_alloc ?_ _)); exact BK410.out⟩, ⟨by (with_reducible repeat (first | refine blk_drewN ?_ _ | refine blk_drew ?_ | refine blk_alloc ?_ _)); exact BK411.out⟩, ⟨by repeat (first | (with_reducible first | exact HB.out | apply below_alloc | apply pw_below_drewN | apply below_drew1 | refine below_set ?_ GE410.out | refine below_set ?_ GE411.out) | exact HB.out)⟩⟩
       ·
        rw [if_neg c28] at H
        exact absurd H (by simp)
      ·
       rw [if_neg c27] at H
       have c27b0 : decide (x7_2 < (l1.length : Int)) = false := decide_eq_false c27
       clear c27
       have H' := Aside0.mk H
       clear H
       have hnb32 := NB410_411.out
       have hnc32 := NB411_410.out
       have hcz33_0 : wr.cell? ⟨gb410, 0, none⟩ = some (.int .i64 a0_0) := (blk_cell BK410.out 0).trans rfl
       have hcz33_1 : wr.cell? ⟨gb410, 1, none⟩ = some (.slice A0_1 l0_1.length c0_1) := (blk_cell BK410.out 1).trans rfl
       have hcz33_2 : wr.cell? ⟨gb410, 2, none⟩ = some (.slice A0_2 l0_2.length c0_2) := (blk_cell BK410.out 2).trans rfl
       have hcz33_3 : wr.cell? ⟨gb410, 3, none⟩ = some (.slice A0_3 l0_3.length c0_3) := (blk_cell BK410.out 3).trans rfl
       have hcz33_4 : wr.cell? ⟨gb410, 4, none⟩ = some (.slice A0_4 l0_4.length c0_4) := (blk_cell BK410.out 4).trans rfl
       have hcz33_5 : wr.cell? ⟨gb410, 5, none⟩ = some (.slice A0_5 l0_5.length c0_5) := (blk_cell BK410.out 5).trans rfl
       have hfz33_0 := blk_frozen BK410.out 0
       have hfz33_1 := blk_frozen BK410.out 1
       have hfz33_2 := blk_frozen BK410.out 2
       have hfz33_3 := blk_frozen BK410.out 3
       have hfz33_4 := blk_frozen BK410.out 4
       have hfz33_5 := blk_frozen BK410.out 5
       go_wp2
       go_loopg [9, 10, 11] k2 (fun kq v9 v10 v11 w' => ∃ (x9_3 : List Int) (x10_3 : List (S68)) (x11_3 : Int), v11 = .int .u32 x11_3 ∧ Aside0 (inquestref24_With.l1 kq l1 ((wrap64 ((wrap64 (1 + a0_0)) + (l0_1.length : Int))) % 4294967296) x9_3 x10_3 x11_3 a0_0 l0_1 l0_2 l0_3 l0_4 l0_5 = some (r1, r2, r3, r4, r5, r6, r7, r8)) ∧ Aside0 (kq ≤ k2) ∧ Aside0 (Kd.R (Kd.int .u32) 39 w' w.heap.size (fun _ => True) v9 x9_3) ∧ Aside0 (Kd.R k68 68 w' w.heap.size (fun _ => True) v10 x10_3) ∧ Aside0 (w'.heap[gb410]? = some (.cells #[.int .i64 a0_0, (.slice A0_1 l0_1.length c0_1), (.slice A0_2 l0_2.length c0_2), (.slice A0_3 l0_3.length c0_3), (.slice A0_4 l0_4.length c0_4), (.slice A0_5 l0_5.length c0_5)] 26 (0, 0))) ∧ Aside0 (w'.heap[gb411]? = some (.cells #[.int .i64 x412000_2, (.slice none 0 0), (.slice none 0 0), (.slice none 0 0), (.slice none 0 0), (.slice none 0 0)] 26 (0, 0))) ∧ Aside0 (Below w.heap.size w w'))
       case atStart => exact ⟨(([] : List Int)), (([] : List (S68))), (0), (by first | rfl | (simp; done) | (simp [*]; done)), H', ⟨Nat.le_refl _⟩, ⟨by first | exact Kd.R_nil _ _ _ _ _ | exact Kd.N_nil _ _ _ _ _ | exact Kd.V_nil _ _ _ _ _ | exact Kd.Q_nil _ _ _ _ _ | exact Kd.S_nil _ _ _ _ _⟩, ⟨by first | exact Kd.R_nil _ _ _ _ _ | exact Kd.N_nil _ _ _ _ _ | exact Kd.V_nil _ _ _ _ _ | exact Kd.Q_nil _ _ _ _ _ | exact Kd.S_nil _ _ _ _ _⟩, ⟨by (with_reducible repeat (first | refine blk_drewN ?_ _ | refine blk_drew ?_ | refine blk_alloc ?_ _)); exact BK410.out⟩, ⟨by (with_reducible repeat (first | refine blk_drewN ?_ _ | refine blk_drew ?_ | refine blk_alloc ?_ _)); exact BK411.out⟩, ⟨by repeat (first | (with_reducible first | exact HB.out | apply below_alloc | apply pw_below_drewN | apply below_drew1 | refine below_set ?_ GE410.out | refine below_set ?_ GE411.out) | exact HB.out)⟩⟩
       case round =>
        clear H'
        try clear c1
        try clear c2
        try clear p2
        try clear c3
        try clear c4
        try clear p4
        try clear q4
        try clear hx4
        try clear qi4
        try clear p6
        try clear c7
        try clear c9
        try clear c9b0
        try clear c9b1
        try clear c10
        try clear c10b0
        try clear c10b1
        try clear c11
        try clear c16
        try clear c21
        try clear c24
        try clear c25
        try clear c26
        try clear c27
        try clear c27b0
        try clear c28
        try clear c28b0
        try clear c29
        try clear c29b0
        try clear c30
        try clear c32
        try clear hcz12_0
        try clear hcz12_1
        try clear hcz12_2
        try clear hcz12_3
        try clear hcz12_4
        try clear hcz12_5
        try clear hcz14_0
        try clear hcz14_1
        try clear hcz14_2
        try clear hcz14_3
        try clear hcz14_4
        try clear hcz14_5
        try clear hcz17_0
        try clear hcz17_1
        try clear hcz17_2
        try clear hcz17_3
        try clear hcz17_4
        try clear hcz17_5
        try clear hcz19_0
        try clear hcz19_1
        try clear hcz19_2
        try clear hcz19_3
        try clear hcz19_4
        try clear hcz19_5
        try clear hcz22_0
        try clear hcz22_1
        try clear hcz22_2
        try clear hcz22_3
        try clear hcz22_4
        try clear hcz22_5
        try clear hcz26_0
        try clear hcz26_1
        try clear hcz26_2
        try clear hcz26_3
        try clear hcz26_4
        try clear hcz26_5
        try clear hcz31_0
        try clear hcz31_1
        try clear hcz31_2
        try clear hcz31_3
        try clear hcz31_4
        try clear hcz31_5
        try clear hcz33_0
        try clear hcz33_1
        try clear hcz33_2
        try clear hcz33_3
        try clear hcz33_4
        try clear hcz33_5
        try clear hfz12_0
        try clear hfz12_1
        try clear hfz12_2
        try clear hfz12_3
        try clear hfz12_4
        try clear hfz12_5
        try clear hfz14_0
        try clear hfz14_1
        try clear hfz14_2
        try clear hfz14_3
        try clear hfz14_4
        try clear hfz14_5
        try clear hfz17_0
        try clear hfz17_1
        try clear hfz17_2
        try clear hfz17_3
        try clear hfz17_4
        try clear hfz17_5
        try clear hfz19_0
        try clear hfz19_1
        try clear hfz19_2
        try clear hfz19_3
        try clear hfz19_4
        try clear hfz19_5
        try clear hfz22_0
        try clear hfz22_1
        try clear hfz22_2
        try clear hfz22_3
        try clear hfz22_4
        try clear hfz22_5
        try clear hfz26_0
        try clear hfz26_1
        try clear hfz26_2
        try clear hfz26_3
        try clear hfz26_4
        try clear hfz26_5
        try clear hfz31_0
        try clear hfz31_1
        try clear hfz31_2
        try clear hfz31_3
        try clear hfz31_4
        try clear hfz31_5
        try clear hfz33_0
        try clear hfz33_1
        try clear hfz33_2
        try clear hfz33_3
        try clear hfz33_4
        try clear hfz33_5
        try clear hx414_0
        try clear hx415_0
        try clear p2
        try clear p4
        try clear p414
        try clear p415
        try clear p6
        try clear q4
        try clear q414
        try clear q415
        obtain ⟨x9_3, x10_3, x11_3, rfl, HA, HK3, HO_9, HO_10, BK410, BK411, HB⟩ := hrel
        cases gk with
        | zero => exact absurd HA.out (by simp [inquestref24_With.l1])
        | succ k3 =>
         have H := HA.out
         clear HA
         simp only [inquestref24_With.l1] at H
         by_cases c34 : (wrap64 (x11_3)) < (l1.length : Int)
         ·
          rw [if_pos c34] at H
          have c34b0 : decide ((wrap64 (x11_3)) < (l1.length : Int)) = true := decide_eq_true c34
          clear c34
          by_cases c35 : 0 ≤ x11_3
          ·
           rw [if_pos c35] at H
           have c35b0 : decide (0 ≤ x11_3) = true := decide_eq_true c35
           clear c35
           by_cases c36 : x11_3 < (l1.length : Int)
           ·
            rw [if_pos c36] at H
            have c36b0 : decide (x11_3 < (l1.length : Int)) = true := decide_eq_true c36
            clear c36
            by_cases c37 : (rd l1 x11_3) = 2
            ·
             rw [if_pos c37] at H
             have c37b0 : ((rd l1 x11_3) == 2) = true := beq_iff_eq.mpr c37
             have c37b1 : ((rd l1 x11_3) != 2) = false := bne_eq_false_iff_eq.mpr c37
             clear c37
             by_cases c38 : x11_3 < ((wrap64 ((wrap64 (1 + a0_0)) + (l0_1.length : Int))) % 4294967296)
             ·
              rw [if_pos c38] at H
              have c38b0 : decide (x11_3 < ((wrap64 ((wrap64 (1 + a0_0)) + (l0_1.length : Int))) % 4294967296)) = true := decide_eq_true c38
              clear c38
              by_cases c39 : x9_3.length < 35184372088832
              ·
               rw [if_pos c39] at H
               have LMc39 := Aside0.mk c39
               clear c39
               obtain ⟨y421, hy421⟩ : ∃ y_ : List Int, y_ = (x9_3 ++ [(2 * x11_3) % 4294967296]) := ⟨_, rfl⟩
               replace H : (inquestref24_With.l1 k3 l1 ((wrap64 ((wrap64 (1 + a0_0)) + (l0_1.length : Int))) % 4294967296) y421 x10_3 ((x11_3 + 1) % 4294967296) a0_0 l0_1 l0_2 l0_3 l0_4 l0_5) = some (r1, r2, r3, r4, r5, r6, r7, r8) := by first | (rw [hy421]; with_reducible exact H) | (have H2_ := (Option.bind_some _ _).symm.trans H; rw [hy421]; with_reducible exact H2_) | (have H2_ := (Option.bind_some _ _).symm.trans H; with_reducible exact H2_) | with_reducible exact H | (rw [hy421]; exact H) | exact H
               have Ny421 := Aside0.mk hy421
               clear hy421
               have H' := Aside0.mk H
               clear H
               have p416 : 0 ≤ (x11_3 : Int) := of_decide_eq_true (by first | (with_reducible assumption) | assumption)
               have q416 : x11_3 < (l1.length : Int) := of_decide_eq_true (by first | (with_reducible assumption) | assumption)
               obtain ⟨ad416, e416, hx416_0⟩ := Kd.at_int HR1.out x11_3 p416 q416
               cases e416
               replace hx416_0 := (HB.out.cell (World.block_lt_of_cell? w _ hx416_0)).trans hx416_0
               replace p416 := eq_true p416
               replace q416 := eq_true q416
               go_wp2_with (first | ((with_reducible refine gate_builtin (b := .append) (xs := #[.tmp 80, .tmp 83]) rfl ?_); (try (refine gate_guard (by rfl) ?_; dsimp only)); at_builtin; refine Kd.R_append (Kd.int .u32) (w0 := w) w.heap.size rfl (.tmp 80) (.tmp 83) 24 39 (.int .u32 0) 4 rfl Try.underlying24 info39 rfl (by decide) (by omega) u9 x9_3 ((2 * x11_3) % 4294967296) [.int .u32 ((2 * x11_3) % 4294967296)] (fun _ => True) (fun _ => False) rfl rfl ?aP (fun _ hk => hk.elim) ?aF ?aO ?aB ?aS ?aL ?_; (case aP => exact rfl); (case aB => exact (by repeat (first | (with_reducible first | exact HB.out | apply below_alloc | apply pw_below_drewN | apply below_drew1 | refine below_set ?_ GE410.out | refine below_set ?_ GE411.out) | exact HB.out))); (case aF => exact (fun _ _ => trivial)); (case aO => exact (by (with_reducible repeat (first | apply Kd.R_alloc | apply Kd.R_drewN | apply Kd.R_drew)); exact HO_9.out)); (case aS => exact (below_size (by repeat (first | (with_reducible first | exact HB.out | apply below_alloc | apply pw_below_drewN | apply below_drew1 | refine below_set ?_ GE410.out | refine below_set ?_ GE411.out) | exact HB.out)))); (case aL => have := LMc39.out; omega); intro v422 w40 ho hb hg hat; rw [← Ny421.out] at ho; have n0_ := Aside0.mk (Kd.R_over' (by (with_reducible repeat (first | apply Kd.R_alloc | apply Kd.R_drewN | apply Kd.R_drew)); exact HO_10.out) (Kd.R_typed (by (with_reducible repeat (first | apply Kd.R_alloc | apply Kd.R_drewN | apply Kd.R_drew)); exact HO_9.out)) (by decide) hg); have n1_ := Aside0.mk (blk_grown (g := gb410) (o := .cells #[.int .i64 a0_0, .slice A0_1 l0_1.length c0_1, .slice A0_2 l0_2.length c0_2, .slice A0_3 l0_3.length c0_3, .slice A0_4 l0_4.length c0_4, .slice A0_5 l0_5.length c0_5] 26 (0, 0)) (by (with_reducible repeat (first | refine blk_drewN ?_ _ | refine blk_drew ?_ | refine blk_alloc ?_ _)); exact BK410.out) hg (Kd.R_ne HO_9.out BK410.out (by decide))); have n2_ := Aside0.mk (blk_grown (g := gb411) (o := .cells #[.int .i64 x412000_2, .slice none 0 0, .slice none 0 0, .slice none 0 0, .slice none 0 0, .slice none 0 0] 26 (0, 0)) (by (with_reducible repeat (first | refine blk_drewN ?_ _ | refine blk_drew ?_ | refine blk_alloc ?_ _)); exact BK411.out) hg (Kd.R_ne HO_9.out BK411.out (by decide))); have n3_ := Aside0.mk (hb); have n4_ := Aside0.mk (ho); clear HO_10; clear BK410; clear BK411; clear HB; clear HO_9; have HO_10 := n0_; have BK410 := n1_; have BK411 := n2_; have HB := n3_; have HO423 := n4_; clear n0_ n1_ n2_ n3_ n4_; clear ho hb hg hat))
               go_roundg k3
               case measure => have := HJ2.out; have := HK2.out; have := HK3.out; omega
               case rel => exact ⟨(y421), (x10_3), ((x11_3 + 1) % 4294967296), (by first | rfl | (simp; done) | (simp [*]; done)), H', ⟨by have := HJ2.out; have := HK2.out; have := HK3.out; omega⟩, ⟨by (with_reducible repeat (first | apply Kd.R_alloc | apply Kd.R_drewN | apply Kd.R_drew)); exact HO423.out⟩, ⟨by (with_reducible repeat (first | apply Kd.R_alloc | apply Kd.R_drewN | apply Kd.R_drew)); exact HO_10.out⟩, ⟨by (with_reducible repeat (first | refine blk_drewN ?_ _ | refine blk_drew ?_ | refine blk_alloc ?_ _)); exact BK410.out⟩, ⟨by (with_reducible repeat (first | refine blk_drewN ?_ _ | refine blk_drew ?_ | refine blk_alloc ?_ _)); exact BK411.out⟩, ⟨by repeat (first | (with_reducible first | exact HB.out | apply below_alloc | apply pw_below_drewN | apply below_drew1 | refine below_set ?_ GE410.out | refine below_set ?_ GE411.out) | exact HB.out)⟩⟩
              ·
               rw [if_neg c39] at H
               exact absurd H (by simp)
             ·
              rw [if_neg c38] at H
              have c38b0 : decide (x11_3 < ((wrap64 ((wrap64 (1 + a0_0)) + (l0_1.length : Int))) % 4294967296)) = false := decide_eq_false c38
              clear c38
              obtain ⟨ji41, hji41⟩ : ∃ j_ : Int, ((x11_3 - ((wrap64 ((wrap64 (1 + a0_0)) + (l0_1.length : Int))) % 4294967296)) % 4294967296) = j_ := ⟨_, rfl⟩
              replace H : (if 0 ≤ (ji41) then (if (ji41) < (l0_2.length : Int) then ((inquestref24_Lit.f x9_3 ((rd_T68 l0_2 (ji41)).f0)).bind fun t426 => ((inquestref24_Lit.f x9_3 ((rd_T68 l0_2 (ji41)).f1)).bind fun t427 => ((inquestref24_one.f k3 x10_3 ((wrap64 ((wrap64 (1 + a0_0)) + (l0_1.length : Int))) % 4294967296) t426 t427).bind fun bt428 => (if bt428.2 = true then (if x9_3.length < 35184372088832 then (inquestref24_With.l1 k3 l1 ((wrap64 ((wrap64 (1 + a0_0)) + (l0_1.length : Int))) % 4294967296) (x9_3 ++ [bt428.1]) x10_3 ((x11_3 + 1) % 4294967296) a0_0 l0_1 l0_2 l0_3 l0_4 l0_5) else (none)) else (if x10_3.length < 17592186044416 then (if x9_3.length < 35184372088832 then (inquestref24_With.l1 k3 l1 ((wrap64 ((wrap64 (1 + a0_0)) + (l0_1.length : Int))) % 4294967296) (x9_3 ++ [(2 * ((((wrap64 ((wrap64 (1 + a0_0)) + (l0_1.length : Int))) % 4294967296) + (((x10_3.length : Int)) % 4294967296)) % 4294967296)) % 4294967296]) (x10_3 ++ [(⟨mx t426 t427, mn t426 t427⟩ : S68)]) ((x11_3 + 1) % 4294967296) a0_0 l0_1 l0_2 l0_3 l0_4 l0_5) else (none)) else (none)))))) else (none)) else (none)) = some (r1, r2, r3, r4, r5, r6, r7, r8) := by first | (rw [hji41] at H; exact H) | (simp only [hji41] at H ⊢; exact H)
              by_cases c42 : 0 ≤ (ji41)
              ·
               rw [if_pos c42] at H
               have c42b0 : decide (0 ≤ (ji41)) = true := decide_eq_true c42
               clear c42
               by_cases c43 : (ji41) < (l0_2.length : Int)
               ·
                rw [if_pos c43] at H
                have c43b0 : decide ((ji41) < (l0_2.length : Int)) = true := decide_eq_true c43
                clear c43
                replace H := Option.bind_eq_some_iff.mp H
                obtain ⟨t426, A440, H⟩ := H
                replace H : ((inquestref24_Lit.f x9_3 ((rd_T68 l0_2 (ji41)).f1)).bind fun t427 => ((inquestref24_one.f k3 x10_3 ((wrap64 ((wrap64 (1 + a0_0)) + (l0_1.length : Int))) % 4294967296) t426 t427).bind fun bt428 => (if bt428.2 = true then (if x9_3.length < 35184372088832 then (inquestref24_With.l1 k3 l1 ((wrap64 ((wrap64 (1 + a0_0)) + (l0_1.length : Int))) % 4294967296) (x9_3 ++ [bt428.1]) x10_3 ((x11_3 + 1) % 4294967296) a0_0 l0_1 l0_2 l0_3 l0_4 l0_5) else (none)) else (if x10_3.length < 17592186044416 then (if x9_3.length < 35184372088832 then (inquestref24_With.l1 k3 l1 ((wrap64 ((wrap64 (1 + a0_0)) + (l0_1.length : Int))) % 4294967296) (x9_3 ++ [(2 * ((((wrap64 ((wrap64 (1 + a0_0)) + (l0_1.length : Int))) % 4294967296) + (((x10_3.length : Int)) % 4294967296)) % 4294967296)) % 4294967296]) (x10_3 ++ [(⟨mx t426 t427, mn t426 t427⟩ : S68)]) ((x11_3 + 1) % 4294967296) a0_0 l0_1 l0_2 l0_3 l0_4 l0_5) else (none)) else (none))))) = some (r1, r2, r3, r4, r5, r6, r7, r8) := H
                have A44 := Aside0.mk A440
                clear A440
                replace H := Option.bind_eq_some_iff.mp H
                obtain ⟨t427, A450, H⟩ := H
                replace H : ((inquestref24_one.f k3 x10_3 ((wrap64 ((wrap64 (1 + a0_0)) + (l0_1.length : Int))) % 4294967296) t426 t427).bind fun bt428 => (if bt428.2 = true then (if x9_3.length < 35184372088832 then (inquestref24_With.l1 k3 l1 ((wrap64 ((wrap64 (1 + a0_0)) + (l0_1.length : Int))) % 4294967296) (x9_3 ++ [bt428.1]) x10_3 ((x11_3 + 1) % 4294967296) a0_0 l0_1 l0_2 l0_3 l0_4 l0_5) else (none)) else (if x10_3.length < 17592186044416 then (if x9_3.length < 35184372088832 then (inquestref24_With.l1 k3 l1 ((wrap64 ((wrap64 (1 + a0_0)) + (l0_1.length : Int))) % 4294967296) (x9_3 ++ [(2 * ((((wrap64 ((wrap64 (1 + a0_0)) + (l0_1.length : Int))) % 4294967296) + (((x10_3.length : Int)) % 4294967296)) % 4294967296)) % 4294967296]) (x10_3 ++ [(⟨mx t426 t427, mn t426 t427⟩ : S68)]) ((x11_3 + 1) % 4294967296) a0_0 l0_1 l0_2 l0_3 l0_4 l0_5) else (none)) else (none)))) = some (r1, r2, r3, r4, r5, r6, r7, r8) := H
                have A45 := Aside0.mk A450
                clear A450
                replace H := Option.bind_eq_some_iff.mp H
                obtain ⟨⟨t428, t429⟩, A460, H⟩ := H
                replace H : (if t429 = true then (if x9_3.length < 35184372088832 then (inquestref24_With.l1 k3 l1 ((wrap64 ((wrap64 (1 + a0_0)) + (l0_1.length : Int))) % 4294967296) (x9_3 ++ [t428]) x10_3 ((x11_3 + 1) % 4294967296) a0_0 l0_1 l0_2 l0_3 l0_4 l0_5) else (none)) else (if x10_3.length < 17592186044416 then (if x9_3.length < 35184372088832 then (inquestref24_With.l1 k3 l1 ((wrap64 ((wrap64 (1 + a0_0)) + (l0_1.length : Int))) % 4294967296) (x9_3 ++ [(2 * ((((wrap64 ((wrap64 (1 + a0_0)) + (l0_1.length : Int))) % 4294967296) + (((x10_3.length : Int)) % 4294967296)) % 4294967296)) % 4294967296]) (x10_3 ++ [(⟨mx t426 t427, mn t426 t427⟩ : S68)]) ((x11_3 + 1) % 4294967296) a0_0 l0_1 l0_2 l0_3 l0_4 l0_5) else (none)) else (none))) = some (r1, r2, r3, r4, r5, r6, r7, r8) := H
                have A46 := Aside0.mk A460
                clear A460
                by_cases c47 : t429 = true
                ·
                 subst c47
                 have H1 : (if x9_3.length < 35184372088832 then (inquestref24_With.l1 k3 l1 ((wrap64 ((wrap64 (1 + a0_0)) + (l0_1.length : Int))) % 4294967296) (x9_3 ++ [t428]) x10_3 ((x11_3 + 1) % 4294967296) a0_0 l0_1 l0_2 l0_3 l0_4 l0_5) else (none)) = some (r1, r2, r3, r4, r5, r6, r7, r8) := by rw [if_pos rfl] at H; exact H
                 clear H
                 have H := H1
                 clear H1
                 by_cases c48 : x9_3.length < 35184372088832
                 ·
                  rw [if_pos c48] at H
                  have LMc48 := Aside0.mk c48
                  clear c48
                  obtain ⟨y430, hy430⟩ : ∃ y_ : List Int, y_ = (x9_3 ++ [t428]) := ⟨_, rfl⟩
                  replace H : (inquestref24_With.l1 k3 l1 ((wrap64 ((wrap64 (1 + a0_0)) + (l0_1.length : Int))) % 4294967296) y430 x10_3 ((x11_3 + 1) % 4294967296) a0_0 l0_1 l0_2 l0_3 l0_4 l0_5) = some (r1, r2, r3, r4, r5, r6, r7, r8) := by first | (rw [hy430]; with_reducible exact H) | (have H2_ := (Option.bind_some _ _).symm.trans H; rw [hy430]; with_reducible exact H2_) | (have H2_ := (Option.bind_some _ _).symm.trans H; with_reducible exact H2_) | with_reducible exact H | (rw [hy430]; exact H) | exact H
                  have Ny430 := Aside0.mk hy430
                  clear hy430
                  have H' := Aside0.mk H
                  clear H
                  have p416 : 0 ≤ (x11_3 : Int) := of_decide_eq_true (by first | (with_reducible assumption) | assumption)
                  have q416 : x11_3 < (l1.length : Int) := of_decide_eq_true (by first | (with_reducible assumption) | assumption)
                  obtain ⟨ad416, e416, hx416_0⟩ := Kd.at_int HR1.out x11_3 p416 q416
                  cases e416
                  replace hx416_0 := (HB.out.cell (World.block_lt_of_cell? w _ hx416_0)).trans hx416_0
                  replace p416 := eq_true p416
                  replace q416 := eq_true q416
                  have hnb49 := NB410_411.out
                  have hnc49 := NB411_410.out
                  have hcz50_0 : wr.cell? ⟨gb410, 0, none⟩ = some (.int .i64 a0_0) := (blk_cell BK410.out 0).trans rfl
                  have hcz50_1 : wr.cell? ⟨gb410, 1, none⟩ = some (.slice A0_1 l0_1.length c0_1) := (blk_cell BK410.out 1).trans rfl
                  have hcz50_2 : wr.cell? ⟨gb410, 2, none⟩ = some (.slice A0_2 l0_2.length c0_2) := (blk_cell BK410.out 2).trans rfl
                  have hcz50_3 : wr.cell? ⟨gb410, 3, none⟩ = some (.slice A0_3 l0_3.length c0_3) := (blk_cell BK410.out 3).trans rfl
                  have hcz50_4 : wr.cell? ⟨gb410, 4, none⟩ = some (.slice A0_4 l0_4.length c0_4) := (blk_cell BK410.out 4).trans rfl
                  have hcz50_5 : wr.cell? ⟨gb410, 5, none⟩ = some (.slice A0_5 l0_5.length c0_5) := (blk_cell BK410.out 5).trans rfl
                  have hfz50_0 := blk_frozen BK410.out 0
                  have hfz50_1 := blk_frozen BK410.out 1
                  have hfz50_2 := blk_frozen BK410.out 2
                  have hfz50_3 := blk_frozen BK410.out 3
                  have hfz50_4 := blk_frozen BK410.out 4
                  have hfz50_5 := blk_frozen BK410.out 5
                  have p424 : 0 ≤ ((ji41) : Int) := of_decide_eq_true (by first | (with_reducible assumption) | assumption)
                  have q424 : (ji41) < (l0_2.length : Int) := of_decide_eq_true (by first | (with_reducible assumption) | assumption)
                  obtain ⟨ad424, e424, hx424_0, hx424_1⟩ := at_T68 HR0_2.out (ji41) p424 q424
                  cases e424
                  replace hx424_0 := (HB.out.cell (World.block_lt_of_cell? w _ hx424_0)).trans hx424_0
                  replace hx424_1 := (HB.out.cell (World.block_lt_of_cell? w _ hx424_1)).trans hx424_1
                  replace p424 := eq_true p424
                  replace q424 := eq_true q424
                  try go_wp2_with (first | ((with_reducible refine gate_dst (N := 12) rfl ?_); (try (refine gate_guard (by rfl) ?_; dsimp only)); refine box_event ?hg (N := 12) ?hd (cs := #[.int .u32 0, .int .u32 0]) (t := 68) ?hr ?_; (case hd => rfl); (case hg => rfl); (case hr => first | (go_simp; done) | (go_simp; rfl)); intro gb425 hg w51 hbox hb; have n0_ := Aside0.mk (Kd.R_below (by (with_reducible repeat (first | apply Kd.R_alloc | apply Kd.R_drewN | apply Kd.R_drew)); exact HO_9.out) hb); have n1_ := Aside0.mk (Kd.R_below (Kd.R_elderB (by (with_reducible repeat (first | apply Kd.R_alloc | apply Kd.R_drewN | apply Kd.R_drew)); exact HO_10.out) gb425 (Nat.le_of_eq hg.symm)) hb); have n2_ := Aside0.mk (blk_below (g := gb410) (o := .cells #[.int .i64 a0_0, .slice A0_1 l0_1.length c0_1, .slice (some ad424) l0_2.length c0_2, .slice A0_3 l0_3.length c0_3, .slice A0_4 l0_4.length c0_4, .slice A0_5 l0_5.length c0_5] 26 (0, 0)) (by (with_reducible repeat (first | refine blk_drewN ?_ _ | refine blk_drew ?_ | refine blk_alloc ?_ _)); exact BK410.out) hb); have n3_ := Aside0.mk (blk_below (g := gb411) (o := .cells #[.int .i64 x412000_2, .slice none 0 0, .slice none 0 0, .slice none 0 0, .slice none 0 0, .slice none 0 0] 26 (0, 0)) (by (with_reducible repeat (first | refine blk_drewN ?_ _ | refine blk_drew ?_ | refine blk_alloc ?_ _)); exact BK411.out) hb); have n4_ := Aside0.mk (below_step (by repeat (first | (with_reducible first | exact HB.out | apply below_alloc | apply pw_below_drewN | apply below_drew1 | refine below_set ?_ GE410.out | refine below_set ?_ GE411.out) | exact HB.out)) hb); have n5_ := Aside0.mk (hbox); have n6_ := Aside0.mk ((by rw [hg]; exact (below_size (by repeat (first | (with_reducible first | exact HB.out | apply below_alloc | apply pw_below_drewN | apply below_drew1 | refine below_set ?_ GE410.out | refine below_set ?_ GE411.out) | exact HB.out))) : w.heap.size ≤ gb425)); have n7_ := Aside0.mk ((by rw [hg]; exact (below_size (by repeat (first | (with_reducible first | exact HB.out | apply below_alloc | apply pw_below_drewN | apply below_drew1 | refine below_set ?_ GE410.out | refine below_set ?_ GE411.out) | exact HB.out))) : w.heap.size ≤ gb425)); have n8_ := Aside0.mk ((by rw [hg]; exact Nat.ne_of_lt (blk_lt (g := gb410) (o := .cells #[.int .i64 a0_0, .slice A0_1 l0_1.length c0_1, .slice (some ad424) l0_2.length c0_2, .slice A0_3 l0_3.length c0_3, .slice A0_4 l0_4.length c0_4, .slice A0_5 l0_5.length c0_5] 26 (0, 0)) (by (with_reducible repeat (first | refine blk_drewN ?_ _ | refine blk_drew ?_ | refine blk_alloc ?_ _)); exact BK410.out)) : gb410 ≠ gb425)); have n9_ := Aside0.mk ((by rw [hg]; exact Nat.ne_of_gt (blk_lt (g := gb410) (o := .cells #[.int .i64 a0_0, .slice A0_1 l0_1.length c0_1, .slice (some ad424) l0_2.length c0_2, .slice A0_3 l0_3.length c0_3, .slice A0_4 l0_4.length c0_4, .slice A0_5 l0_5.length c0_5] 26 (0, 0)) (by (with_reducible repeat (first | refine blk_drewN ?_ _ | refine blk_drew ?_ | refine blk_alloc ?_ _)); exact BK410.out)) : gb425 ≠ gb410)); have n10_ := Aside0.mk ((by rw [hg]; exact Nat.ne_of_lt (blk_lt (g := gb411) (o := .cells #[.int .i64 x412000_2, .slice none 0 0, .slice none 0 0, .slice none 0 0, .slice none 0 0, .slice none 0 0] 26 (0, 0)) (by (with_reducible repeat (first | refine blk_drewN ?_ _ | refine blk_drew ?_ | refine blk_alloc ?_ _)); exact BK411.out)) : gb411 ≠ gb425)); have n11_ := Aside0.mk ((by rw [hg]; exact Nat.ne_of_gt (blk_lt (g := gb411) (o := .cells #[.int .i64 x412000_2, .slice none 0 0, .slice none 0 0, .slice none 0 0, .slice none 0 0, .slice none 0 0] 26 (0, 0)) (by (with_reducible repeat (first | refine blk_drewN ?_ _ | refine blk_drew ?_ | refine blk_alloc ?_ _)); exact BK411.out)) : gb425 ≠ gb411)); clear HO_9; clear HO_10; clear BK410; clear BK411; clear HB; have HO_9 := n0_; have HO_10 := n1_; have BK410 := n2_; have BK411 := n3_; have HB := n4_; have BK425 := n5_; have GW425 := n6_; have GE425 := n7_; have NB410_425 := n8_; have NB425_410 := n9_; have NB411_425 := n10_; have NB425_411 := n11_; clear n0_ n1_ n2_ n3_ n4_ n5_ n6_ n7_ n8_ n9_ n10_ n11_; clear hb hbox hg; have hnb52 := NB425_410.out; have hnc52 := NB410_425.out; have hnb53 := NB425_411.out; have hnc53 := NB411_425.out; have hcz54_0 : w51.cell? ⟨gb425, 0, none⟩ = some (.int .u32 0) := (blk_cell BK425.out 0).trans rfl; have hcz54_1 : w51.cell? ⟨gb425, 1, none⟩ = some (.int .u32 0) := (blk_cell BK425.out 1).trans rfl; have hfz54_0 := blk_frozen BK425.out 0; have hfz54_1 := blk_frozen BK425.out 1))
                  have n0_ : Aside0 (Kd.R (Kd.int .u32) 39 ((w51.setCell ⟨gb425, 0, none⟩ (.int .u32 ((rd_T68 l0_2 (ji41)).f0))).setCell ⟨gb425, 1, none⟩ (.int .u32 ((rd_T68 l0_2 (ji41)).f1))) w.heap.size (fun _ => True) u9 x9_3) := ⟨by (with_reducible repeat (first | apply Kd.R_alloc | apply Kd.R_drewN | apply Kd.R_drew)); exact Kd.R_mono (Kd.R_far (p := ⟨gb425, 1, none⟩) (Kd.R_far (p := ⟨gb425, 0, none⟩) (Kd.R_types HO_9.out BK425.out (by decide)) (fun _ hk => hk.2) (.int .u32 ((rd_T68 l0_2 (ji41)).f0))) (fun _ hk => hk.2) (.int .u32 ((rd_T68 l0_2 (ji41)).f1))) (fun _ hk => trivial)⟩
                  have n1_ : Aside0 (Kd.R k68 68 ((w51.setCell ⟨gb425, 0, none⟩ (.int .u32 ((rd_T68 l0_2 (ji41)).f0))).setCell ⟨gb425, 1, none⟩ (.int .u32 ((rd_T68 l0_2 (ji41)).f1))) w.heap.size (fun k_ => k_ ≠ gb425) u10 x10_3) := ⟨by (with_reducible repeat (first | apply Kd.R_alloc | apply Kd.R_drewN | apply Kd.R_drew)); exact Kd.R_mono (Kd.R_far (p := ⟨gb425, 1, none⟩) (Kd.R_far (p := ⟨gb425, 0, none⟩) (Kd.R_mono HO_10.out (fun k_ hk => (⟨hk, hk.2⟩ : _ ∧ k_ ≠ gb425))) (fun _ hk => hk.2) (.int .u32 ((rd_T68 l0_2 (ji41)).f0))) (fun _ hk => hk.2) (.int .u32 ((rd_T68 l0_2 (ji41)).f1))) (fun _ hk => hk.1.2)⟩
                  have n2_ : Aside0 (((w51.setCell ⟨gb425, 0, none⟩ (.int .u32 ((rd_T68 l0_2 (ji41)).f0))).setCell ⟨gb425, 1, none⟩ (.int .u32 ((rd_T68 l0_2 (ji41)).f1))).heap[gb410]? = some (.cells #[.int .i64 a0_0, .slice A0_1 l0_1.length c0_1, .slice (some ad424) l0_2.length c0_2, .slice A0_3 l0_3.length c0_3, .slice A0_4 l0_4.length c0_4, .slice A0_5 l0_5.length c0_5] 26 (0, 0))) := ⟨by (with_reducible repeat (first | refine blk_drewN ?_ _ | refine blk_drew ?_ | refine blk_alloc ?_ _)); refine blk_far ?_ NB410_425.out _; (with_reducible repeat (first | refine blk_drewN ?_ _ | refine blk_drew ?_ | refine blk_alloc ?_ _)); refine blk_far ?_ NB410_425.out _; (with_reducible repeat (first | refine blk_drewN ?_ _ | refine blk_drew ?_ | refine blk_alloc ?_ _)); exact BK410.out⟩
                  have n3_ : Aside0 (((w51.setCell ⟨gb425, 0, none⟩ (.int .u32 ((rd_T68 l0_2 (ji41)).f0))).setCell ⟨gb425, 1, none⟩ (.int .u32 ((rd_T68 l0_2 (ji41)).f1))).heap[gb411]? = some (.cells #[.int .i64 x412000_2, .slice none 0 0, .slice none 0 0, .slice none 0 0, .slice none 0 0, .slice none 0 0] 26 (0, 0))) := ⟨by (with_reducible repeat (first | refine blk_drewN ?_ _ | refine blk_drew ?_ | refine blk_alloc ?_ _)); refine blk_far ?_ NB411_425.out _; (with_reducible repeat (first | refine blk_drewN ?_ _ | refine blk_drew ?_ | refine blk_alloc ?_ _)); refine blk_far ?_ NB411_425.out _; (with_reducible repeat (first | refine blk_drewN ?_ _ | refine blk_drew ?_ | refine blk_alloc ?_ _)); exact BK411.out⟩
                  have n4_ : Aside0 (((w51.setCell ⟨gb425, 0, none⟩ (.int .u32 ((rd_T68 l0_2 (ji41)).f0))).setCell ⟨gb425, 1, none⟩ (.int .u32 ((rd_T68 l0_2 (ji41)).f1))).heap[gb425]? = some (.cells #[.int .u32 ((rd_T68 l0_2 (ji41)).f0), .int .u32 ((rd_T68 l0_2 (ji41)).f1)] 68 (0, 0))) := ⟨by (with_reducible repeat (first | refine blk_drewN ?_ _ | refine blk_drew ?_ | refine blk_alloc ?_ _)); refine blk_put (cs := #[.int .u32 ((rd_T68 l0_2 (ji41)).f0), .int .u32 0]) ?_ 1 _ rfl; (with_reducible repeat (first | refine blk_drewN ?_ _ | refine blk_drew ?_ | refine blk_alloc ?_ _)); refine blk_put (cs := #[.int .u32 0, .int .u32 0]) ?_ 0 _ rfl; (with_reducible repeat (first | refine blk_drewN ?_ _ | refine blk_drew ?_ | refine blk_alloc ?_ _)); exact BK425.out⟩
                  have n5_ : Aside0 (Below w.heap.size w ((w51.setCell ⟨gb425, 0, none⟩ (.int .u32 ((rd_T68 l0_2 (ji41)).f0))).setCell ⟨gb425, 1, none⟩ (.int .u32 ((rd_T68 l0_2 (ji41)).f1)))) := ⟨by repeat (first | (with_reducible first | exact HB.out | apply below_alloc | apply pw_below_drewN | apply below_drew1 | refine below_set ?_ GE410.out | refine below_set ?_ GE411.out | refine below_set ?_ GE425.out) | exact HB.out)⟩
                  (try clear HO_9)
                  (try clear HO_10)
                  (try clear BK410)
                  (try clear BK411)
                  (try clear BK425)
                  (try clear HB)
                  generalize ((w51.setCell ⟨gb425, 0, none⟩ (.int .u32 ((rd_T68 l0_2 (ji41)).f0))).setCell ⟨gb425, 1, none⟩ (.int .u32 ((rd_T68 l0_2 (ji41)).f1))) = w55 at n0_ n1_ n2_ n3_ n4_ n5_ ⊢
                  have HO_9 := n0_
                  have HO_10 := n1_
                  have BK410 := n2_
                  have BK411 := n3_
                  have BK425 := n4_
                  have HB := n5_
                  clear n0_ n1_ n2_ n3_ n4_ n5_
                  have n0_ := Aside0.mk (Kd.R_drew HO_9.out)
                  have n1_ := Aside0.mk (Kd.R_drew HO_10.out)
                  have n2_ := Aside0.mk (blk_drew BK410.out)
                  have n3_ := Aside0.mk (blk_drew BK411.out)
                  have n4_ := Aside0.mk (blk_drew BK425.out)
                  have n5_ := Aside0.mk (below_drew1 HB.out)
                  clear HO_9
                  clear HO_10
                  clear BK410
                  clear BK411
                  clear BK425
                  clear HB
                  have HO_9 := n0_
                  have HO_10 := n1_
                  have BK410 := n2_
                  have BK411 := n3_
                  have BK425 := n4_
                  have HB := n5_
                  clear n0_ n1_ n2_ n3_ n4_ n5_
                  obtain ⟨Ao57, co57, eo57⟩ := Kd.R_slice HO_9.out
                  (first | subst eo57 | (injection eo57 with f1_ f2_ f3_; have f4_ := f1_.symm; have f5_ := f3_.symm; clear f1_ f2_ f3_; subst f4_; subst f5_))
                  refine start_ (n := 10) (S := fun w' => w'.cell? ⟨gb425, 0, none⟩ = some (.int .u32 ((rd_T68 l0_2 (ji41)).f0)) ∧ w'.cell? ⟨gb425, 1, none⟩ = some (.int .u32 ((rd_T68 l0_2 (ji41)).f1))) (ds := []) #[false, false, false, false, false, false, false, false, false, false] (by kernel_rfl) rfl rfl ⟨(blk_cell BK425.out 0).trans rfl, (blk_cell BK425.out 1).trans rfl⟩ (fun hHeld => ?_); refine with_tabW inquestref24_With.tab19 inquestref24_With.bits19 (fun HT_ HW_ => ?_)
                  generalize w55.drew = w56 at HO_9 HO_10 BK410 BK411 BK425 HB hHeld ⊢
                  refine pure_ (i := 0) (N := some 92) (v := ?_) (a' := ?_) #[true, false, false, false, false, false, false, false, false, false] rfl rfl (any_of HT_.out (by kernel_rfl)) (fun _ _ _ h => h) (Or.inl ⟨by rfl, ?_⟩) ?_ ?_
                  rotate_left
                  ·
                   intro w'
                   go_simp
                   with_reducible rfl
                  rotate_left
                  ·
                   simp only [Act.put, List.setIfInBounds_toArray, List.set_cons_zero, List.set_cons_succ, i64_w, i32_w]
                   rfl
                  refine pure_ (i := 1) (N := some 93) (v := ?_) (a' := ?_) #[true, true, false, false, false, false, false, false, false, false] rfl rfl (any_of HT_.out (by kernel_rfl)) (fun _ _ _ h => h) (Or.inl ⟨by rfl, ?_⟩) ?_ ?_
                  rotate_left
                  ·
                   intro w'
                   go_simp
                   with_reducible rfl
                  rotate_left
                  ·
                   simp only [Act.put, List.setIfInBounds_toArray, List.set_cons_zero, List.set_cons_succ, i64_w, i32_w]
                   rfl
                  refine pure_ (i := 4) (N := some 96) (v := ?_) (a' := ?_) #[true, true, false, false, true, false, false, false, false, false] rfl rfl (any_of HT_.out (by kernel_rfl)) (fun _ _ _ h => h) (Or.inl ⟨by rfl, ?_⟩) ?_ ?_
                  rotate_left
                  ·
                   intro w'
                   go_simp
                   with_reducible rfl
                  rotate_left
                  ·
                   simp only [Act.put, List.setIfInBounds_toArray, List.set_cons_zero, List.set_cons_succ, i64_w, i32_w]
                   rfl
                  refine pure_ (i := 5) (N := some 97) (v := ?_) (a' := ?_) #[true, true, false, false, true, true, false, false, false, false] rfl rfl (any_of HT_.out (by kernel_rfl)) (fun _ _ _ h => h) (Or.inl ⟨by rfl, ?_⟩) ?_ ?_
                  rotate_left
                  ·
                   intro w'
                   go_simp
                   with_reducible rfl
                  rotate_left
                  ·
                   simp only [Act.put, List.setIfInBounds_toArray, List.set_cons_zero, List.set_cons_succ, i64_w, i32_w]
                   rfl
                  refine take_ (i := 2) (N := some 94) (v := ?_) (a' := ?_) #[true, true, true, false, true, true, false, false, false, false] rfl rfl (take_ofW HT_.out HW_.out (by kernel_rfl)) (fun _ _ _ h => h) (Or.inl ⟨by rfl, ?_⟩) hHeld ?_ ?_
                  rotate_left
                  ·
                   rintro w' ⟨s0, s1⟩
                   go_simp
                   with_reducible rfl
                  rotate_left
                  ·
                   simp only [Act.put, List.setIfInBounds_toArray, List.set_cons_zero, List.set_cons_succ, i64_w, i32_w]
                   rfl
                  refine take_ (i := 6) (N := some 98) (v := ?_) (a' := ?_) #[true, true, true, false, true, true, true, false, false, false] rfl rfl (take_ofW HT_.out HW_.out (by kernel_rfl)) (fun _ _ _ h => h) (Or.inl ⟨by rfl, ?_⟩) hHeld ?_ ?_
                  rotate_left
                  ·
                   rintro w' ⟨s0, s1⟩
                   go_simp
                   with_reducible rfl
                  rotate_left
                  ·
                   simp only [Act.put, List.setIfInBounds_toArray, List.set_cons_zero, List.set_cons_succ, i64_w, i32_w]
                   rfl
                  refine one_ (i := 3) (N := some 95) #[true, true, true, true, true, true, true, false, false, false] rfl rfl (one_of HT_.out (by kernel_rfl)) (by decide) (fun K hK => ?_)
                  refine goes_ Try.func46 (by kernel_rfl) rfl #[.slice Ao57 x9_3.length co57, .int .u32 ((rd_T68 l0_2 (ji41)).f0)] (by rfl) rfl rfl (by (try simp only [List.map_toArray, List.map_cons, List.map_nil]); first | done | (simp only [hji41]; rfl) | rfl | (simp only [List.length_drop, List.length_take]; rfl)) ?_
                  with_reducible refine (inquestref24_Lit.calls _ _ x9_3 ((rd_T68 l0_2 (ji41)).f0) t426 _ ?side1 ?side2 A44.out).mono ?_
                  (case side1 => repeat (first | exact (Kd.R_reads' HO_9.out).2.2 | (with_reducible refine Kd.C_alloc ?_ _) | (with_reducible refine Kd.C_drewN ?_ _) | (with_reducible refine Kd.C_drew ?_)))
                  (case side2 => exact (Kd.R_reads' HO_9.out).2.1)
                  rintro e w' ⟨rfl, ⟨nd, rfl⟩⟩
                  refine ⟨_, rfl, ?_⟩
                  refine hK.out _ _ ⟨(blk_cell BK425.out 0).trans rfl, (blk_cell BK425.out 1).trans rfl⟩ (fun hHeld => ?_)
                  clear hK K
                  refine norm_ (a' := ?_) ?_ ?_
                  rotate_left
                  ·
                   show Act.put _ (some 95) _ = _
                   simp only [Act.put, List.setIfInBounds_toArray, List.set_cons_zero, List.set_cons_succ, i64_w, i32_w]
                   rfl
                  refine one_ (i := 7) (N := some 99) #[true, true, true, true, true, true, true, true, false, false] rfl rfl (one_of HT_.out (by kernel_rfl)) (by decide) (fun K hK => ?_)
                  refine goes_ Try.func46 (by kernel_rfl) rfl #[.slice Ao57 x9_3.length co57, .int .u32 ((rd_T68 l0_2 (ji41)).f1)] (by rfl) rfl rfl (by (try simp only [List.map_toArray, List.map_cons, List.map_nil]); first | done | (simp only [hji41]; rfl) | rfl | (simp only [List.length_drop, List.length_take]; rfl)) ?_
                  with_reducible refine (inquestref24_Lit.calls _ _ x9_3 ((rd_T68 l0_2 (ji41)).f1) t427 _ ?side1 ?side2 A45.out).mono ?_
                  (case side1 => repeat (first | exact (Kd.R_reads' HO_9.out).2.2 | (with_reducible refine Kd.C_alloc ?_ _) | (with_reducible refine Kd.C_drewN ?_ _) | (with_reducible refine Kd.C_drew ?_)))
                  (case side2 => exact (Kd.R_reads' HO_9.out).2.1)
                  rintro e w' ⟨rfl, ⟨nd, rfl⟩⟩
                  refine ⟨_, rfl, ?_⟩
                  refine hK.out _ _ ⟨(blk_cell BK425.out 0).trans rfl, (blk_cell BK425.out 1).trans rfl⟩ (fun hHeld => ?_)
                  clear hK K
                  refine norm_ (a' := ?_) ?_ ?_
                  rotate_left
                  ·
                   show Act.put _ (some 99) _ = _
                   simp only [Act.put, List.setIfInBounds_toArray, List.set_cons_zero, List.set_cons_succ, i64_w, i32_w]
                   rfl
                  refine pure_ (i := 8) (N := some 13) (v := ?_) (a' := ?_) #[true, true, true, true, true, true, true, true, true, false] rfl rfl (any_of HT_.out (by kernel_rfl)) (fun _ _ _ h => h) (Or.inl ⟨by rfl, ?_⟩) ?_ ?_
                  rotate_left
                  ·
                   intro w'
                   go_simp
                   with_reducible rfl
                  rotate_left
                  ·
                   simp only [Act.put, List.setIfInBounds_toArray, List.set_cons_zero, List.set_cons_succ, i64_w, i32_w]
                   rfl
                  refine pure_ (i := 9) (N := some 14) (v := ?_) (a' := ?_) #[true, true, true, true, true, true, true, true, true, true] rfl rfl (any_of HT_.out (by kernel_rfl)) (fun _ _ _ h => h) (Or.inl ⟨by rfl, ?_⟩) ?_ ?_
                  rotate_left
                  ·
                   intro w'
                   go_simp
                   with_reducible rfl
                  rotate_left
                  ·
                   simp only [Act.put, List.setIfInBounds_toArray, List.set_cons_zero, List.set_cons_succ, i64_w, i32_w]
                   rfl
                  refine done_ (done_of HT_.out (by kernel_rfl)) ?_
                  obtain ⟨Ao58, co58, eo58⟩ := Kd.R_slice HO_10.out
                  subst eo58
                  try go_wp2_with (first | ((with_reducible refine gate_callee (f := 105) rfl ?_); refine goesL_ (some 105) rfl rfl Try.func105 (by kernel_rfl) rfl #[.slice Ao58 x10_3.length co58, .int .u32 ((wrap64 ((wrap64 (1 + a0_0)) + (l0_1.length : Int))) % 4294967296), .int .u32 t426, .int .u32 t427] rfl (by (try simp only [List.map_toArray, List.map_cons, List.map_nil]); first | done | rfl | (simp only [List.length_drop, List.length_take]; rfl)) ?_; (with_reducible refine (inquestref24_one.calls k3 _ _ x10_3 ((wrap64 ((wrap64 (1 + a0_0)) + (l0_1.length : Int))) % 4294967296) t426 t427 t428 true _ ?side1 ?side2 A46.out).mono ?_); (case side1 => repeat (first | exact (Kd.R_reads' HO_10.out).2.2 | (with_reducible refine Kd.C_alloc ?_ _) | (with_reducible refine Kd.C_drewN ?_ _) | (with_reducible refine Kd.C_drew ?_))); (case side2 => exact (Kd.R_reads' HO_10.out).2.1); rintro e w' ⟨rfl, ⟨nd, rfl⟩⟩; refine ⟨_, rfl, ?_⟩) | ((with_reducible refine gate_builtin (b := .append) (xs := #[.tmp 126, .tmp 128]) rfl ?_); (try (refine gate_guard (by rfl) ?_; dsimp only)); at_builtin; refine Kd.R_append (Kd.int .u32) (w0 := w) w.heap.size rfl (.tmp 126) (.tmp 128) 24 39 (.int .u32 0) 4 rfl Try.underlying24 info39 rfl (by decide) (by omega) (.slice Ao57 x9_3.length co57) x9_3 t428 [.int .u32 t428] (fun _ => True) (fun _ => False) rfl rfl ?aP (fun _ hk => hk.elim) ?aF ?aO ?aB ?aS ?aL ?_; (case aP => exact rfl); (case aB => exact (by repeat (first | (with_reducible first | exact HB.out | apply below_alloc | apply pw_below_drewN | apply below_drew1 | refine below_set ?_ GE410.out | refine below_set ?_ GE411.out | refine below_set ?_ GE425.out) | exact HB.out))); (case aF => exact (fun _ _ => trivial)); (case aO => exact (by (with_reducible repeat (first | apply Kd.R_alloc | apply Kd.R_drewN | apply Kd.R_drew)); exact HO_9.out)); (case aS => exact (below_size (by repeat (first | (with_reducible first | exact HB.out | apply below_alloc | apply pw_below_drewN | apply below_drew1 | refine below_set ?_ GE410.out | refine below_set ?_ GE411.out | refine below_set ?_ GE425.out) | exact HB.out)))); (case aL => have := LMc48.out; omega); intro v431 w59 ho hb hg hat; rw [← Ny430.out] at ho; have n0_ := Aside0.mk (Kd.R_over' (by (with_reducible repeat (first | apply Kd.R_alloc | apply Kd.R_drewN | apply Kd.R_drew)); exact HO_10.out) (Kd.R_typed (by (with_reducible repeat (first | apply Kd.R_alloc | apply Kd.R_drewN | apply Kd.R_drew)); exact HO_9.out)) (by decide) hg); have n1_ := Aside0.mk (blk_grown (g := gb410) (o := .cells #[.int .i64 a0_0, .slice A0_1 l0_1.length c0_1, .slice (some ad424) l0_2.length c0_2, .slice A0_3 l0_3.length c0_3, .slice A0_4 l0_4.length c0_4, .slice A0_5 l0_5.length c0_5] 26 (0, 0)) (by (with_reducible repeat (first | refine blk_drewN ?_ _ | refine blk_drew ?_ | refine blk_alloc ?_ _)); exact BK410.out) hg (Kd.R_ne HO_9.out BK410.out (by decide))); have n2_ := Aside0.mk (blk_grown (g := gb411) (o := .cells #[.int .i64 x412000_2, .slice none 0 0, .slice none 0 0, .slice none 0 0, .slice none 0 0, .slice none 0 0] 26 (0, 0)) (by (with_reducible repeat (first | refine blk_drewN ?_ _ | refine blk_drew ?_ | refine blk_alloc ?_ _)); exact BK411.out) hg (Kd.R_ne HO_9.out BK411.out (by decide))); have n3_ := Aside0.mk (blk_grown (g := gb425) (o := .cells #[.int .u32 ((rd_T68 l0_2 (ji41)).f0), .int .u32 ((rd_T68 l0_2 (ji41)).f1)] 68 (0, 0)) (by (with_reducible repeat (first | refine blk_drewN ?_ _ | refine blk_drew ?_ | refine blk_alloc ?_ _)); exact BK425.out) hg (Kd.R_ne HO_9.out BK425.out (by decide))); have n4_ := Aside0.mk (hb); have n5_ := Aside0.mk (ho); clear HO_10; clear BK410; clear BK411; clear BK425; clear HB; clear HO_9; have HO_10 := n0_; have BK410 := n1_; have BK411 := n2_; have BK425 := n3_; have HB := n4_; have HO432 := n5_; clear n0_ n1_ n2_ n3_ n4_ n5_; clear ho hb hg hat))
                  go_roundg k3
                  case measure => have := HJ2.out; have := HK2.out; have := HK3.out; omega
                  case rel => exact ⟨(y430), (x10_3), ((x11_3 + 1) % 4294967296), (by first | rfl | (simp; done) | (simp [*]; done)), H', ⟨by have := HJ2.out; have := HK2.out; have := HK3.out; omega⟩, ⟨by (with_reducible repeat (first | apply Kd.R_alloc | apply Kd.R_drewN | apply Kd.R_drew)); exact HO432.out⟩, ⟨by (with_reducible repeat (first | apply Kd.R_alloc | apply Kd.R_drewN | apply Kd.R_drew)); exact Kd.R_mono HO_10.out (fun _ hk => trivial)⟩, ⟨by (with_reducible repeat (first | refine blk_drewN ?_ _ | refine blk_drew ?_ | refine blk_alloc ?_ _)); exact BK410.out⟩, ⟨by (with_reducible repeat (first | refine blk_drewN ?_ _ | refine blk_drew ?_ | refine blk_alloc ?_ _)); exact BK411.out⟩, ⟨by repeat (first | (with_reducible first | exact HB.out | apply below_alloc | apply pw_below_drewN | apply below_drew1 | refine below_set ?_ GE410.out | refine below_set ?_ GE411.out | refine below_set ?_ GE425.out) | exact HB.out)⟩⟩
                 ·
                  rw [if_neg c48] at H
                  exact absurd H (by simp)
                ·
                 replace c47 := Bool.eq_false_iff.mpr c47
                 subst c47
                 have H1 : (if x10_3.length < 17592186044416 then (if x9_3.length < 35184372088832 then (inquestref24_With.l1 k3 l1 ((wrap64 ((wrap64 (1 + a0_0)) + (l0_1.length : Int))) % 4294967296) (x9_3 ++ [(2 * ((((wrap64 ((wrap64 (1 + a0_0)) + (l0_1.length : Int))) % 4294967296) + (((x10_3.length : Int)) % 4294967296)) % 4294967296)) % 4294967296]) (x10_3 ++ [(⟨mx t426 t427, mn t426 t427⟩ : S68)]) ((x11_3 + 1) % 4294967296) a0_0 l0_1 l0_2 l0_3 l0_4 l0_5) else (none)) else (none)) = some (r1, r2, r3, r4, r5, r6, r7, r8) := by rw [if_neg (show ¬ (false = true) by decide)] at H; exact H
                 clear H
                 have H := H1
                 clear H1
                 obtain ⟨ji60, hji60⟩ : ∃ j_ : Int, (mx t426 t427) = j_ := ⟨_, rfl⟩
                 replace H : (if x10_3.length < 17592186044416 then (if x9_3.length < 35184372088832 then (inquestref24_With.l1 k3 l1 ((wrap64 ((wrap64 (1 + a0_0)) + (l0_1.length : Int))) % 4294967296) (x9_3 ++ [(2 * ((((wrap64 ((wrap64 (1 + a0_0)) + (l0_1.length : Int))) % 4294967296) + (((x10_3.length : Int)) % 4294967296)) % 4294967296)) % 4294967296]) (x10_3 ++ [(⟨ji60, mn t426 t427⟩ : S68)]) ((x11_3 + 1) % 4294967296) a0_0 l0_1 l0_2 l0_3 l0_4 l0_5) else (none)) else (none)) = some (r1, r2, r3, r4, r5, r6, r7, r8) := by first | (rw [hji60] at H; exact H) | (simp only [hji60] at H ⊢; exact H)
                 (try rw [hji60] at A44)
                 (try rw [hji60] at A45)
                 (try rw [hji60] at A46)
                 have hji60_ : (if t426 < t427 then t427 else t426) = ji60 := hji60
                 obtain ⟨ji61, hji61⟩ : ∃ j_ : Int, (mn t426 t427) = j_ := ⟨_, rfl⟩
                 replace H : (if x10_3.length < 17592186044416 then (if x9_3.length < 35184372088832 then (inquestref24_With.l1 k3 l1 ((wrap64 ((wrap64 (1 + a0_0)) + (l0_1.length : Int))) % 4294967296) (x9_3 ++ [(2 * ((((wrap64 ((wrap64 (1 + a0_0)) + (l0_1.length : Int))) % 4294967296) + (((x10_3.length : Int)) % 4294967296)) % 4294967296)) % 4294967296]) (x10_3 ++ [(⟨ji60, ji61⟩ : S68)]) ((x11_3 + 1) % 4294967296) a0_0 l0_1 l0_2 l0_3 l0_4 l0_5) else (none)) else (none)) = some (r1, r2, r3, r4, r5, r6, r7, r8) := by first | (rw [hji61] at H; exact H) | (simp only [hji61] at H ⊢; exact H)
                 (try rw [hji61] at A44)
                 (try rw [hji61] at A45)
                 (try rw [hji61] at A46)
                 have hji61_ : (if t427 < t426 then t427 else t426) = ji61 := hji61
                 by_cases c62 : x10_3.length < 17592186044416
                 ·
                  rw [if_pos c62] at H
                  have LMc62 := Aside0.mk c62
                  clear c62
                  obtain ⟨y433, hy433⟩ : ∃ y_ : List (S68), y_ = (x10_3 ++ [(⟨ji60, ji61⟩ : S68)]) := ⟨_, rfl⟩
                  replace H : (if x9_3.length < 35184372088832 then (inquestref24_With.l1 k3 l1 ((wrap64 ((wrap64 (1 + a0_0)) + (l0_1.length : Int))) % 4294967296) (x9_3 ++ [(2 * ((((wrap64 ((wrap64 (1 + a0_0)) + (l0_1.length : Int))) % 4294967296) + (((x10_3.length : Int)) % 4294967296)) % 4294967296)) % 4294967296]) y433 ((x11_3 + 1) % 4294967296) a0_0 l0_1 l0_2 l0_3 l0_4 l0_5) else (none)) = some (r1, r2, r3, r4, r5, r6, r7, r8) := by first | (rw [hy433]; with_reducible exact H) | (have H2_ := (Option.bind_some _ _).symm.trans H; rw [hy433]; with_reducible exact H2_) | (have H2_ := (Option.bind_some _ _).symm.trans H; with_reducible exact H2_) | with_reducible exact H | (rw [hy433]; exact H) | exact H
                  have Ny433 := Aside0.mk hy433
                  clear hy433
                  by_cases c63 : x9_3.length < 35184372088832
                  ·
                   rw [if_pos c63] at H
                   have LMc63 := Aside0.mk c63
                   clear c63
                   obtain ⟨y436, hy436⟩ : ∃ y_ : List Int, y_ = (x9_3 ++ [(2 * ((((wrap64 ((wrap64 (1 + a0_0)) + (l0_1.length : Int))) % 4294967296) + (((x10_3.length : Int)) % 4294967296)) % 4294967296)) % 4294967296]) := ⟨_, rfl⟩
                   replace H : (inquestref24_With.l1 k3 l1 ((wrap64 ((wrap64 (1 + a0_0)) + (l0_1.length : Int))) % 4294967296) y436 y433 ((x11_3 + 1) % 4294967296) a0_0 l0_1 l0_2 l0_3 l0_4 l0_5) = some (r1, r2, r3, r4, r5, r6, r7, r8) := by first | (rw [hy436]; with_reducible exact H) | (have H2_ := (Option.bind_some _ _).symm.trans H; rw [hy436]; with_reducible exact H2_) | (have H2_ := (Option.bind_some _ _).symm.trans H; with_reducible exact H2_) | with_reducible exact H | (rw [hy436]; exact H) | exact H
                   have Ny436 := Aside0.mk hy436
                   clear hy436
                   have H' := Aside0.mk H
                   clear H
                   have p416 : 0 ≤ (x11_3 : Int) := of_decide_eq_true (by first | (with_reducible assumption) | assumption)
                   have q416 : x11_3 < (l1.length : Int) := of_decide_eq_true (by first | (with_reducible assumption) | assumption)
                   obtain ⟨ad416, e416, hx416_0⟩ := Kd.at_int HR1.out x11_3 p416 q416
                   cases e416
                   replace hx416_0 := (HB.out.cell (World.block_lt_of_cell? w _ hx416_0)).trans hx416_0
                   replace p416 := eq_true p416
                   replace q416 := eq_true q416
                   have hnb64 := NB410_411.out
                   have hnc64 := NB411_410.out
                   have hcz65_0 : wr.cell? ⟨gb410, 0, none⟩ = some (.int .i64 a0_0) := (blk_cell BK410.out 0).trans rfl
                   have hcz65_1 : wr.cell? ⟨gb410, 1, none⟩ = some (.slice A0_1 l0_1.length c0_1) := (blk_cell BK410.out 1).trans rfl
                   have hcz65_2 : wr.cell? ⟨gb410, 2, none⟩ = some (.slice A0_2 l0_2.length c0_2) := (blk_cell BK410.out 2).trans rfl
                   have hcz65_3 : wr.cell? ⟨gb410, 3, none⟩ = some (.slice A0_3 l0_3.length c0_3) := (blk_cell BK410.out 3).trans rfl
                   have hcz65_4 : wr.cell? ⟨gb410, 4, none⟩ = some (.slice A0_4 l0_4.length c0_4) := (blk_cell BK410.out 4).trans rfl
                   have hcz65_5 : wr.cell? ⟨gb410, 5, none⟩ = some (.slice A0_5 l0_5.length c0_5) := (blk_cell BK410.out 5).trans rfl
                   have hfz65_0 := blk_frozen BK410.out 0
                   have hfz65_1 := blk_frozen BK410.out 1
                   have hfz65_2 := blk_frozen BK410.out 2
                   have hfz65_3 := blk_frozen BK410.out 3
                   have hfz65_4 := blk_frozen BK410.out 4
                   have hfz65_5 := blk_frozen BK410.out 5
                   have p424 : 0 ≤ ((ji41) : Int) := of_decide_eq_true (by first | (with_reducible assumption) | assumption)
                   have q424 : (ji41) < (l0_2.length : Int) := of_decide_eq_true (by first | (with_reducible assumption) | assumption)
                   obtain ⟨ad424, e424, hx424_0, hx424_1⟩ := at_T68 HR0_2.out (ji41) p424 q424
                   cases e424
                   replace hx424_0 := (HB.out.cell (World.block_lt_of_cell? w _ hx424_0)).trans hx424_0
                   replace hx424_1 := (HB.out.cell (World.block_lt_of_cell? w _ hx424_1)).trans hx424_1
                   replace p424 := eq_true p424
                   replace q424 := eq_true q424
                   try go_wp2_with (first | ((with_reducible refine gate_dst (N := 12) rfl ?_); (try (refine gate_guard (by rfl) ?_; dsimp only)); refine box_event ?hg (N := 12) ?hd (cs := #[.int .u32 0, .int .u32 0]) (t := 68) ?hr ?_; (case hd => rfl); (case hg => rfl); (case hr => first | (go_simp; done) | (go_simp; rfl)); intro gb425 hg w66 hbox hb; have n0_ := Aside0.mk (Kd.R_below (by (with_reducible repeat (first | apply Kd.R_alloc | apply Kd.R_drewN | apply Kd.R_drew)); exact HO_9.out) hb); have n1_ := Aside0.mk (Kd.R_below (Kd.R_elderB (by (with_reducible repeat (first | apply Kd.R_alloc | apply Kd.R_drewN | apply Kd.R_drew)); exact HO_10.out) gb425 (Nat.le_of_eq hg.symm)) hb); have n2_ := Aside0.mk (blk_below (g := gb410) (o := .cells #[.int .i64 a0_0, .slice A0_1 l0_1.length c0_1, .slice (some ad424) l0_2.length c0_2, .slice A0_3 l0_3.length c0_3, .slice A0_4 l0_4.length c0_4, .slice A0_5 l0_5.length c0_5] 26 (0, 0)) (by (with_reducible repeat (first | refine blk_drewN ?_ _ | refine blk_drew ?_ | refine blk_alloc ?_ _)); exact BK410.out) hb); have n3_ := Aside0.mk (blk_below (g := gb411) (o := .cells #[.int .i64 x412000_2, .slice none 0 0, .slice none 0 0, .slice none 0 0, .slice none 0 0, .slice none 0 0] 26 (0, 0)) (by (with_reducible repeat (first | refine blk_drewN ?_ _ | refine blk_drew ?_ | refine blk_alloc ?_ _)); exact BK411.out) hb); have n4_ := Aside0.mk (below_step (by repeat (first | (with_reducible first | exact HB.out | apply below_alloc | apply pw_below_drewN | apply below_drew1 | refine below_set ?_ GE410.out | refine below_set ?_ GE411.out) | exact HB.out)) hb); have n5_ := Aside0.mk (hbox); have n6_ := Aside0.mk ((by rw [hg]; exact (below_size (by repeat (first | (with_reducible first | exact HB.out | apply below_alloc | apply pw_below_drewN | apply below_drew1 | refine below_set ?_ GE410.out | refine below_set ?_ GE411.out) | exact HB.out))) : w.heap.size ≤ gb425)); have n7_ := Aside0.mk ((by rw [hg]; exact (below_size (by repeat (first | (with_reducible first | exact HB.out | apply below_alloc | apply pw_below_drewN | apply below_drew1 | refine below_set ?_ GE410.out | refine below_set ?_ GE411.out) | exact HB.out))) : w.heap.size ≤ gb425)); have n8_ := Aside0.mk ((by rw [hg]; exact Nat.ne_of_lt (blk_lt (g := gb410) (o := .cells #[.int .i64 a0_0, .slice A0_1 l0_1.length c0_1, .slice (some ad424) l0_2.length c0_2, .slice A0_3 l0_3.length c0_3, .slice A0_4 l0_4.length c0_4, .slice A0_5 l0_5.length c0_5] 26 (0, 0)) (by (with_reducible repeat (first | refine blk_drewN ?_ _ | refine blk_drew ?_ | refine blk_alloc ?_ _)); exact BK410.out)) : gb410 ≠ gb425)); have n9_ := Aside0.mk ((by rw [hg]; exact Nat.ne_of_gt (blk_lt (g := gb410) (o := .cells #[.int .i64 a0_0, .slice A0_1 l0_1.length c0_1, .slice (some ad424) l0_2.length c0_2, .slice A0_3 l0_3.length c0_3, .slice A0_4 l0_4.length c0_4, .slice A0_5 l0_5.length c0_5] 26 (0, 0)) (by (with_reducible repeat (first | refine blk_drewN ?_ _ | refine blk_drew ?_ | refine blk_alloc ?_ _)); exact BK410.out)) : gb425 ≠ gb410)); have n10_ := Aside0.mk ((by rw [hg]; exact Nat.ne_of_lt (blk_lt (g := gb411) (o := .cells #[.int .i64 x412000_2, .slice none 0 0, .slice none 0 0, .slice none 0 0, .slice none 0 0, .slice none 0 0] 26 (0, 0)) (by (with_reducible repeat (first | refine blk_drewN ?_ _ | refine blk_drew ?_ | refine blk_alloc ?_ _)); exact BK411.out)) : gb411 ≠ gb425)); have n11_ := Aside0.mk ((by rw [hg]; exact Nat.ne_of_gt (blk_lt (g := gb411) (o := .cells #[.int .i64 x412000_2, .slice none 0 0, .slice none 0 0, .slice none 0 0, .slice none 0 0, .slice none 0 0] 26 (0, 0)) (by (with_reducible repeat (first | refine blk_drewN ?_ _ | refine blk_drew ?_ | refine blk_alloc ?_ _)); exact BK411.out)) : gb425 ≠ gb411)); clear HO_9; clear HO_10; clear BK410; clear BK411; clear HB; have HO_9 := n0_; have HO_10 := n1_; have BK410 := n2_; have BK411 := n3_; have HB := n4_; have BK425 := n5_; have GW425 := n6_; have GE425 := n7_; have NB410_425 := n8_; have NB425_410 := n9_; have NB411_425 := n10_; have NB425_411 := n11_; clear n0_ n1_ n2_ n3_ n4_ n5_ n6_ n7_ n8_ n9_ n10_ n11_; clear hb hbox hg; have hnb67 := NB425_410.out; have hnc67 := NB410_425.out; have hnb68 := NB425_411.out; have hnc68 := NB411_425.out; have hcz69_0 : w66.cell? ⟨gb425, 0, none⟩ = some (.int .u32 0) := (blk_cell BK425.out 0).trans rfl; have hcz69_1 : w66.cell? ⟨gb425, 1, none⟩ = some (.int .u32 0) := (blk_cell BK425.out 1).trans rfl; have hfz69_0 := blk_frozen BK425.out 0; have hfz69_1 := blk_frozen BK425.out 1))
                   have n0_ : Aside0 (Kd.R (Kd.int .u32) 39 ((w66.setCell ⟨gb425, 0, none⟩ (.int .u32 ((rd_T68 l0_2 (ji41)).f0))).setCell ⟨gb425, 1, none⟩ (.int .u32 ((rd_T68 l0_2 (ji41)).f1))) w.heap.size (fun _ => True) u9 x9_3) := ⟨by (with_reducible repeat (first | apply Kd.R_alloc | apply Kd.R_drewN | apply Kd.R_drew)); exact Kd.R_mono (Kd.R_far (p := ⟨gb425, 1, none⟩) (Kd.R_far (p := ⟨gb425, 0, none⟩) (Kd.R_types HO_9.out BK425.out (by decide)) (fun _ hk => hk.2) (.int .u32 ((rd_T68 l0_2 (ji41)).f0))) (fun _ hk => hk.2) (.int .u32 ((rd_T68 l0_2 (ji41)).f1))) (fun _ hk => trivial)⟩
                   have n1_ : Aside0 (Kd.R k68 68 ((w66.setCell ⟨gb425, 0, none⟩ (.int .u32 ((rd_T68 l0_2 (ji41)).f0))).setCell ⟨gb425, 1, none⟩ (.int .u32 ((rd_T68 l0_2 (ji41)).f1))) w.heap.size (fun k_ => k_ ≠ gb425) u10 x10_3) := ⟨by (with_reducible repeat (first | apply Kd.R_alloc | apply Kd.R_drewN | apply Kd.R_drew)); exact Kd.R_mono (Kd.R_far (p := ⟨gb425, 1, none⟩) (Kd.R_far (p := ⟨gb425, 0, none⟩) (Kd.R_mono HO_10.out (fun k_ hk => (⟨hk, hk.2⟩ : _ ∧ k_ ≠ gb425))) (fun _ hk => hk.2) (.int .u32 ((rd_T68 l0_2 (ji41)).f0))) (fun _ hk => hk.2) (.int .u32 ((rd_T68 l0_2 (ji41)).f1))) (fun _ hk => hk.1.2)⟩
                   have n2_ : Aside0 (((w66.setCell ⟨gb425, 0, none⟩ (.int .u32 ((rd_T68 l0_2 (ji41)).f0))).setCell ⟨gb425, 1, none⟩ (.int .u32 ((rd_T68 l0_2 (ji41)).f1))).heap[gb410]? = some (.cells #[.int .i64 a0_0, .slice A0_1 l0_1.length c0_1, .slice (some ad424) l0_2.length c0_2, .slice A0_3 l0_3.length c0_3, .slice A0_4 l0_4.length c0_4, .slice A0_5 l0_5.length c0_5] 26 (0, 0))) := ⟨by (with_reducible repeat (first | refine blk_drewN ?_ _ | refine blk_drew ?_ | refine blk_alloc ?_ _)); refine blk_far ?_ NB410_425.out _; (with_reducible repeat (first | refine blk_drewN ?_ _ | refine blk_drew ?_ | refine blk_alloc ?_ _)); refine blk_far ?_ NB410_425.out _; (with_reducible repeat (first | refine blk_drewN ?_ _ | refine blk_drew ?_ | refine blk_alloc ?_ _)); exact BK410.out⟩
                   have n3_ : Aside0 (((w66.setCell ⟨gb425, 0, none⟩ (.int .u32 ((rd_T68 l0_2 (ji41)).f0))).setCell ⟨gb425, 1, none⟩ (.int .u32 ((rd_T68 l0_2 (ji41)).f1))).heap[gb411]? = some (.cells #[.int .i64 x412000_2, .slice none 0 0, .slice none 0 0, .slice none 0 0, .slice none 0 0, .slice none 0 0] 26 (0, 0))) := ⟨by (with_reducible repeat (first | refine blk_drewN ?_ _ | refine blk_drew ?_ | refine blk_alloc ?_ _)); refine blk_far ?_ NB411_425.out _; (with_reducible repeat (first | refine blk_drewN ?_ _ | refine blk_drew ?_ | refine blk_alloc ?_ _)); refine blk_far ?_ NB411_425.out _; (with_reducible repeat (first | refine blk_drewN ?_ _ | refine blk_drew ?_ | refine blk_alloc ?_ _)); exact BK411.out⟩
                   have n4_ : Aside0 (((w66.setCell ⟨gb425, 0, none⟩ (.int .u32 ((rd_T68 l0_2 (ji41)).f0))).setCell ⟨gb425, 1, none⟩ (.int .u32 ((rd_T68 l0_2 (ji41)).f1))).heap[gb425]? = some (.cells #[.int .u32 ((rd_T68 l0_2 (ji41)).f0), .int .u32 ((rd_T68 l0_2 (ji41)).f1)] 68 (0, 0))) := ⟨by (with_reducible repeat (first | refine blk_drewN ?_ _ | refine blk_drew ?_ | refine blk_alloc ?_ _)); refine blk_put (cs := #[.int .u32 ((rd_T68 l0_2 (ji41)).f0), .int .u32 0]) ?_ 1 _ rfl; (with_reducible repeat (first | refine blk_drewN ?_ _ | refine blk_drew ?_ | refine blk_alloc ?_ _)); refine blk_put (cs := #[.int .u32 0, .int .u32 0]) ?_ 0 _ rfl; (with_reducible repeat (first | refine blk_drewN ?_ _ | refine blk_drew ?_ | refine blk_alloc ?_ _)); exact BK425.out⟩
                   have n5_ : Aside0 (Below w.heap.size w ((w66.setCell ⟨gb425, 0, none⟩ (.int .u32 ((rd_T68 l0_2 (ji41)).f0))).setCell ⟨gb425, 1, none⟩ (.int .u32 ((rd_T68 l0_2 (ji41)).f1)))) := ⟨by repeat (first | (with_reducible first | exact HB.out | apply below_alloc | apply pw_below_drewN | apply below_drew1 | refine below_set ?_ GE410.out | refine below_set ?_ GE411.out | refine below_set ?_ GE425.out) | exact HB.out)⟩
                   (try clear HO_9)
                   (try clear HO_10)
                   (try clear BK410)
                   (try clear BK411)
                   (try clear BK425)
                   (try clear HB)
                   generalize ((w66.setCell ⟨gb425, 0, none⟩ (.int .u32 ((rd_T68 l0_2 (ji41)).f0))).setCell ⟨gb425, 1, none⟩ (.int .u32 ((rd_T68 l0_2 (ji41)).f1))) = w70 at n0_ n1_ n2_ n3_ n4_ n5_ ⊢
                   have HO_9 := n0_
                   have HO_10 := n1_
                   have BK410 := n2_
                   have BK411 := n3_
                   have BK425 := n4_
                   have HB := n5_
                   clear n0_ n1_ n2_ n3_ n4_ n5_
                   have n0_ := Aside0.mk (Kd.R_drew HO_9.out)
                   have n1_ := Aside0.mk (Kd.R_drew HO_10.out)
                   have n2_ := Aside0.mk (blk_drew BK410.out)
                   have n3_ := Aside0.mk (blk_drew BK411.out)
                   have n4_ := Aside0.mk (blk_drew BK425.out)
                   have n5_ := Aside0.mk (below_drew1 HB.out)
                   clear HO_9
                   clear HO_10
                   clear BK410
                   clear BK411
                   clear BK425
                   clear HB
                   have HO_9 := n0_
                   have HO_10 := n1_
                   have BK410 := n2_
                   have BK411 := n3_
                   have BK425 := n4_
                   have HB := n5_
                   clear n0_ n1_ n2_ n3_ n4_ n5_
                   obtain ⟨Ao72, co72, eo72⟩ := Kd.R_slice HO_9.out
                   (first | subst eo72 | (injection eo72 with f1_ f2_ f3_; have f4_ := f1_.symm; have f5_ := f3_.symm; clear f1_ f2_ f3_; subst f4_; subst f5_))
                   refine start_ (n := 10) (S := fun w' => w'.cell? ⟨gb425, 0, none⟩ = some (.int .u32 ((rd_T68 l0_2 (ji41)).f0)) ∧ w'.cell? ⟨gb425, 1, none⟩ = some (.int .u32 ((rd_T68 l0_2 (ji41)).f1))) (ds := []) #[false, false, false, false, false, false, false, false, false, false] (by kernel_rfl) rfl rfl ⟨(blk_cell BK425.out 0).trans rfl, (blk_cell BK425.out 1).trans rfl⟩ (fun hHeld => ?_); refine with_tabW inquestref24_With.tab19 inquestref24_With.bits19 (fun HT_ HW_ => ?_)
                   generalize w70.drew = w71 at HO_9 HO_10 BK410 BK411 BK425 HB hHeld ⊢
                   refine pure_ (i := 0) (N := some 92) (v := ?_) (a' := ?_) #[true, false, false, false, false, false, false, false, false, false] rfl rfl (any_of HT_.out (by kernel_rfl)) (fun _ _ _ h => h) (Or.inl ⟨by rfl, ?_⟩) ?_ ?_
                   rotate_left
                   ·
                    intro w'
                    go_simp
                    with_reducible rfl
                   rotate_left
                   ·
                    simp only [Act.put, List.setIfInBounds_toArray, List.set_cons_zero, List.set_cons_succ, i64_w, i32_w]
                    rfl
                   refine pure_ (i := 1) (N := some 93) (v := ?_) (a' := ?_) #[true, true, false, false, false, false, false, false, false, false] rfl rfl (any_of HT_.out (by kernel_rfl)) (fun _ _ _ h => h) (Or.inl ⟨by rfl, ?_⟩) ?_ ?_
                   rotate_left
                   ·
                    intro w'
                    go_simp
                    with_reducible rfl
                   rotate_left
                   ·
                    simp only [Act.put, List.setIfInBounds_toArray, List.set_cons_zero, List.set_cons_succ, i64_w, i32_w]
                    rfl
                   refine pure_ (i := 4) (N := some 96) (v := ?_) (a' := ?_) #[true, true, false, false, true, false, false, false, false, false] rfl rfl (any_of HT_.out (by kernel_rfl)) (fun _ _ _ h => h) (Or.inl ⟨by rfl, ?_⟩) ?_ ?_
                   rotate_left
                   ·
                    intro w'
                    go_simp
                    with_reducible rfl
                   rotate_left
                   ·
                    simp only [Act.put, List.setIfInBounds_toArray, List.set_cons_zero, List.set_cons_succ, i64_w, i32_w]
                    rfl
                   refine pure_ (i := 5) (N := some 97) (v := ?_) (a' := ?_) #[true, true, false, false, true, true, false, false, false, false] rfl rfl (any_of HT_.out (by kernel_rfl)) (fun _ _ _ h => h) (Or.inl ⟨by rfl, ?_⟩) ?_ ?_
                   rotate_left
                   ·
                    intro w'
                    go_simp
                    with_reducible rfl
                   rotate_left
                   ·
                    simp only [Act.put, List.setIfInBounds_toArray, List.set_cons_zero, List.set_cons_succ, i64_w, i32_w]
                    rfl
                   refine take_ (i := 2) (N := some 94) (v := ?_) (a' := ?_) #[true, true, true, false, true, true, false, false, false, false] rfl rfl (take_ofW HT_.out HW_.out (by kernel_rfl)) (fun _ _ _ h => h) (Or.inl ⟨by rfl, ?_⟩) hHeld ?_ ?_
                   rotate_left
                   ·
                    rintro w' ⟨s0, s1⟩
                    go_simp
                    with_reducible rfl
                   rotate_left
                   ·
                    simp only [Act.put, List.setIfInBounds_toArray, List.set_cons_zero, List.set_cons_succ, i64_w, i32_w]
                    rfl
                   refine take_ (i := 6) (N := some 98) (v := ?_) (a' := ?_) #[true, true, true, false, true, true, true, false, false, false] rfl rfl (take_ofW HT_.out HW_.out (by kernel_rfl)) (fun _ _ _ h => h) (Or.inl ⟨by rfl, ?_⟩) hHeld ?_ ?_
                   rotate_left
                   ·
                    rintro w' ⟨s0, s1⟩
                    go_simp
                    with_reducible rfl
                   rotate_left
                   ·
                    simp only [Act.put, List.setIfInBounds_toArray, List.set_cons_zero, List.set_cons_succ, i64_w, i32_w]
                    rfl
                   refine one_ (i := 3) (N := some 95) #[true, true, true, true, true, true, true, false, false, false] rfl rfl (one_of HT_.out (by kernel_rfl)) (by decide) (fun K hK => ?_)
                   refine goes_ Try.func46 (by kernel_rfl) rfl #[.slice Ao72 x9_3.length co72, .int .u32 ((rd_T68 l0_2 (ji41)).f0)] (by rfl) rfl rfl (by (try simp only [List.map_toArray, List.map_cons, List.map_nil]); first | done | (simp only [hji41]; rfl) | rfl | (simp only [List.length_drop, List.length_take]; rfl)) ?_
                   with_reducible refine (inquestref24_Lit.calls _ _ x9_3 ((rd_T68 l0_2 (ji41)).f0) t426 _ ?side1 ?side2 A44.out).mono ?_
                   (case side1 => repeat (first | exact (Kd.R_reads' HO_9.out).2.2 | (with_reducible refine Kd.C_alloc ?_ _) | (with_reducible refine Kd.C_drewN ?_ _) | (with_reducible refine Kd.C_drew ?_)))
                   (case side2 => exact (Kd.R_reads' HO_9.out).2.1)
                   rintro e w' ⟨rfl, ⟨nd, rfl⟩⟩
                   refine ⟨_, rfl, ?_⟩
                   refine hK.out _ _ ⟨(blk_cell BK425.out 0).trans rfl, (blk_cell BK425.out 1).trans rfl⟩ (fun hHeld => ?_)
                   clear hK K
                   refine norm_ (a' := ?_) ?_ ?_
                   rotate_left
                   ·
                    show Act.put _ (some 95) _ = _
                    simp only [Act.put, List.setIfInBounds_toArray, List.set_cons_zero, List.set_cons_succ, i64_w, i32_w]
                    rfl
                   refine one_ (i := 7) (N := some 99) #[true, true, true, true, true, true, true, true, false, false] rfl rfl (one_of HT_.out (by kernel_rfl)) (by decide) (fun K hK => ?_)
                   refine goes_ Try.func46 (by kernel_rfl) rfl #[.slice Ao72 x9_3.length co72, .int .u32 ((rd_T68 l0_2 (ji41)).f1)] (by rfl) rfl rfl (by (try simp only [List.map_toArray, List.map_cons, List.map_nil]); first | done | (simp only [hji41]; rfl) | rfl | (simp only [List.length_drop, List.length_take]; rfl)) ?_
                   with_reducible refine (inquestref24_Lit.calls _ _ x9_3 ((rd_T68 l0_2 (ji41)).f1) t427 _ ?side1 ?side2 A45.out).mono ?_
                   (case side1 => repeat (first | exact (Kd.R_reads' HO_9.out).2.2 | (with_reducible refine Kd.C_alloc ?_ _) | (with_reducible refine Kd.C_drewN ?_ _) | (with_reducible refine Kd.C_drew ?_)))
                   (case side2 => exact (Kd.R_reads' HO_9.out).2.1)
                   rintro e w' ⟨rfl, ⟨nd, rfl⟩⟩
                   refine ⟨_, rfl, ?_⟩
                   refine hK.out _ _ ⟨(blk_cell BK425.out 0).trans rfl, (blk_cell BK425.out 1).trans rfl⟩ (fun hHeld => ?_)
                   clear hK K
                   refine norm_ (a' := ?_) ?_ ?_
                   rotate_left
                   ·
                    show Act.put _ (some 99) _ = _
                    simp only [Act.put, List.setIfInBounds_toArray, List.set_cons_zero, List.set_cons_succ, i64_w, i32_w]
                    rfl
                   refine pure_ (i := 8) (N := some 13) (v := ?_) (a' := ?_) #[true, true, true, true, true, true, true, true, true, false] rfl rfl (any_of HT_.out (by kernel_rfl)) (fun _ _ _ h => h) (Or.inl ⟨by rfl, ?_⟩) ?_ ?_
                   rotate_left
                   ·
                    intro w'
                    go_simp
                    with_reducible rfl
                   rotate_left
                   ·
                    simp only [Act.put, List.setIfInBounds_toArray, List.set_cons_zero, List.set_cons_succ, i64_w, i32_w]
                    rfl
                   refine pure_ (i := 9) (N := some 14) (v := ?_) (a' := ?_) #[true, true, true, true, true, true, true, true, true, true] rfl rfl (any_of HT_.out (by kernel_rfl)) (fun _ _ _ h => h) (Or.inl ⟨by rfl, ?_⟩) ?_ ?_
                   rotate_left
                   ·
                    intro w'
                    go_simp
                    with_reducible rfl
                   rotate_left
                   ·
                    simp only [Act.put, List.setIfInBounds_toArray, List.set_cons_zero, List.set_cons_succ, i64_w, i32_w]
                    rfl
                   refine done_ (done_of HT_.out (by kernel_rfl)) ?_
                   obtain ⟨Ao73, co73, eo73⟩ := Kd.R_slice HO_10.out
                   subst eo73
                   try go_wp2_with (first | ((with_reducible refine gate_callee (f := 105) rfl ?_); refine goesL_ (some 105) rfl rfl Try.func105 (by kernel_rfl) rfl #[.slice Ao73 x10_3.length co73, .int .u32 ((wrap64 ((wrap64 (1 + a0_0)) + (l0_1.length : Int))) % 4294967296), .int .u32 t426, .int .u32 t427] rfl (by (try simp only [List.map_toArray, List.map_cons, List.map_nil]); first | done | rfl | (simp only [List.length_drop, List.length_take]; rfl)) ?_; (with_reducible refine (inquestref24_one.calls k3 _ _ x10_3 ((wrap64 ((wrap64 (1 + a0_0)) + (l0_1.length : Int))) % 4294967296) t426 t427 t428 false _ ?side1 ?side2 A46.out).mono ?_); (case side1 => repeat (first | exact (Kd.R_reads' HO_10.out).2.2 | (with_reducible refine Kd.C_alloc ?_ _) | (with_reducible refine Kd.C_drewN ?_ _) | (with_reducible refine Kd.C_drew ?_))); (case side2 => exact (Kd.R_reads' HO_10.out).2.1); rintro e w' ⟨rfl, ⟨nd, rfl⟩⟩; refine ⟨_, rfl, ?_⟩) | ((with_reducible refine gate_builtin (b := .append) (xs := #[.tmp 116, .tmp 124]) rfl ?_); (try (refine gate_guard (by rfl) ?_; dsimp only)); at_builtin; refine Kd.R_append k68 (w0 := w) w.heap.size rfl (.tmp 116) (.tmp 124) 23 68 (.agg #[(.int .u32 0), (.int .u32 0)]) 8 rfl Try.underlying23 info68 rfl (by decide) (by omega) (.slice Ao73 x10_3.length co73) x10_3 (⟨ji60, ji61⟩ : S68) [.int .u32 ji60, .int .u32 ji61] (fun k_ => k_ ≠ gb425) (fun _ => False) rfl rfl ?aP (fun _ hk => hk.elim) ?aF ?aO ?aB ?aS ?aL ?_; (case aP => exact k68_mkM _ _ _ (⟨ji60, ji61⟩ : S68)); (case aB => exact (by repeat (first | (with_reducible first | exact HB.out | apply below_alloc | apply pw_below_drewN | apply below_drew1 | refine below_set ?_ GE410.out | refine below_set ?_ GE411.out | refine below_set ?_ GE425.out) | exact HB.out))); (case aF => exact (fun k_ hk => Kd.freshB (g := gb425) (o := .cells #[.int .u32 ((rd_T68 l0_2 (ji41)).f0), .int .u32 ((rd_T68 l0_2 (ji41)).f1)] 68 (0, 0)) (by (with_reducible repeat (first | refine blk_drewN ?_ _ | refine blk_drew ?_ | refine blk_alloc ?_ _)); exact BK425.out) k_ hk)); (case aO => exact (by (with_reducible repeat (first | apply Kd.R_alloc | apply Kd.R_drewN | apply Kd.R_drew)); exact HO_10.out)); (case aS => exact (below_size (by repeat (first | (with_reducible first | exact HB.out | apply below_alloc | apply pw_below_drewN | apply below_drew1 | refine below_set ?_ GE410.out | refine below_set ?_ GE411.out | refine below_set ?_ GE425.out) | exact HB.out)))); (case aL => have := LMc62.out; omega); intro v434 w74 ho hb hg hat; rw [← Ny433.out] at ho; have n0_ := Aside0.mk (Kd.R_over' (by (with_reducible repeat (first | apply Kd.R_alloc | apply Kd.R_drewN | apply Kd.R_drew)); exact HO_9.out) (Kd.R_typed (by (with_reducible repeat (first | apply Kd.R_alloc | apply Kd.R_drewN | apply Kd.R_drew)); exact HO_10.out)) (by decide) hg); have n1_ := Aside0.mk (blk_grown (g := gb410) (o := .cells #[.int .i64 a0_0, .slice A0_1 l0_1.length c0_1, .slice (some ad424) l0_2.length c0_2, .slice A0_3 l0_3.length c0_3, .slice A0_4 l0_4.length c0_4, .slice A0_5 l0_5.length c0_5] 26 (0, 0)) (by (with_reducible repeat (first | refine blk_drewN ?_ _ | refine blk_drew ?_ | refine blk_alloc ?_ _)); exact BK410.out) hg (Kd.R_ne HO_10.out BK410.out (by decide))); have n2_ := Aside0.mk (blk_grown (g := gb411) (o := .cells #[.int .i64 x412000_2, .slice none 0 0, .slice none 0 0, .slice none 0 0, .slice none 0 0, .slice none 0 0] 26 (0, 0)) (by (with_reducible repeat (first | refine blk_drewN ?_ _ | refine blk_drew ?_ | refine blk_alloc ?_ _)); exact BK411.out) hg (Kd.R_ne HO_10.out BK411.out (by decide))); have n3_ := Aside0.mk (blk_grown (g := gb425) (o := .cells #[.int .u32 ((rd_T68 l0_2 (ji41)).f0), .int .u32 ((rd_T68 l0_2 (ji41)).f1)] 68 (0, 0)) (by (with_reducible repeat (first | refine blk_drewN ?_ _ | refine blk_drew ?_ | refine blk_alloc ?_ _)); exact BK425.out) hg (Kd.R_away HO_10.out (fun _ hk => hk))); have n4_ := Aside0.mk (hb); have n5_ := Aside0.mk (ho); clear HO_9; clear BK410; clear BK411; clear BK425; clear HB; clear HO_10; have HO_9 := n0_; have BK410 := n1_; have BK411 := n2_; have BK425 := n3_; have HB := n4_; have HO435 := n5_; clear n0_ n1_ n2_ n3_ n4_ n5_; clear ho hb hg hat) | ((with_reducible refine gate_builtin (b := .append) (xs := #[.tmp 126, .tmp 128]) rfl ?_); (try (refine gate_guard (by rfl) ?_; dsimp only)); at_builtin; refine Kd.R_append (Kd.int .u32) (w0 := w) w.heap.size rfl (.tmp 126) (.tmp 128) 24 39 (.int .u32 0) 4 rfl Try.underlying24 info39 rfl (by decide) (by omega) (.slice Ao72 x9_3.length co72) x9_3 (2 * ((wrap64 (wrap64 (1 + a0_0) + (l0_1.length : Int)) + (x10_3.length : Int)) % 4294967296) % 4294967296) [.int .u32 (2 * ((wrap64 (wrap64 (1 + a0_0) + (l0_1.length : Int)) + (x10_3.length : Int)) % 4294967296) % 4294967296)] (fun _ => True) (fun _ => False) rfl rfl ?aP (fun _ hk => hk.elim) ?aF ?aO ?aB ?aS ?aL ?_; (case aP => exact rfl); (case aB => exact (by repeat (first | (with_reducible first | exact HB.out | apply below_alloc | apply pw_below_drewN | apply below_drew1 | refine below_set ?_ GE410.out | refine below_set ?_ GE411.out | refine below_set ?_ GE425.out) | exact HB.out))); (case aF => exact (fun _ _ => trivial)); (case aO => exact (by (with_reducible repeat (first | apply Kd.R_alloc | apply Kd.R_drewN | apply Kd.R_drew)); exact HO_9.out)); (case aS => exact (below_size (by repeat (first | (with_reducible first | exact HB.out | apply below_alloc | apply pw_below_drewN | apply below_drew1 | refine below_set ?_ GE410.out | refine below_set ?_ GE411.out | refine below_set ?_ GE425.out) | exact HB.out)))); (case aL => have := LMc63.out; omega); intro v437 w75 ho hb hg hat; rw [show (2 * ((wrap64 (wrap64 (1 + a0_0) + (l0_1.length : Int)) + (x10_3.length : Int)) % 4294967296) % 4294967296) = ((2 * ((((wrap64 ((wrap64 (1 + a0_0)) + (l0_1.length : Int))) % 4294967296) + (((x10_3.length : Int)) % 4294967296)) % 4294967296)) % 4294967296) from by omega] at ho; rw [← Ny436.out] at ho; have n0_ := Aside0.mk (blk_grown (g := gb410) (o := .cells #[.int .i64 a0_0, .slice A0_1 l0_1.length c0_1, .slice (some ad424) l0_2.length c0_2, .slice A0_3 l0_3.length c0_3, .slice A0_4 l0_4.length c0_4, .slice A0_5 l0_5.length c0_5] 26 (0, 0)) (by (with_reducible repeat (first | refine blk_drewN ?_ _ | refine blk_drew ?_ | refine blk_alloc ?_ _)); exact BK410.out) hg (Kd.R_ne HO_9.out BK410.out (by decide))); have n1_ := Aside0.mk (blk_grown (g := gb411) (o := .cells #[.int .i64 x412000_2, .slice none 0 0, .slice none 0 0, .slice none 0 0, .slice none 0 0, .slice none 0 0] 26 (0, 0)) (by (with_reducible repeat (first | refine blk_drewN ?_ _ | refine blk_drew ?_ | refine blk_alloc ?_ _)); exact BK411.out) hg (Kd.R_ne HO_9.out BK411.out (by decide))); have n2_ := Aside0.mk (blk_grown (g := gb425) (o := .cells #[.int .u32 ((rd_T68 l0_2 (ji41)).f0), .int .u32 ((rd_T68 l0_2 (ji41)).f1)] 68 (0, 0)) (by (with_reducible repeat (first | refine blk_drewN ?_ _ | refine blk_drew ?_ | refine blk_alloc ?_ _)); exact BK425.out) hg (Kd.R_ne HO_9.out BK425.out (by decide))); have n3_ := Aside0.mk (Kd.R_over' (by (with_reducible repeat (first | apply Kd.R_alloc | apply Kd.R_drewN | apply Kd.R_drew)); exact HO435.out) (Kd.R_typed (by (with_reducible repeat (first | apply Kd.R_alloc | apply Kd.R_drewN | apply Kd.R_drew)); exact HO_9.out)) (by decide) hg); have n4_ := Aside0.mk (hb); have n5_ := Aside0.mk (ho); clear BK410; clear BK411; clear BK425; clear HO435; clear HB; clear HO_9; have BK410 := n0_; have BK411 := n1_; have BK425 := n2_; have HO435 := n3_; have HB := n4_; have HO438 := n5_; clear n0_ n1_ n2_ n3_ n4_ n5_; clear ho hb hg hat))
                   go_roundg k3
                   case measure => have := HJ2.out; have := HK2.out; have := HK3.out; omega
                   case rel => exact ⟨(y436), (y433), ((x11_3 + 1) % 4294967296), (by first | rfl | (simp; done) | (simp [*]; done)), H', ⟨by have := HJ2.out; have := HK2.out; have := HK3.out; omega⟩, ⟨by (with_reducible repeat (first | apply Kd.R_alloc | apply Kd.R_drewN | apply Kd.R_drew)); exact HO438.out⟩, ⟨by (with_reducible repeat (first | apply Kd.R_alloc | apply Kd.R_drewN | apply Kd.R_drew)); exact Kd.R_mono HO435.out (fun _ hk => trivial)⟩, ⟨by (with_reducible repeat (first | refine blk_drewN ?_ _ | refine blk_drew ?_ | refine blk_alloc ?_ _)); exact BK410.out⟩, ⟨by (with_reducible repeat (first | refine blk_drewN ?_ _ | refine blk_drew ?_ | refine blk_alloc ?_ _)); exact BK411.out⟩, ⟨by repeat (first | (with_reducible first | exact HB.out | apply below_alloc | apply pw_below_drewN | apply below_drew1 | refine below_set ?_ GE410.out | refine below_set ?_ GE411.out | refine below_set ?_ GE425.out) | exact HB.out)⟩⟩
                  ·
                   rw [if_neg c63] at H
                   exact absurd H (by simp)
                 ·
                  rw [if_neg c62] at H
                  exact absurd H (by simp)
               ·
                rw [if_neg c43] at H
                exact absurd H (by simp)
              ·
               rw [if_neg c42] at H
               exact absurd H (by simp)
            ·
             rw [if_neg c37] at H
             have c37b0 : ((rd l1 x11_3) == 2) = false := beq_eq_false_iff_ne.mpr c37
             have c37b1 : ((rd l1 x11_3) != 2) = true := bne_iff_ne.mpr c37
             by_cases c76 : x9_3.length < 35184372088832
             ·
              rw [if_pos c76] at H
              have LMc76 := Aside0.mk c76
              clear c76
              obtain ⟨y418, hy418⟩ : ∃ y_ : List Int, y_ = (x9_3 ++ [(rd l1 x11_3) % 4294967296]) := ⟨_, rfl⟩
              replace H : (inquestref24_With.l1 k3 l1 ((wrap64 ((wrap64 (1 + a0_0)) + (l0_1.length : Int))) % 4294967296) y418 x10_3 ((x11_3 + 1) % 4294967296) a0_0 l0_1 l0_2 l0_3 l0_4 l0_5) = some (r1, r2, r3, r4, r5, r6, r7, r8) := by first | (rw [hy418]; with_reducible exact H) | (have H2_ := (Option.bind_some _ _).symm.trans H; rw [hy418]; with_reducible exact H2_) | (have H2_ := (Option.bind_some _ _).symm.trans H; with_reducible exact H2_) | with_reducible exact H | (rw [hy418]; exact H) | exact H
              have Ny418 := Aside0.mk hy418
              clear hy418
              have H' := Aside0.mk H
              clear H
              have p416 : 0 ≤ (x11_3 : Int) := of_decide_eq_true (by first | (with_reducible assumption) | assumption)
              have q416 : x11_3 < (l1.length : Int) := of_decide_eq_true (by first | (with_reducible assumption) | assumption)
              obtain ⟨ad416, e416, hx416_0⟩ := Kd.at_int HR1.out x11_3 p416 q416
              cases e416
              replace hx416_0 := (HB.out.cell (World.block_lt_of_cell? w _ hx416_0)).trans hx416_0
              replace p416 := eq_true p416
              replace q416 := eq_true q416
              have p417 : 0 ≤ (x11_3 : Int) := of_decide_eq_true (by first | (with_reducible assumption) | assumption)
              have q417 : x11_3 < (l1.length : Int) := of_decide_eq_true (by first | (with_reducible assumption) | assumption)
              obtain ⟨ad417, e417, hx417_0⟩ := Kd.at_int HR1.out x11_3 p417 q417
              obtain rfl : ad416 = ad417 := (by injection e417)
              replace hx417_0 := (HB.out.cell (World.block_lt_of_cell? w _ hx417_0)).trans hx417_0
              replace p417 := eq_true p417
              replace q417 := eq_true q417
              go_wp2_with (first | ((with_reducible refine gate_builtin (b := .append) (xs := #[.tmp 69, .tmp 75]) rfl ?_); (try (refine gate_guard (by rfl) ?_; dsimp only)); at_builtin; refine Kd.R_append (Kd.int .u32) (w0 := w) w.heap.size rfl (.tmp 69) (.tmp 75) 24 39 (.int .u32 0) 4 rfl Try.underlying24 info39 rfl (by decide) (by omega) u9 x9_3 ((rd l1 x11_3) % 4294967296) [.int .u32 ((rd l1 x11_3) % 4294967296)] (fun _ => True) (fun _ => False) rfl rfl ?aP (fun _ hk => hk.elim) ?aF ?aO ?aB ?aS ?aL ?_; (case aP => exact rfl); (case aB => exact (by repeat (first | (with_reducible first | exact HB.out | apply below_alloc | apply pw_below_drewN | apply below_drew1 | refine below_set ?_ GE410.out | refine below_set ?_ GE411.out) | exact HB.out))); (case aF => exact (fun _ _ => trivial)); (case aO => exact (by (with_reducible repeat (first | apply Kd.R_alloc | apply Kd.R_drewN | apply Kd.R_drew)); exact HO_9.out)); (case aS => exact (below_size (by repeat (first | (with_reducible first | exact HB.out | apply below_alloc | apply pw_below_drewN | apply below_drew1 | refine below_set ?_ GE410.out | refine below_set ?_ GE411.out) | exact HB.out)))); (case aL => have := LMc76.out; omega); intro v419 w77 ho hb hg hat; rw [← Ny418.out] at ho; have n0_ := Aside0.mk (Kd.R_over' (by (with_reducible repeat (first | apply Kd.R_alloc | apply Kd.R_drewN | apply Kd.R_drew)); exact HO_10.out) (Kd.R_typed (by (with_reducible repeat (first | apply Kd.R_alloc | apply Kd.R_drewN | apply Kd.R_drew)); exact HO_9.out)) (by decide) hg); have n1_ := Aside0.mk (blk_grown (g := gb410) (o := .cells #[.int .i64 a0_0, .slice A0_1 l0_1.length c0_1, .slice A0_2 l0_2.length c0_2, .slice A0_3 l0_3.length c0_3, .slice A0_4 l0_4.length c0_4, .slice A0_5 l0_5.length c0_5] 26 (0, 0)) (by (with_reducible repeat (first | refine blk_drewN ?_ _ | refine blk_drew ?_ | refine blk_alloc ?_ _)); exact BK410.out) hg (Kd.R_ne HO_9.out BK410.out (by decide))); have n2_ := Aside0.mk (blk_grown (g := gb411) (o := .cells #[.int .i64 x412000_2, .slice none 0 0, .slice none 0 0, .slice none 0 0, .slice none 0 0, .slice none 0 0] 26 (0, 0)) (by (with_reducible repeat (first | refine blk_drewN ?_ _ | refine blk_drew ?_ | refine blk_alloc ?_ _)); exact BK411.out) hg (Kd.R_ne HO_9.out BK411.out (by decide))); have n3_ := Aside0.mk (hb); have n4_ := Aside0.mk (ho); clear HO_10; clear BK410; clear BK411; clear HB; clear HO_9; have HO_10 := n0_; have BK410 := n1_; have BK411 := n2_; have HB := n3_; have HO420 := n4_; clear n0_ n1_ n2_ n3_ n4_; clear ho hb hg hat))
              go_roundg k3
              case measure => have := HJ2.out; have := HK2.out; have := HK3.out; omega
              case rel => exact ⟨(y418), (x10_3), ((x11_3 + 1) % 4294967296), (by first | rfl | (simp; done) | (simp [*]; done)), H', ⟨by have := HJ2.out; have := HK2.out; have := HK3.out; omega⟩, ⟨by (with_reducible repeat (first | apply Kd.R_alloc | apply Kd.R_drewN | apply Kd.R_drew)); exact HO420.out⟩, ⟨by (with_reducible repeat (first | apply Kd.R_alloc | apply Kd.R_drewN | apply Kd.R_drew)); exact HO_10.out⟩, ⟨by (with_reducible repeat (first | refine blk_drewN ?_ _ | refine blk_drew ?_ | refine blk_alloc ?_ _)); exact BK410.out⟩, ⟨by (with_reducible repeat (first | refine blk_drewN ?_ _ | refine blk_drew ?_ | refine blk_alloc ?_ _)); exact BK411.out⟩, ⟨by repeat (first | (with_reducible first | exact HB.out | apply below_alloc | apply pw_below_drewN | apply below_drew1 | refine below_set ?_ GE410.out | refine below_set ?_ GE411.out) | exact HB.out)⟩⟩
             ·
              rw [if_neg c76] at H
              exact absurd H (by simp)
           ·
            rw [if_neg c36] at H
            exact absurd H (by simp)
          ·
           rw [if_neg c35] at H
           exact absurd H (by simp)
         ·
          rw [if_neg c34] at H
          have c34b0 : decide ((wrap64 (x11_3)) < (l1.length : Int)) = false := decide_eq_false c34
          clear c34
          have H' := Aside0.mk H
          clear H
          have hnb78 := NB410_411.out
          have hnc78 := NB411_410.out
          have hcz79_0 : wr.cell? ⟨gb410, 0, none⟩ = some (.int .i64 a0_0) := (blk_cell BK410.out 0).trans rfl
          have hcz79_1 : wr.cell? ⟨gb410, 1, none⟩ = some (.slice A0_1 l0_1.length c0_1) := (blk_cell BK410.out 1).trans rfl
          have hcz79_2 : wr.cell? ⟨gb410, 2, none⟩ = some (.slice A0_2 l0_2.length c0_2) := (blk_cell BK410.out 2).trans rfl
          have hcz79_3 : wr.cell? ⟨gb410, 3, none⟩ = some (.slice A0_3 l0_3.length c0_3) := (blk_cell BK410.out 3).trans rfl
          have hcz79_4 : wr.cell? ⟨gb410, 4, none⟩ = some (.slice A0_4 l0_4.length c0_4) := (blk_cell BK410.out 4).trans rfl
          have hcz79_5 : wr.cell? ⟨gb410, 5, none⟩ = some (.slice A0_5 l0_5.length c0_5) := (blk_cell BK410.out 5).trans rfl
          have hfz79_0 := blk_frozen BK410.out 0
          have hfz79_1 := blk_frozen BK410.out 1
          have hfz79_2 := blk_frozen BK410.out 2
          have hfz79_3 := blk_frozen BK410.out 3
          have hfz79_4 := blk_frozen BK410.out 4
          have hfz79_5 := blk_frozen BK410.out 5
          obtain ⟨Ao80, co80, eo80⟩ := Kd.R_slice HO_10.out
          subst eo80
          go_wp2_with (first | ((with_reducible refine gate_dst (N := 17) rfl ?_); (try (refine gate_guard (by rfl) ?_; dsimp only)); refine box_event ?hg (N := 17) ?hd (cs := #[.int .i64 0, .slice none 0 0, .slice none 0 0, .slice none 0 0, .slice none 0 0, .slice none 0 0]) (t := 26) ?hr ?_; (case hd => rfl); (case hg => rfl); (case hr => first | (go_simp; done) | (go_simp; rfl)); intro gb439 hg w81 hbox hb; have n0_ := Aside0.mk (Kd.R_below (by (with_reducible repeat (first | apply Kd.R_alloc | apply Kd.R_drewN | apply Kd.R_drew)); exact HO_9.out) hb); have n1_ := Aside0.mk (Kd.R_below (by (with_reducible repeat (first | apply Kd.R_alloc | apply Kd.R_drewN | apply Kd.R_drew)); exact HO_10.out) hb); have n2_ := Aside0.mk (blk_below (g := gb410) (o := .cells #[.int .i64 a0_0, .slice A0_1 l0_1.length c0_1, .slice A0_2 l0_2.length c0_2, .slice A0_3 l0_3.length c0_3, .slice A0_4 l0_4.length c0_4, .slice A0_5 l0_5.length c0_5] 26 (0, 0)) (by (with_reducible repeat (first | refine blk_drewN ?_ _ | refine blk_drew ?_ | refine blk_alloc ?_ _)); exact BK410.out) hb); have n3_ := Aside0.mk (blk_below (g := gb411) (o := .cells #[.int .i64 x412000_2, .slice none 0 0, .slice none 0 0, .slice none 0 0, .slice none 0 0, .slice none 0 0] 26 (0, 0)) (by (with_reducible repeat (first | refine blk_drewN ?_ _ | refine blk_drew ?_ | refine blk_alloc ?_ _)); exact BK411.out) hb); have n4_ := Aside0.mk (below_step (by repeat (first | (with_reducible first | exact HB.out | apply below_alloc | apply pw_below_drewN | apply below_drew1 | refine below_set ?_ GE410.out | refine below_set ?_ GE411.out) | exact HB.out)) hb); have n5_ := Aside0.mk (hbox); have n6_ := Aside0.mk ((by rw [hg]; exact (below_size (by repeat (first | (with_reducible first | exact HB.out | apply below_alloc | apply pw_below_drewN | apply below_drew1 | refine below_set ?_ GE410.out | refine below_set ?_ GE411.out) | exact HB.out))) : w.heap.size ≤ gb439)); have n7_ := Aside0.mk ((by rw [hg]; exact (below_size (by repeat (first | (with_reducible first | exact HB.out | apply below_alloc | apply pw_below_drewN | apply below_drew1 | refine below_set ?_ GE410.out | refine below_set ?_ GE411.out) | exact HB.out))) : w.heap.size ≤ gb439)); have n8_ := Aside0.mk ((by rw [hg]; exact Nat.ne_of_lt (blk_lt (g := gb410) (o := .cells #[.int .i64 a0_0, .slice A0_1 l0_1.length c0_1, .slice A0_2 l0_2.length c0_2, .slice A0_3 l0_3.length c0_3, .slice A0_4 l0_4.length c0_4, .slice A0_5 l0_5.length c0_5] 26 (0, 0)) (by (with_reducible repeat (first | refine blk_drewN ?_ _ | refine blk_drew ?_ | refine blk_alloc ?_ _)); exact BK410.out)) : gb410 ≠ gb439)); have n9_ := Aside0.mk ((by rw [hg]; exact Nat.ne_of_gt (blk_lt (g := gb410) (o := .cells #[.int .i64 a0_0, .slice A0_1 l0_1.length c0_1, .slice A0_2 l0_2.length c0_2, .slice A0_3 l0_3.length c0_3, .slice A0_4 l0_4.length c0_4, .slice A0_5 l0_5.length c0_5] 26 (0, 0)) (by (with_reducible repeat (first | refine blk_drewN ?_ _ | refine blk_drew ?_ | refine blk_alloc ?_ _)); exact BK410.out)) : gb439 ≠ gb410)); have n10_ := Aside0.mk ((by rw [hg]; exact Nat.ne_of_lt (blk_lt (g := gb411) (o := .cells #[.int .i64 x412000_2, .slice none 0 0, .slice none 0 0, .slice none 0 0, .slice none 0 0, .slice none 0 0] 26 (0, 0)) (by (with_reducible repeat (first | refine blk_drewN ?_ _ | refine blk_drew ?_ | refine blk_alloc ?_ _)); exact BK411.out)) : gb411 ≠ gb439)); have n11_ := Aside0.mk ((by rw [hg]; exact Nat.ne_of_gt (blk_lt (g := gb411) (o := .cells #[.int .i64 x412000_2, .slice none 0 0, .slice none 0 0, .slice none 0 0, .slice none 0 0, .slice none 0 0] 26 (0, 0)) (by (with_reducible repeat (first | refine blk_drewN ?_ _ | refine blk_drew ?_ | refine blk_alloc ?_ _)); exact BK411.out)) : gb439 ≠ gb411)); clear HO_9; clear HO_10; clear BK410; clear BK411; clear HB; have HO_9 := n0_; have HO_10 := n1_; have BK410 := n2_; have BK411 := n3_; have HB := n4_; have BK439 := n5_; have GW439 := n6_; have GE439 := n7_; have NB410_439 := n8_; have NB439_410 := n9_; have NB411_439 := n10_; have NB439_411 := n11_; clear n0_ n1_ n2_ n3_ n4_ n5_ n6_ n7_ n8_ n9_ n10_ n11_; clear hb hbox hg; have hnb82 := NB439_410.out; have hnc82 := NB410_439.out; have hnb83 := NB439_411.out; have hnc83 := NB411_439.out; have hcz84_0 : w81.cell? ⟨gb439, 0, none⟩ = some (.int .i64 0) := (blk_cell BK439.out 0).trans rfl; have hcz84_1 : w81.cell? ⟨gb439, 1, none⟩ = some (.slice none 0 0) := (blk_cell BK439.out 1).trans rfl; have hcz84_2 : w81.cell? ⟨gb439, 2, none⟩ = some (.slice none 0 0) := (blk_cell BK439.out 2).trans rfl; have hcz84_3 : w81.cell? ⟨gb439, 3, none⟩ = some (.slice none 0 0) := (blk_cell BK439.out 3).trans rfl; have hcz84_4 : w81.cell? ⟨gb439, 4, none⟩ = some (.slice none 0 0) := (blk_cell BK439.out 4).trans rfl; have hcz84_5 : w81.cell? ⟨gb439, 5, none⟩ = some (.slice none 0 0) := (blk_cell BK439.out 5).trans rfl; have hfz84_0 := blk_frozen BK439.out 0; have hfz84_1 := blk_frozen BK439.out 1; have hfz84_2 := blk_frozen BK439.out 2; have hfz84_3 := blk_frozen BK439.out 3; have hfz84_4 := blk_frozen BK439.out 4; have hfz84_5 := blk_frozen BK439.out 5))
          go_loopg [18] k3 (fun kq v18 w' => ∃ (x18_4 : Int) (x440001_4 : List (S41)) (u440001 : Value), v18 = .int .i64 x18_4 ∧ Aside0 (inquestref24_With.l2 kq x9_3 x18_4 a0_0 l0_1 l0_2 l0_3 l0_4 l0_5 a0_0 x440001_4 x10_3 = some (r1, r2, r3, r4, r5, r6, r7, r8)) ∧ Aside0 (kq ≤ k3) ∧ Aside0 (Kd.R (Kd.int .u32) 39 w' w.heap.size (fun _ => True) u9 x9_3) ∧ Aside0 (Kd.R k41 41 w' w.heap.size (fun _ => True) u440001 x440001_4) ∧ Aside0 (Kd.R k68 68 w' w.heap.size (fun _ => True) (.slice Ao80 x10_3.length co80) x10_3) ∧ Aside0 (w'.heap[gb410]? = some (.cells #[.int .i64 a0_0, (.slice A0_1 l0_1.length c0_1), (.slice A0_2 l0_2.length c0_2), (.slice A0_3 l0_3.length c0_3), (.slice A0_4 l0_4.length c0_4), (.slice A0_5 l0_5.length c0_5)] 26 (0, 0))) ∧ Aside0 (w'.heap[gb411]? = some (.cells #[.int .i64 x412000_2, (.slice none 0 0), (.slice none 0 0), (.slice none 0 0), (.slice none 0 0), (.slice none 0 0)] 26 (0, 0))) ∧ Aside0 (w'.heap[gb439]? = some (.cells #[.int .i64 a0_0, u440001, (.slice Ao80 x10_3.length co80), (.slice none 0 0), (.slice none 0 0), (.slice none 0 0)] 26 (0, 0))) ∧ Aside0 (Below w.heap.size w w'))
          case atStart => exact ⟨(0), (([] : List (S41))), (.slice none 0 0), (by first | rfl | (simp; done) | (simp [*]; done)), H', ⟨Nat.le_refl _⟩, ⟨by (with_reducible repeat (first | apply Kd.R_alloc | apply Kd.R_drewN | apply Kd.R_drew)); exact Kd.R_mono (Kd.R_far (p := ⟨gb439, 5, none⟩) (Kd.R_far (p := ⟨gb439, 4, none⟩) (Kd.R_far (p := ⟨gb439, 3, none⟩) (Kd.R_far (p := ⟨gb439, 2, none⟩) (Kd.R_far (p := ⟨gb439, 1, none⟩) (Kd.R_far (p := ⟨gb439, 0, none⟩) (Kd.R_types HO_9.out BK439.out (by decide)) (fun _ hk => hk.2) (.int .i64 a0_0)) (fun _ hk => hk.2) (.slice none 0 0)) (fun _ hk => hk.2) (.slice Ao80 x10_3.length co80)) (fun _ hk => hk.2) (.slice none 0 0)) (fun _ hk => hk.2) (.slice none 0 0)) (fun _ hk => hk.2) (.slice none 0 0)) (fun _ hk => trivial)⟩, ⟨by first | exact Kd.R_nil _ _ _ _ _ | exact Kd.N_nil _ _ _ _ _ | exact Kd.V_nil _ _ _ _ _ | exact Kd.Q_nil _ _ _ _ _ | exact Kd.S_nil _ _ _ _ _⟩, ⟨by (with_reducible repeat (first | apply Kd.R_alloc | apply Kd.R_drewN | apply Kd.R_drew)); exact Kd.R_mono (Kd.R_far (p := ⟨gb439, 5, none⟩) (Kd.R_far (p := ⟨gb439, 4, none⟩) (Kd.R_far (p := ⟨gb439, 3, none⟩) (Kd.R_far (p := ⟨gb439, 2, none⟩) (Kd.R_far (p := ⟨gb439, 1, none⟩) (Kd.R_far (p := ⟨gb439, 0, none⟩) (Kd.R_types HO_10.out BK439.out (by decide)) (fun _ hk => hk.2) (.int .i64 a0_0)) (fun _ hk => hk.2) (.slice none 0 0)) (fun _ hk => hk.2) (.slice Ao80 x10_3.length co80)) (fun _ hk => hk.2) (.slice none 0 0)) (fun _ hk => hk.2) (.slice none 0 0)) (fun _ hk => hk.2) (.slice none 0 0)) (fun _ hk => trivial)⟩, ⟨by (with_reducible repeat (first | refine blk_drewN ?_ _ | refine blk_drew ?_ | refine blk_alloc ?_ _)); refine blk_far ?_ NB410_439.out _; (with_reducible repeat (first | refine blk_drewN ?_ _ | refine blk_drew ?_ | refine blk_alloc ?_ _)); refine blk_far ?_ NB410_439.out _; (with_reducible repeat (first | refine blk_drewN ?_ _ | refine blk_drew ?_ | refine blk_alloc ?_ _)); refine blk_far ?_ NB410_439.out _; (with_reducible repeat (first | refine blk_drewN ?_ _ | refine blk_drew ?_ | refine blk_alloc ?_ _)); refine blk_far ?_ NB410_439.out _; (with_reducible repeat (first | refine blk_drewN ?_ _ | refine blk_drew ?_ | refine blk_alloc ?_ _)); refine blk_far ?_ NB410_439.out _; (with_reducible repeat (first | refine blk_drewN ?_ _ | refine blk_drew ?_ | refine blk_alloc ?_ _)); refine blk_far ?_ NB410_439.out _; (with_reducible repeat (first | refine blk_drewN ?_ _ | refine blk_drew ?_ | refine blk_alloc ?_ _)); exact BK410.out⟩, ⟨by (with_reducible repeat (first | refine blk_drewN ?_ _ | refine blk_drew ?_ | refine blk_alloc ?_ _)); refine blk_far ?_ NB411_439.out _; (with_reducible repeat (first | refine blk_drewN ?_ _ | refine blk_drew ?_ | refine blk_alloc ?_ _)); refine blk_far ?_ NB411_439.out _; (with_reducible repeat (first | refine blk_drewN ?_ _ | refine blk_drew ?_ | refine blk_alloc ?_ _)); refine blk_far ?_ NB411_439.out _; (with_reducible repeat (first | refine blk_drewN ?_ _ | refine blk_drew ?_ | refine blk_alloc ?_ _)); refine blk_far ?_ NB411_439.out _; (with_reducible repeat (first | refine blk_drewN ?_ _ | refine blk_drew ?_ | refine blk_alloc ?_ _)); refine blk_far ?_ NB411_439.out _; (with_reducible repeat (first | refine blk_drewN ?_ _ | refine blk_drew ?_ | refine blk_alloc ?_ _)); refine blk_far ?_ NB411_439.out _; (with_reducible repeat (first | refine blk_drewN ?_ _ | refine blk_drew ?_ | refine blk_alloc ?_ _)); exact BK411.out⟩, ⟨by (with_reducible repeat (first | refine blk_drewN ?_ _ | refine blk_drew ?_ | refine blk_alloc ?_ _)); refine blk_put (cs := #[.int .i64 a0_0, .slice none 0 0, .slice Ao80 x10_3.length co80, .slice none 0 0, .slice none 0 0, .slice none 0 0]) ?_ 5 _ rfl; (with_reducible repeat (first | refine blk_drewN ?_ _ | refine blk_drew ?_ | refine blk_alloc ?_ _)); refine blk_put (cs := #[.int .i64 a0_0, .slice none 0 0, .slice Ao80 x10_3.length co80, .slice none 0 0, .slice none 0 0, .slice none 0 0]) ?_ 4 _ rfl; (with_reducible repeat (first | refine blk_drewN ?_ _ | refine blk_drew ?_ | refine blk_alloc ?_ _)); refine blk_put (cs := #[.int .i64 a0_0, .slice none 0 0, .slice Ao80 x10_3.length co80, .slice none 0 0, .slice none 0 0, .slice none 0 0]) ?_ 3 _ rfl; (with_reducible repeat (first | refine blk_drewN ?_ _ | refine blk_drew ?_ | refine blk_alloc ?_ _)); refine blk_put (cs := #[.int .i64 a0_0, .slice none 0 0, .slice none 0 0, .slice none 0 0, .slice none 0 0, .slice none 0 0]) ?_ 2 _ rfl; (with_reducible repeat (first | refine blk_drewN ?_ _ | refine blk_drew ?_ | refine blk_alloc ?_ _)); refine blk_put (cs := #[.int .i64 a0_0, .slice none 0 0, .slice none 0 0, .slice none 0 0, .slice none 0 0, .slice none 0 0]) ?_ 1 _ rfl; (with_reducible repeat (first | refine blk_drewN ?_ _ | refine blk_drew ?_ | refine blk_alloc ?_ _)); refine blk_put (cs := #[.int .i64 0, .slice none 0 0, .slice none 0 0, .slice none 0 0, .slice none 0 0, .slice none 0 0]) ?_ 0 _ rfl; (with_reducible repeat (first | refine blk_drewN ?_ _ | refine blk_drew ?_ | refine blk_alloc ?_ _)); exact BK439.out⟩, ⟨by repeat (first | (with_reducible first | exact HB.out | apply below_alloc | apply pw_below_drewN | apply below_drew1 | refine below_set ?_ GE410.out | refine below_set ?_ GE411.out | refine below_set ?_ GE439.out) | exact HB.out)⟩⟩
          case round =>
           clear H'
           try clear c1
           try clear p2
           try clear c3
           try clear c4
           try clear p4
           try clear q4
           try clear hx4
           try clear c5
           try clear c6
           try clear p6
           try clear c7
           try clear c8
           try clear c10
           try clear c34
           try clear c34b0
           try clear c35
           try clear c35b0
           try clear c36
           try clear c36b0
           try clear c37
           try clear c37b0
           try clear c37b1
           try clear c38
           try clear c38b0
           try clear c39
           try clear p41
           try clear q41
           try clear hx41
           try clear c42
           try clear c42b0
           try clear p42
           try clear q42
           try clear hx42
           try clear c43
           try clear c43b0
           try clear c46
           try clear c47
           try clear c48
           try clear c49
           try clear c52
           try clear c53
           try clear c62
           try clear c63
           try clear c64
           try clear p64
           try clear c67
           try clear c68
           try clear c76
           try clear c78
           try clear c82
           try clear c83
           try clear hcz50_0
           try clear hcz50_1
           try clear hcz50_2
           try clear hcz50_3
           try clear hcz50_4
           try clear hcz50_5
           try clear hcz54_0
           try clear hcz54_1
           try clear hcz65_0
           try clear hcz65_1
           try clear hcz65_2
           try clear hcz65_3
           try clear hcz65_4
           try clear hcz65_5
           try clear hcz69_0
           try clear hcz69_1
           try clear hcz79_0
           try clear hcz79_1
           try clear hcz79_2
           try clear hcz79_3
           try clear hcz79_4
           try clear hcz79_5
           try clear hcz84_0
           try clear hcz84_1
           try clear hcz84_2
           try clear hcz84_3
           try clear hcz84_4
           try clear hcz84_5
           try clear hfz14_0
           try clear hfz14_1
           try clear hfz14_2
           try clear hfz14_3
           try clear hfz14_4
           try clear hfz14_5
           try clear hfz17_0
           try clear hfz17_1
           try clear hfz17_2
           try clear hfz17_3
           try clear hfz17_4
           try clear hfz17_5
           try clear hfz19_0
           try clear hfz19_1
           try clear hfz19_2
           try clear hfz19_3
           try clear hfz19_4
           try clear hfz19_5
           try clear hfz22_0
           try clear hfz22_1
           try clear hfz22_2
           try clear hfz22_3
           try clear hfz22_4
           try clear hfz22_5
           try clear hfz26_0
           try clear hfz26_1
           try clear hfz26_2
           try clear hfz26_3
           try clear hfz26_4
           try clear hfz26_5
           try clear hfz31_0
           try clear hfz31_1
           try clear hfz31_2
           try clear hfz31_3
           try clear hfz31_4
           try clear hfz31_5
           try clear hfz33_0
           try clear hfz33_1
           try clear hfz33_2
           try clear hfz33_3
           try clear hfz33_4
           try clear hfz33_5
           try clear hfz50_0
           try clear hfz50_1
           try clear hfz50_2
           try clear hfz50_3
           try clear hfz50_4
           try clear hfz50_5
           try clear hfz54_0
           try clear hfz54_1
           try clear hfz65_0
           try clear hfz65_1
           try clear hfz65_2
           try clear hfz65_3
           try clear hfz65_4
           try clear hfz65_5
           try clear hfz69_0
           try clear hfz69_1
           try clear hfz79_0
           try clear hfz79_1
           try clear hfz79_2
           try clear hfz79_3
           try clear hfz79_4
           try clear hfz79_5
           try clear hfz84_0
           try clear hfz84_1
           try clear hfz84_2
           try clear hfz84_3
           try clear hfz84_4
           try clear hfz84_5
           try clear hx414_0
           try clear hx415_0
           try clear hx416_0
           try clear hx417_0
           try clear hx424_0
           try clear hx424_1
           try clear p2
           try clear p4
           try clear p414
           try clear p415
           try clear p416
           try clear p417
           try clear p424
           try clear p6
           try clear q4
           try clear q414
           try clear q415
           try clear q416
           try clear q417
           try clear q424
           obtain ⟨x18_4, x440001_4, u440001, rfl, HA, HK4, HO_9, HO_440001, HO_440002, BK410, BK411, BK439, HB⟩ := hrel
           cases gk with
           | zero => exact absurd HA.out (by simp [inquestref24_With.l2])
           | succ k4 =>
            have H := HA.out
            clear HA
            simp only [inquestref24_With.l2] at H
            by_cases c85 : x18_4 < (l0_1.length : Int)
            ·
             rw [if_pos c85] at H
             have c85b0 : decide (x18_4 < (l0_1.length : Int)) = true := decide_eq_true c85
             clear c85
             by_cases c86 : 0 ≤ x18_4
             ·
              rw [if_pos c86] at H
              have c86b0 : decide (0 ≤ x18_4) = true := decide_eq_true c86
              clear c86
              replace H := Option.bind_eq_some_iff.mp H
              obtain ⟨t441, A870, H⟩ := H
              replace H : (if x440001_4.length < 17592186044416 then (inquestref24_With.l2 k4 x9_3 (wrap64 (x18_4 + 1)) a0_0 l0_1 l0_2 l0_3 l0_4 l0_5 a0_0 (x440001_4 ++ [(⟨t441, (rd_T41 l0_1 x18_4).f1⟩ : S41)]) x10_3) else (none)) = some (r1, r2, r3, r4, r5, r6, r7, r8) := H
              have A87 := Aside0.mk A870
              clear A870
              by_cases c88 : x440001_4.length < 17592186044416
              ·
               rw [if_pos c88] at H
               have LMc88 := Aside0.mk c88
               clear c88
               obtain ⟨y443, hy443⟩ : ∃ y_ : List (S41), y_ = (x440001_4 ++ [(⟨t441, (rd_T41 l0_1 x18_4).f1⟩ : S41)]) := ⟨_, rfl⟩
               replace H : (inquestref24_With.l2 k4 x9_3 (wrap64 (x18_4 + 1)) a0_0 l0_1 l0_2 l0_3 l0_4 l0_5 a0_0 y443 x10_3) = some (r1, r2, r3, r4, r5, r6, r7, r8) := by first | (rw [hy443]; with_reducible exact H) | (have H2_ := (Option.bind_some _ _).symm.trans H; rw [hy443]; with_reducible exact H2_) | (have H2_ := (Option.bind_some _ _).symm.trans H; with_reducible exact H2_) | with_reducible exact H | (rw [hy443]; exact H) | exact H
               have Ny443 := Aside0.mk hy443
               clear hy443
               have H' := Aside0.mk H
               clear H
               have hnb89 := NB410_411.out
               have hnc89 := NB411_410.out
               have hnb90 := NB410_439.out
               have hnc90 := NB439_410.out
               have hcz91_0 : wr.cell? ⟨gb410, 0, none⟩ = some (.int .i64 a0_0) := (blk_cell BK410.out 0).trans rfl
               have hcz91_1 : wr.cell? ⟨gb410, 1, none⟩ = some (.slice A0_1 l0_1.length c0_1) := (blk_cell BK410.out 1).trans rfl
               have hcz91_2 : wr.cell? ⟨gb410, 2, none⟩ = some (.slice A0_2 l0_2.length c0_2) := (blk_cell BK410.out 2).trans rfl
               have hcz91_3 : wr.cell? ⟨gb410, 3, none⟩ = some (.slice A0_3 l0_3.length c0_3) := (blk_cell BK410.out 3).trans rfl
               have hcz91_4 : wr.cell? ⟨gb410, 4, none⟩ = some (.slice A0_4 l0_4.length c0_4) := (blk_cell BK410.out 4).trans rfl
               have hcz91_5 : wr.cell? ⟨gb410, 5, none⟩ = some (.slice A0_5 l0_5.length c0_5) := (blk_cell BK410.out 5).trans rfl
               have hfz91_0 := blk_frozen BK410.out 0
               have hfz91_1 := blk_frozen BK410.out 1
               have hfz91_2 := blk_frozen BK410.out 2
               have hfz91_3 := blk_frozen BK410.out 3
               have hfz91_4 := blk_frozen BK410.out 4
               have hfz91_5 := blk_frozen BK410.out 5
               try go_wp2
               have n0_ := Aside0.mk (Kd.R_drew HO_9.out)
               have n1_ := Aside0.mk (Kd.R_drew HO_440001.out)
               have n2_ := Aside0.mk (Kd.R_drew HO_440002.out)
               have n3_ := Aside0.mk (blk_drew BK410.out)
               have n4_ := Aside0.mk (blk_drew BK411.out)
               have n5_ := Aside0.mk (blk_drew BK439.out)
               have n6_ := Aside0.mk (below_drew1 HB.out)
               clear HO_9
               clear HO_440001
               clear HO_440002
               clear BK410
               clear BK411
               clear BK439
               clear HB
               have HO_9 := n0_
               have HO_440001 := n1_
               have HO_440002 := n2_
               have BK410 := n3_
               have BK411 := n4_
               have BK439 := n5_
               have HB := n6_
               clear n0_ n1_ n2_ n3_ n4_ n5_ n6_
               have p440 : 0 ≤ (x18_4 : Int) := of_decide_eq_true (by first | (with_reducible assumption) | assumption)
               have q440 : x18_4 < (l0_1.length : Int) := of_decide_eq_true (by first | (with_reducible assumption) | assumption)
               obtain ⟨ad440, e440, hx440_0, hx440_1⟩ := at_T41 HR0_1.out x18_4 p440 q440
               have hw440_1 := hx440_1
               have hw440_0 := hx440_0
               cases e440
               replace hx440_0 := (HB.out.cell (World.block_lt_of_cell? w _ hx440_0)).trans hx440_0
               replace hx440_1 := (HB.out.cell (World.block_lt_of_cell? w _ hx440_1)).trans hx440_1
               replace p440 := eq_true p440
               replace q440 := eq_true q440
               have p442 : 0 ≤ (x18_4 : Int) := of_decide_eq_true (by first | (with_reducible assumption) | assumption)
               have q442 : x18_4 < (l0_1.length : Int) := of_decide_eq_true (by first | (with_reducible assumption) | assumption)
               obtain ⟨ad442, e442, hx442_0, hx442_1⟩ := at_T41 HR0_1.out x18_4 p442 q442
               have hw442_1 := hx442_1
               have hw442_0 := hx442_0
               obtain rfl : ad440 = ad442 := (by injection e442)
               replace hx442_0 := (HB.out.cell (World.block_lt_of_cell? w _ hx442_0)).trans hx442_0
               replace hx442_1 := (HB.out.cell (World.block_lt_of_cell? w _ hx442_1)).trans hx442_1
               replace p442 := eq_true p442
               replace q442 := eq_true q442
               obtain ⟨Ao93, co93, eo93⟩ := Kd.R_slice HO_9.out
               (first | subst eo93 | (injection eo93 with f1_ f2_ f3_; have f4_ := f1_.symm; have f5_ := f3_.symm; clear f1_ f2_ f3_; subst f4_; subst f5_))
               refine start_ (n := 21) (S := fun w' => w'.cell? ⟨gb439, 0, none⟩ = some (.int .i64 a0_0) ∧ w'.cell? ⟨gb439, 1, none⟩ = some (u440001) ∧ w'.cell? ⟨gb439, 2, none⟩ = some (.slice Ao80 x10_3.length co80) ∧ w'.cell? ⟨gb439, 3, none⟩ = some (.slice none 0 0) ∧ w'.cell? ⟨gb439, 4, none⟩ = some (.slice none 0 0) ∧ w'.cell? ⟨gb439, 5, none⟩ = some (.slice none 0 0) ∧ w'.cell? ⟨gb410, 0, none⟩ = some (.int .i64 a0_0) ∧ w'.cell? ⟨gb410, 1, none⟩ = some (.slice (some ad440) l0_1.length c0_1) ∧ w'.cell? ⟨gb410, 2, none⟩ = some (.slice A0_2 l0_2.length c0_2) ∧ w'.cell? ⟨gb410, 3, none⟩ = some (.slice A0_3 l0_3.length c0_3) ∧ w'.cell? ⟨gb410, 4, none⟩ = some (.slice A0_4 l0_4.length c0_4) ∧ w'.cell? ⟨gb410, 5, none⟩ = some (.slice A0_5 l0_5.length c0_5) ∧ w'.cell? (ad440.add ((x18_4).toNat * 2)) = some (.int .u32 ((rd_T41 l0_1 x18_4).f0)) ∧ w'.cell? ⟨(ad440.add ((x18_4).toNat * 2)).block, (ad440.add ((x18_4).toNat * 2)).off + 1, none⟩ = some (.int .u8 ((rd_T41 l0_1 x18_4).f1)) ∧ w'.cell? (ad440.add ((x18_4).toNat * 2)) = some (.int .u32 ((rd_T41 l0_1 x18_4).f0)) ∧ w'.cell? ⟨(ad440.add ((x18_4).toNat * 2)).block, (ad440.add ((x18_4).toNat * 2)).off + 1, none⟩ = some (.int .u8 ((rd_T41 l0_1 x18_4).f1))) (ds := [20]) #[false, false, false, false, false, false, false, false, false, false, false, false, false, false, false, false, false, false, false, false, false] (by kernel_rfl) rfl rfl ⟨(blk_cell BK439.out 0).trans rfl, (blk_cell BK439.out 1).trans rfl, (blk_cell BK439.out 2).trans rfl, (blk_cell BK439.out 3).trans rfl, (blk_cell BK439.out 4).trans rfl, (blk_cell BK439.out 5).trans rfl, (blk_cell BK410.out 0).trans rfl, (blk_cell BK410.out 1).trans rfl, (blk_cell BK410.out 2).trans rfl, (blk_cell BK410.out 3).trans rfl, (blk_cell BK410.out 4).trans rfl, (blk_cell BK410.out 5).trans rfl, ((HB.out.cell (World.block_lt_of_cell? w _ hw440_0)).trans hw440_0), ((HB.out.cell (World.block_lt_of_cell? w _ hw440_1)).trans hw440_1), ((HB.out.cell (World.block_lt_of_cell? w _ hw442_0)).trans hw442_0), ((HB.out.cell (World.block_lt_of_cell? w _ hw442_1)).trans hw442_1)⟩ (fun hHeld => ?_); refine with_tabW inquestref24_With.tab29 inquestref24_With.bits29 (fun HT_ HW_ => ?_)
               generalize wr.drew = w92 at HO_9 HO_440001 HO_440002 BK410 BK411 BK439 HB hx440_0 hx440_1 hx442_0 hx442_1 hHeld ⊢
               refine pure_ (i := 0) (N := some 141) (v := ?_) (a' := ?_) #[true, false, false, false, false, false, false, false, false, false, false, false, false, false, false, false, false, false, false, false, false] rfl rfl (any_of HT_.out (by kernel_rfl)) (fun _ _ _ h => h) (Or.inl ⟨by rfl, ?_⟩) ?_ ?_
               rotate_left
               ·
                intro w'
                go_simp
                with_reducible rfl
               rotate_left
               ·
                simp only [Act.put, List.setIfInBounds_toArray, List.set_cons_zero, List.set_cons_succ, i64_w, i32_w]
                rfl
               refine pure_ (i := 2) (N := some 143) (v := ?_) (a' := ?_) #[true, false, true, false, false, false, false, false, false, false, false, false, false, false, false, false, false, false, false, false, false] rfl rfl (any_of HT_.out (by kernel_rfl)) (fun _ _ _ h => h) (Or.inl ⟨by rfl, ?_⟩) ?_ ?_
               rotate_left
               ·
                intro w'
                go_simp
                with_reducible rfl
               rotate_left
               ·
                simp only [Act.put, List.setIfInBounds_toArray, List.set_cons_zero, List.set_cons_succ, i64_w, i32_w]
                rfl
               refine pure_ (i := 3) (N := some 144) (v := ?_) (a' := ?_) #[true, false, true, true, false, false, false, false, false, false, false, false, false, false, false, false, false, false, false, false, false] rfl rfl (any_of HT_.out (by kernel_rfl)) (fun _ _ _ h => h) (Or.inl ⟨by rfl, ?_⟩) ?_ ?_
               rotate_left
               ·
                intro w'
                go_simp
                with_reducible rfl
               rotate_left
               ·
                simp only [Act.put, List.setIfInBounds_toArray, List.set_cons_zero, List.set_cons_succ, i64_w, i32_w]
                rfl
               refine pure_ (i := 5) (N := some 146) (v := ?_) (a' := ?_) #[true, false, true, true, false, true, false, false, false, false, false, false, false, false, false, false, false, false, false, false, false] rfl rfl (any_of HT_.out (by kernel_rfl)) (fun _ _ _ h => h) (Or.inl ⟨by rfl, ?_⟩) ?_ ?_
               rotate_left
               ·
                intro w'
                go_simp
                with_reducible rfl
               rotate_left
               ·
                simp only [Act.put, List.setIfInBounds_toArray, List.set_cons_zero, List.set_cons_succ, i64_w, i32_w]
                rfl
               refine pure_ (i := 10) (N := some 151) (v := ?_) (a' := ?_) #[true, false, true, true, false, true, false, false, false, false, true, false, false, false, false, false, false, false, false, false, false] rfl rfl (any_of HT_.out (by kernel_rfl)) (fun _ _ _ h => h) (Or.inl ⟨by rfl, ?_⟩) ?_ ?_
               rotate_left
               ·
                intro w'
                go_simp
                with_reducible rfl
               rotate_left
               ·
                simp only [Act.put, List.setIfInBounds_toArray, List.set_cons_zero, List.set_cons_succ, i64_w, i32_w]
                rfl
               refine pure_ (i := 12) (N := some 153) (v := ?_) (a' := ?_) #[true, false, true, true, false, true, false, false, false, false, true, false, true, false, false, false, false, false, false, false, false] rfl rfl (any_of HT_.out (by kernel_rfl)) (fun _ _ _ h => h) (Or.inl ⟨by rfl, ?_⟩) ?_ ?_
               rotate_left
               ·
                intro w'
                go_simp
                with_reducible rfl
               rotate_left
               ·
                simp only [Act.put, List.setIfInBounds_toArray, List.set_cons_zero, List.set_cons_succ, i64_w, i32_w]
                rfl
               refine take_ (i := 1) (N := some 142) (v := ?_) (a' := ?_) #[true, true, true, true, false, true, false, false, false, false, true, false, true, false, false, false, false, false, false, false, false] rfl rfl (take_ofW HT_.out HW_.out (by kernel_rfl)) (fun _ _ _ h => h) (Or.inl ⟨by rfl, ?_⟩) hHeld ?_ ?_
               rotate_left
               ·
                rintro w' ⟨s0, s1, s2, s3, s4, s5, s6, s7, s8, s9, s10, s11, s12, s13, s14, s15⟩
                go_simp
                with_reducible rfl
               rotate_left
               ·
                simp only [Act.put, List.setIfInBounds_toArray, List.set_cons_zero, List.set_cons_succ, i64_w, i32_w]
                rfl
               refine take_ (i := 4) (N := some 145) (v := ?_) (a' := ?_) #[true, true, true, true, true, true, false, false, false, false, true, false, true, false, false, false, false, false, false, false, false] rfl rfl (take_ofW HT_.out HW_.out (by kernel_rfl)) (fun _ _ _ h => h) (Or.inl ⟨by rfl, ?_⟩) hHeld ?_ ?_
               rotate_left
               ·
                rintro w' ⟨s0, s1, s2, s3, s4, s5, s6, s7, s8, s9, s10, s11, s12, s13, s14, s15⟩
                go_simp
                with_reducible rfl
               rotate_left
               ·
                simp only [Act.put, List.setIfInBounds_toArray, List.set_cons_zero, List.set_cons_succ, i64_w, i32_w]
                rfl
               refine pure_ (i := 6) (N := some 147) (v := ?_) (a' := ?_) #[true, true, true, true, true, true, true, false, false, false, true, false, true, false, false, false, false, false, false, false, false] rfl rfl (any_of HT_.out (by kernel_rfl)) (fun _ _ _ h => h) (Or.inl ⟨by rfl, ?_⟩) ?_ ?_
               rotate_left
               ·
                intro w'
                go_simp
                with_reducible rfl
               rotate_left
               ·
                simp only [Act.put, List.setIfInBounds_toArray, List.set_cons_zero, List.set_cons_succ, i64_w, i32_w]
                rfl
               refine pure_ (i := 7) (N := some 148) (v := ?_) (a' := ?_) #[true, true, true, true, true, true, true, true, false, false, true, false, true, false, false, false, false, false, false, false, false] rfl rfl (any_of HT_.out (by kernel_rfl)) (fun _ _ _ h => h) (Or.inl ⟨by rfl, ?_⟩) ?_ ?_
               rotate_left
               ·
                intro w'
                go_simp
                with_reducible rfl
               rotate_left
               ·
                simp only [Act.put, List.setIfInBounds_toArray, List.set_cons_zero, List.set_cons_succ, i64_w, i32_w]
                rfl
               refine take_ (i := 8) (N := some 149) (v := ?_) (a' := ?_) #[true, true, true, true, true, true, true, true, true, false, true, false, true, false, false, false, false, false, false, false, false] rfl rfl (take_ofW HT_.out HW_.out (by kernel_rfl)) (fun _ _ _ h => h) (Or.inl ⟨by rfl, ?_⟩) hHeld ?_ ?_
               rotate_left
               ·
                rintro w' ⟨s0, s1, s2, s3, s4, s5, s6, s7, s8, s9, s10, s11, s12, s13, s14, s15⟩
                go_simp
                with_reducible rfl
               rotate_left
               ·
                simp only [Act.put, List.setIfInBounds_toArray, List.set_cons_zero, List.set_cons_succ, i64_w, i32_w]
                rfl
               refine take_ (i := 11) (N := some 152) (v := ?_) (a' := ?_) #[true, true, true, true, true, true, true, true, true, false, true, true, true, false, false, false, false, false, false, false, false] rfl rfl (take_ofW HT_.out HW_.out (by kernel_rfl)) (fun _ _ _ h => h) (Or.inl ⟨by rfl, ?_⟩) hHeld ?_ ?_
               rotate_left
               ·
                rintro w' ⟨s0, s1, s2, s3, s4, s5, s6, s7, s8, s9, s10, s11, s12, s13, s14, s15⟩
                go_simp
                with_reducible rfl
               rotate_left
               ·
                simp only [Act.put, List.setIfInBounds_toArray, List.set_cons_zero, List.set_cons_succ, i64_w, i32_w]
                rfl
               refine pure_ (i := 13) (N := some 154) (v := ?_) (a' := ?_) #[true, true, true, true, true, true, true, true, true, false, true, true, true, true, false, false, false, false, false, false, false] rfl rfl (any_of HT_.out (by kernel_rfl)) (fun _ _ _ h => h) (Or.inl ⟨by rfl, ?_⟩) ?_ ?_
               rotate_left
               ·
                intro w'
                go_simp
                with_reducible rfl
               rotate_left
               ·
                simp only [Act.put, List.setIfInBounds_toArray, List.set_cons_zero, List.set_cons_succ, i64_w, i32_w]
                rfl
               refine pure_ (i := 14) (N := some 155) (v := ?_) (a' := ?_) #[true, true, true, true, true, true, true, true, true, false, true, true, true, true, true, false, false, false, false, false, false] rfl rfl (any_of HT_.out (by kernel_rfl)) (fun _ _ _ h => h) (Or.inl ⟨by rfl, ?_⟩) ?_ ?_
               rotate_left
               ·
                intro w'
                go_simp
                with_reducible rfl
               rotate_left
               ·
                simp only [Act.put, List.setIfInBounds_toArray, List.set_cons_zero, List.set_cons_succ, i64_w, i32_w]
                rfl
               refine take_ (i := 15) (N := some 156) (v := ?_) (a' := ?_) #[true, true, true, true, true, true, true, true, true, false, true, true, true, true, true, true, false, false, false, false, false] rfl rfl (take_ofW HT_.out HW_.out (by kernel_rfl)) (fun _ _ _ h => h) (Or.inl ⟨by rfl, ?_⟩) hHeld ?_ ?_
               rotate_left
               ·
                rintro w' ⟨s0, s1, s2, s3, s4, s5, s6, s7, s8, s9, s10, s11, s12, s13, s14, s15⟩
                go_simp
                with_reducible rfl
               rotate_left
               ·
                simp only [Act.put, List.setIfInBounds_toArray, List.set_cons_zero, List.set_cons_succ, i64_w, i32_w]
                rfl
               refine one_ (i := 9) (N := some 150) #[true, true, true, true, true, true, true, true, true, true, true, true, true, true, true, true, false, false, false, false, false] rfl rfl (one_of HT_.out (by kernel_rfl)) (by decide) (fun K hK => ?_)
               refine goes_ Try.func46 (by kernel_rfl) rfl #[.slice Ao93 x9_3.length co93, .int .u32 ((rd_T41 l0_1 x18_4).f0)] (by rfl) rfl rfl (by (try simp only [List.map_toArray, List.map_cons, List.map_nil]); first | done | rfl | (simp only [List.length_drop, List.length_take]; rfl)) ?_
               with_reducible refine (inquestref24_Lit.calls _ _ x9_3 ((rd_T41 l0_1 x18_4).f0) t441 _ ?side1 ?side2 A87.out).mono ?_
               (case side1 => repeat (first | exact (Kd.R_reads' HO_9.out).2.2 | (with_reducible refine Kd.C_alloc ?_ _) | (with_reducible refine Kd.C_drewN ?_ _) | (with_reducible refine Kd.C_drew ?_)))
               (case side2 => exact (Kd.R_reads' HO_9.out).2.1)
               rintro e w' ⟨rfl, ⟨nd, rfl⟩⟩
               refine ⟨_, rfl, ?_⟩
               refine hK.out _ _ ⟨(blk_cell BK439.out 0).trans rfl, (blk_cell BK439.out 1).trans rfl, (blk_cell BK439.out 2).trans rfl, (blk_cell BK439.out 3).trans rfl, (blk_cell BK439.out 4).trans rfl, (blk_cell BK439.out 5).trans rfl, (blk_cell BK410.out 0).trans rfl, (blk_cell BK410.out 1).trans rfl, (blk_cell BK410.out 2).trans rfl, (blk_cell BK410.out 3).trans rfl, (blk_cell BK410.out 4).trans rfl, (blk_cell BK410.out 5).trans rfl, ((HB.out.cell (World.block_lt_of_cell? w _ hw440_0)).trans hw440_0), ((HB.out.cell (World.block_lt_of_cell? w _ hw440_1)).trans hw440_1), ((HB.out.cell (World.block_lt_of_cell? w _ hw442_0)).trans hw442_0), ((HB.out.cell (World.block_lt_of_cell? w _ hw442_1)).trans hw442_1)⟩ (fun hHeld => ?_)
               clear hK K
               refine norm_ (a' := ?_) ?_ ?_
               rotate_left
               ·
                show Act.put _ (some 150) _ = _
                simp only [Act.put, List.setIfInBounds_toArray, List.set_cons_zero, List.set_cons_succ, i64_w, i32_w]
                rfl
               refine pure_ (i := 16) (N := some 157) (v := ?_) (a' := ?_) #[true, true, true, true, true, true, true, true, true, true, true, true, true, true, true, true, true, false, false, false, false] rfl rfl (any_of HT_.out (by kernel_rfl)) (fun _ _ _ h => h) (Or.inl ⟨by rfl, ?_⟩) ?_ ?_
               rotate_left
               ·
                intro w'
                go_simp
                with_reducible rfl
               rotate_left
               ·
                simp only [Act.put, List.setIfInBounds_toArray, List.set_cons_zero, List.set_cons_succ, i64_w, i32_w]
                rfl
               refine one_ (i := 17) (N := some 158) #[true, true, true, true, true, true, true, true, true, true, true, true, true, true, true, true, true, true, false, false, false] rfl rfl (one_of HT_.out (by kernel_rfl)) (by decide) (fun K hK => ?_)
               refine value_ (w1 := ?_) (v := ?_) (by rfl) rfl ?_ ?_
               rotate_left 2
               ·
                go_simp
                constructor
                · rfl
                · rfl
               refine hK.out _ _ ⟨(blk_cell (blk_alloc BK439.out _) 0).trans rfl, (blk_cell (blk_alloc BK439.out _) 1).trans rfl, (blk_cell (blk_alloc BK439.out _) 2).trans rfl, (blk_cell (blk_alloc BK439.out _) 3).trans rfl, (blk_cell (blk_alloc BK439.out _) 4).trans rfl, (blk_cell (blk_alloc BK439.out _) 5).trans rfl, (blk_cell (blk_alloc BK410.out _) 0).trans rfl, (blk_cell (blk_alloc BK410.out _) 1).trans rfl, (blk_cell (blk_alloc BK410.out _) 2).trans rfl, (blk_cell (blk_alloc BK410.out _) 3).trans rfl, (blk_cell (blk_alloc BK410.out _) 4).trans rfl, (blk_cell (blk_alloc BK410.out _) 5).trans rfl, (World.cell?_alloc_lt _ _ _ (World.block_lt_of_cell? _ _ (((HB.out.cell (World.block_lt_of_cell? w _ hw440_0)).trans hw440_0)))).trans (((HB.out.cell (World.block_lt_of_cell? w _ hw440_0)).trans hw440_0)), (World.cell?_alloc_lt _ _ _ (World.block_lt_of_cell? _ _ (((HB.out.cell (World.block_lt_of_cell? w _ hw440_1)).trans hw440_1)))).trans (((HB.out.cell (World.block_lt_of_cell? w _ hw440_1)).trans hw440_1)), (World.cell?_alloc_lt _ _ _ (World.block_lt_of_cell? _ _ (((HB.out.cell (World.block_lt_of_cell? w _ hw442_0)).trans hw442_0)))).trans (((HB.out.cell (World.block_lt_of_cell? w _ hw442_0)).trans hw442_0)), (World.cell?_alloc_lt _ _ _ (World.block_lt_of_cell? _ _ (((HB.out.cell (World.block_lt_of_cell? w _ hw442_1)).trans hw442_1)))).trans (((HB.out.cell (World.block_lt_of_cell? w _ hw442_1)).trans hw442_1))⟩ (fun hHeld => ?_)
               clear hK K
               refine norm_ (a' := ?_) ?_ ?_
               rotate_left
               ·
                show Act.put _ (some 158) _ = _
                simp only [Act.put, List.setIfInBounds_toArray, List.set_cons_zero, List.set_cons_succ, i64_w, i32_w]
                rfl
               refine one_ (i := 18) (N := some 159) #[true, true, true, true, true, true, true, true, true, true, true, true, true, true, true, true, true, true, true, false, false] rfl rfl (one_of HT_.out (by kernel_rfl)) (by decide) (fun K hK => ?_)
               refine Kd.R_append_step k41 (w0 := w) w.heap.size (by rfl) (.tmp 142) (.tmp 158) 22 41 (.agg #[(.int .u32 0), (.int .u8 0)]) 8 rfl Try.underlying22 info41 rfl (by decide) (by omega) u440001 x440001_4 (⟨t441, (rd_T41 l0_1 x18_4).f1⟩ : S41) [.int .u32 t441, .int .u8 ((rd_T41 l0_1 x18_4).f1)] (fun _ => True) (fun _ => False) rfl rfl ?aP (fun _ hk => hk.elim) ?aF ?aO ?aB ?aS ?aL ?_
               (case aP => exact k41_mkM _ _ _ (⟨t441, (rd_T41 l0_1 x18_4).f1⟩ : S41))
               (case aB => exact (by repeat (first | (with_reducible first | exact HB.out | apply below_alloc | apply pw_below_drewN | apply below_drew1 | refine below_set ?_ GE410.out | refine below_set ?_ GE411.out | refine below_set ?_ GE439.out) | exact HB.out)))
               (case aF => exact (fun _ _ => trivial))
               (case aO => exact (by (with_reducible repeat (first | apply Kd.R_alloc | apply Kd.R_drewN | apply Kd.R_drew)); exact HO_440001.out))
               (case aS => exact (below_size (by repeat (first | (with_reducible first | exact HB.out | apply below_alloc | apply pw_below_drewN | apply below_drew1 | refine below_set ?_ GE410.out | refine below_set ?_ GE411.out | refine below_set ?_ GE439.out) | exact HB.out))))
               (case aL => have := LMc88.out; omega)
               intro v444 w94 ho hb hg hat
               rw [← Ny443.out] at ho
               have n0_ := Aside0.mk (Kd.R_over' (by (with_reducible repeat (first | apply Kd.R_alloc | apply Kd.R_drewN | apply Kd.R_drew)); exact HO_9.out) (Kd.R_typed (by (with_reducible repeat (first | apply Kd.R_alloc | apply Kd.R_drewN | apply Kd.R_drew)); exact HO_440001.out)) (by decide) hg)
               have n1_ := Aside0.mk (Kd.R_over' (by (with_reducible repeat (first | apply Kd.R_alloc | apply Kd.R_drewN | apply Kd.R_drew)); exact HO_440002.out) (Kd.R_typed (by (with_reducible repeat (first | apply Kd.R_alloc | apply Kd.R_drewN | apply Kd.R_drew)); exact HO_440001.out)) (by decide) hg)
               have n2_ := Aside0.mk (blk_grown (g := gb410) (o := .cells #[.int .i64 a0_0, .slice (some ad440) l0_1.length c0_1, .slice A0_2 l0_2.length c0_2, .slice A0_3 l0_3.length c0_3, .slice A0_4 l0_4.length c0_4, .slice A0_5 l0_5.length c0_5] 26 (0, 0)) (by (with_reducible repeat (first | refine blk_drewN ?_ _ | refine blk_drew ?_ | refine blk_alloc ?_ _)); exact BK410.out) hg (Kd.R_ne HO_440001.out BK410.out (by decide)))
               have n3_ := Aside0.mk (blk_grown (g := gb411) (o := .cells #[.int .i64 x412000_2, .slice none 0 0, .slice none 0 0, .slice none 0 0, .slice none 0 0, .slice none 0 0] 26 (0, 0)) (by (with_reducible repeat (first | refine blk_drewN ?_ _ | refine blk_drew ?_ | refine blk_alloc ?_ _)); exact BK411.out) hg (Kd.R_ne HO_440001.out BK411.out (by decide)))
               have n4_ := Aside0.mk (blk_grown (g := gb439) (o := .cells #[.int .i64 a0_0, u440001, .slice Ao80 x10_3.length co80, .slice none 0 0, .slice none 0 0, .slice none 0 0] 26 (0, 0)) (by (with_reducible repeat (first | refine blk_drewN ?_ _ | refine blk_drew ?_ | refine blk_alloc ?_ _)); exact BK439.out) hg (Kd.R_ne HO_440001.out BK439.out (by decide)))
               have n5_ := Aside0.mk (hb)
               have n6_ := Aside0.mk (ho)
               clear HO_9
               clear HO_440002
               clear BK410
               clear BK411
               clear BK439
               clear HB
               clear HO_440001
               have HO_9 := n0_
               have HO_440002 := n1_
               have BK410 := n2_
               have BK411 := n3_
               have BK439 := n4_
               have HB := n5_
               have HO445 := n6_
               clear n0_ n1_ n2_ n3_ n4_ n5_ n6_
               clear ho hb hg hat
               obtain ⟨Ao95, co95, eo95⟩ := Kd.R_slice HO445.out
               (first | subst eo95 | (injection eo95 with f1_ f2_ f3_; have f4_ := f1_.symm; have f5_ := f3_.symm; clear f1_ f2_ f3_; subst f4_; subst f5_))
               refine hK.out _ _ ⟨(blk_cell BK439.out 0).trans rfl, (blk_cell BK439.out 1).trans rfl, (blk_cell BK439.out 2).trans rfl, (blk_cell BK439.out 3).trans rfl, (blk_cell BK439.out 4).trans rfl, (blk_cell BK439.out 5).trans rfl, (blk_cell BK410.out 0).trans rfl, (blk_cell BK410.out 1).trans rfl, (blk_cell BK410.out 2).trans rfl, (blk_cell BK410.out 3).trans rfl, (blk_cell BK410.out 4).trans rfl, (blk_cell BK410.out 5).trans rfl, ((HB.out.cell (World.block_lt_of_cell? w _ hw440_0)).trans hw440_0), ((HB.out.cell (World.block_lt_of_cell? w _ hw440_1)).trans hw440_1), ((HB.out.cell (World.block_lt_of_cell? w _ hw442_0)).trans hw442_0), ((HB.out.cell (World.block_lt_of_cell? w _ hw442_1)).trans hw442_1)⟩ (fun hHeld => ?_)
               clear hK K
               refine norm_ (a' := ?_) ?_ ?_
               rotate_left
               ·
                show Act.put _ (some 159) _ = _
                simp only [Act.put, List.setIfInBounds_toArray, List.set_cons_zero, List.set_cons_succ, i64_w, i32_w]
                rfl
               refine pure_ (i := 19) (N := some 160) (v := ?_) (a' := ?_) #[true, true, true, true, true, true, true, true, true, true, true, true, true, true, true, true, true, true, true, true, false] rfl rfl (any_of HT_.out (by kernel_rfl)) (fun _ _ _ h => h) (Or.inl ⟨by rfl, ?_⟩) ?_ ?_
               rotate_left
               ·
                intro w'
                go_simp
                with_reducible rfl
               rotate_left
               ·
                simp only [Act.put, List.setIfInBounds_toArray, List.set_cons_zero, List.set_cons_succ, i64_w, i32_w]
                rfl
               refine last_ (i := 20) (N := none) #[true, true, true, true, true, true, true, true, true, true, true, true, true, true, true, true, true, true, true, true, true] rfl rfl (one_of HT_.out (by kernel_rfl)) (by decide) (fun K hK => ?_)
               have hs96 : w94.cell? ⟨gb439, 1, none⟩ = some (u440001) := (blk_cell BK439.out 1).trans rfl
               have hfs96 := blk_frozen BK439.out 1
               have hns96_0 := NB410_439.out
               have hns96_1 := NB411_439.out
               have hms96_0 := NB439_410.out
               have hms96_1 := NB439_411.out
               refine skip_ (w1 := ?_) (by rfl) rfl ?_ ?_
               rotate_left
               ·
                go_simp
                rfl
               refine hK.out _ _ ?_
               clear hK K
               refine done_ (done_of HT_.out (by kernel_rfl)) ?_
               try go_wp2
               go_roundg k4
               case measure => have := HJ2.out; have := HK2.out; have := HK3.out; have := HK4.out; omega
               case rel => exact ⟨(wrap64 (x18_4 + 1)), (y443), (.slice Ao95 y443.length co95), (by first | rfl | (simp; done) | (simp [*]; done)), H', ⟨by have := HJ2.out; have := HK2.out; have := HK3.out; have := HK4.out; omega⟩, ⟨by (with_reducible repeat (first | apply Kd.R_alloc | apply Kd.R_drewN | apply Kd.R_drew)); exact Kd.R_mono (Kd.R_far (p := ⟨gb439, 1, none⟩) (Kd.R_types HO_9.out BK439.out (by decide)) (fun _ hk => hk.2) (.slice Ao95 y443.length co95)) (fun _ hk => trivial)⟩, ⟨by (with_reducible repeat (first | apply Kd.R_alloc | apply Kd.R_drewN | apply Kd.R_drew)); exact Kd.R_mono (Kd.R_far (p := ⟨gb439, 1, none⟩) (Kd.R_types HO445.out BK439.out (by decide)) (fun _ hk => hk.2) (.slice Ao95 y443.length co95)) (fun _ hk => trivial)⟩, ⟨by (with_reducible repeat (first | apply Kd.R_alloc | apply Kd.R_drewN | apply Kd.R_drew)); exact Kd.R_mono (Kd.R_far (p := ⟨gb439, 1, none⟩) (Kd.R_types HO_440002.out BK439.out (by decide)) (fun _ hk => hk.2) (.slice Ao95 y443.length co95)) (fun _ hk => trivial)⟩, ⟨by (with_reducible repeat (first | refine blk_drewN ?_ _ | refine blk_drew ?_ | refine blk_alloc ?_ _)); refine blk_far ?_ NB410_439.out _; (with_reducible repeat (first | refine blk_drewN ?_ _ | refine blk_drew ?_ | refine blk_alloc ?_ _)); exact BK410.out⟩, ⟨by (with_reducible repeat (first | refine blk_drewN ?_ _ | refine blk_drew ?_ | refine blk_alloc ?_ _)); refine blk_far ?_ NB411_439.out _; (with_reducible repeat (first | refine blk_drewN ?_ _ | refine blk_drew ?_ | refine blk_alloc ?_ _)); exact BK411.out⟩, ⟨by (with_reducible repeat (first | refine blk_drewN ?_ _ | refine blk_drew ?_ | refine blk_alloc ?_ _)); refine blk_put (cs := #[.int .i64 a0_0, u440001, .slice Ao80 x10_3.length co80, .slice none 0 0, .slice none 0 0, .slice none 0 0]) ?_ 1 _ rfl; (with_reducible repeat (first | refine blk_drewN ?_ _ | refine blk_drew ?_ | refine blk_alloc ?_ _)); exact BK439.out⟩, ⟨by repeat (first | (with_reducible first | exact HB.out | apply below_alloc | apply pw_below_drewN | apply below_drew1 | refine below_set ?_ GE410.out | refine below_set ?_ GE411.out | refine below_set ?_ GE439.out) | exact HB.out)⟩⟩
              ·
               rw [if_neg c88] at H
               exact absurd H (by simp)
             ·
              rw [if_neg c86] at H
              exact absurd H (by simp)
            ·
             rw [if_neg c85] at H
             have c85b0 : decide (x18_4 < (l0_1.length : Int)) = false := decide_eq_false c85
             clear c85
             replace H := Option.bind_eq_some_iff.mp H
             obtain ⟨t446, A970, H⟩ := H
             replace H : ((inquestref24_lits.f k4 x9_3 l0_4).bind fun t449 => ((inquestref24_lits.f k4 x9_3 l0_5).bind fun t452 => (some (a0_0, x440001_4, x10_3, t446, t449, t452, x9_3, 0)))) = some (r1, r2, r3, r4, r5, r6, r7, r8) := H
             have A97 := Aside0.mk A970
             clear A970
             replace H := Option.bind_eq_some_iff.mp H
             obtain ⟨t449, A980, H⟩ := H
             replace H : ((inquestref24_lits.f k4 x9_3 l0_5).bind fun t452 => (some (a0_0, x440001_4, x10_3, t446, t449, t452, x9_3, 0))) = some (r1, r2, r3, r4, r5, r6, r7, r8) := H
             have A98 := Aside0.mk A980
             clear A980
             replace H := Option.bind_eq_some_iff.mp H
             obtain ⟨t452, A990, H⟩ := H
             replace H : (some (a0_0, x440001_4, x10_3, t446, t449, t452, x9_3, 0)) = some (r1, r2, r3, r4, r5, r6, r7, r8) := H
             have A99 := Aside0.mk A990
             clear A990
             simp only [Option.some.injEq, Prod.mk.injEq] at H
             obtain ⟨rfl, rfl, rfl, rfl, rfl, rfl, rfl, rfl⟩ := H
             have hnb100 := NB410_411.out
             have hnc100 := NB411_410.out
             have hnb101 := NB410_439.out
             have hnc101 := NB439_410.out
             have hcz102_0 : wr.cell? ⟨gb410, 0, none⟩ = some (.int .i64 a0_0) := (blk_cell BK410.out 0).trans rfl
             have hcz102_1 : wr.cell? ⟨gb410, 1, none⟩ = some (.slice A0_1 l0_1.length c0_1) := (blk_cell BK410.out 1).trans rfl
             have hcz102_2 : wr.cell? ⟨gb410, 2, none⟩ = some (.slice A0_2 l0_2.length c0_2) := (blk_cell BK410.out 2).trans rfl
             have hcz102_3 : wr.cell? ⟨gb410, 3, none⟩ = some (.slice A0_3 l0_3.length c0_3) := (blk_cell BK410.out 3).trans rfl
             have hcz102_4 : wr.cell? ⟨gb410, 4, none⟩ = some (.slice A0_4 l0_4.length c0_4) := (blk_cell BK410.out 4).trans rfl
             have hcz102_5 : wr.cell? ⟨gb410, 5, none⟩ = some (.slice A0_5 l0_5.length c0_5) := (blk_cell BK410.out 5).trans rfl
             have hfz102_0 := blk_frozen BK410.out 0
             have hfz102_1 := blk_frozen BK410.out 1
             have hfz102_2 := blk_frozen BK410.out 2
             have hfz102_3 := blk_frozen BK410.out 3
             have hfz102_4 := blk_frozen BK410.out 4
             have hfz102_5 := blk_frozen BK410.out 5
             obtain ⟨Ao103, co103, eo103⟩ := Kd.R_slice HO_9.out
             subst eo103
             go_wp2_with (first | ((with_reducible refine gate_callee (f := 106) rfl ?_); refine goesL_ (some 164) rfl rfl Try.func106 (by kernel_rfl) rfl #[.slice Ao103 x9_3.length co103, .slice A0_3 l0_3.length c0_3] rfl (by (try simp only [List.map_toArray, List.map_cons, List.map_nil]); first | done | rfl | (simp only [List.length_drop, List.length_take]; rfl)) ?_; (with_reducible refine (inquestref24_lits.calls k4 _ _ x9_3 _ _ l0_3 t446 _ ?side1 ?side2 ?side3 ?side4 A97.out).mono ?_); (case side1 => repeat (first | exact (Kd.R_reads' HO_9.out).2.2 | (with_reducible refine Kd.C_alloc ?_ _) | (with_reducible refine Kd.C_drewN ?_ _) | (with_reducible refine Kd.C_drew ?_))); (case side2 => exact (Kd.R_reads' HO_9.out).2.1); (case side3 => repeat (first | exact (Kd.C_below HR0_3.out HB.out) | (with_reducible refine Kd.C_alloc ?_ _) | (with_reducible refine Kd.C_drewN ?_ _) | (with_reducible refine Kd.C_drew ?_))); (case side4 => exact HC0_3.out); rintro e w104 ⟨v447, rfl, ho0, hb⟩; refine ⟨_, rfl, ?_⟩; have n0_ := Aside0.mk (Kd.R_elder' (by (with_reducible repeat (first | apply Kd.R_alloc | apply Kd.R_drewN | apply Kd.R_drew)); exact HO_9.out) (Kd.R_base ho0) hb); have n1_ := Aside0.mk (Kd.R_below (by (with_reducible repeat (first | apply Kd.R_alloc | apply Kd.R_drewN | apply Kd.R_drew)); exact HO_440001.out) hb); have n2_ := Aside0.mk (Kd.R_below (by (with_reducible repeat (first | apply Kd.R_alloc | apply Kd.R_drewN | apply Kd.R_drew)); exact HO_440002.out) hb); have n3_ := Aside0.mk (Kd.R_lower (Kd.R_new' ho0 (Kd.R_lt (by (with_reducible repeat (first | apply Kd.R_alloc | apply Kd.R_drewN | apply Kd.R_drew)); exact HO_9.out))) (below_size (by repeat (first | (with_reducible first | exact HB.out | apply below_alloc | apply pw_below_drewN | apply below_drew1 | refine below_set ?_ GE410.out | refine below_set ?_ GE411.out | refine below_set ?_ GE439.out) | exact HB.out)))); have n4_ := Aside0.mk (blk_below (g := gb410) (o := .cells #[.int .i64 a0_0, .slice A0_1 l0_1.length c0_1, .slice A0_2 l0_2.length c0_2, .slice A0_3 l0_3.length c0_3, .slice A0_4 l0_4.length c0_4, .slice A0_5 l0_5.length c0_5] 26 (0, 0)) (by (with_reducible repeat (first | refine blk_drewN ?_ _ | refine blk_drew ?_ | refine blk_alloc ?_ _)); exact BK410.out) hb); have n5_ := Aside0.mk (blk_below (g := gb411) (o := .cells #[.int .i64 x412000_2, .slice none 0 0, .slice none 0 0, .slice none 0 0, .slice none 0 0, .slice none 0 0] 26 (0, 0)) (by (with_reducible repeat (first | refine blk_drewN ?_ _ | refine blk_drew ?_ | refine blk_alloc ?_ _)); exact BK411.out) hb); have n6_ := Aside0.mk (blk_below (g := gb439) (o := .cells #[.int .i64 a0_0, u440001, .slice Ao80 x10_3.length co80, .slice none 0 0, .slice none 0 0, .slice none 0 0] 26 (0, 0)) (by (with_reducible repeat (first | refine blk_drewN ?_ _ | refine blk_drew ?_ | refine blk_alloc ?_ _)); exact BK439.out) hb); have n7_ := Aside0.mk (below_step (by repeat (first | (with_reducible first | exact HB.out | apply below_alloc | apply pw_below_drewN | apply below_drew1 | refine below_set ?_ GE410.out | refine below_set ?_ GE411.out | refine below_set ?_ GE439.out) | exact HB.out)) hb); clear HO_9; clear HO_440001; clear HO_440002; clear BK410; clear BK411; clear BK439; clear HB; have HO_9 := n0_; have HO_440001 := n1_; have HO_440002 := n2_; have HO448 := n3_; have BK410 := n4_; have BK411 := n5_; have BK439 := n6_; have HB := n7_; clear n0_ n1_ n2_ n3_ n4_ n5_ n6_ n7_; (try clear hb); (try clear hb2); (try clear hk); (try clear hi); (try clear ho0); obtain ⟨Ao105, co105, eo105⟩ := Kd.R_slice HO448.out; subst eo105; have hnb106 := NB439_411.out; have hnc106 := NB411_439.out; have hcz107_0 : w104.cell? ⟨gb439, 0, none⟩ = some (.int .i64 a0_0) := (blk_cell BK439.out 0).trans rfl; have hcz107_1 : w104.cell? ⟨gb439, 1, none⟩ = some (u440001) := (blk_cell BK439.out 1).trans rfl; have hcz107_2 : w104.cell? ⟨gb439, 2, none⟩ = some (.slice Ao80 x10_3.length co80) := (blk_cell BK439.out 2).trans rfl; have hcz107_3 : w104.cell? ⟨gb439, 3, none⟩ = some (.slice none 0 0) := (blk_cell BK439.out 3).trans rfl; have hcz107_4 : w104.cell? ⟨gb439, 4, none⟩ = some (.slice none 0 0) := (blk_cell BK439.out 4).trans rfl; have hcz107_5 : w104.cell? ⟨gb439, 5, none⟩ = some (.slice none 0 0) := (blk_cell BK439.out 5).trans rfl; have hfz107_0 := blk_frozen BK439.out 0; have hfz107_1 := blk_frozen BK439.out 1; have hfz107_2 := blk_frozen BK439.out 2; have hfz107_3 := blk_frozen BK439.out 3; have hfz107_4 := blk_frozen BK439.out 4; have hfz107_5 := blk_frozen BK439.out 5; have hcz108_0 : w104.cell? ⟨gb410, 0, none⟩ = some (.int .i64 a0_0) := (blk_cell BK410.out 0).trans rfl; have hcz108_1 : w104.cell? ⟨gb410, 1, none⟩ = some (.slice A0_1 l0_1.length c0_1) := (blk_cell BK410.out 1).trans rfl; have hcz108_2 : w104.cell? ⟨gb410, 2, none⟩ = some (.slice A0_2 l0_2.length c0_2) := (blk_cell BK410.out 2).trans rfl; have hcz108_3 : w104.cell? ⟨gb410, 3, none⟩ = some (.slice A0_3 l0_3.length c0_3) := (blk_cell BK410.out 3).trans rfl; have hcz108_4 : w104.cell? ⟨gb410, 4, none⟩ = some (.slice A0_4 l0_4.length c0_4) := (blk_cell BK410.out 4).trans rfl; have hcz108_5 : w104.cell? ⟨gb410, 5, none⟩ = some (.slice A0_5 l0_5.length c0_5) := (blk_cell BK410.out 5).trans rfl; have hfz108_0 := blk_frozen BK410.out 0; have hfz108_1 := blk_frozen BK410.out 1; have hfz108_2 := blk_frozen BK410.out 2; have hfz108_3 := blk_frozen BK410.out 3; have hfz108_4 := blk_frozen BK410.out 4; have hfz108_5 := blk_frozen BK410.out 5) | ((with_reducible refine gate_callee (f := 106) rfl ?_); refine goesL_ (some 169) rfl rfl Try.func106 (by kernel_rfl) rfl #[.slice Ao103 x9_3.length co103, .slice A0_4 l0_4.length c0_4] rfl (by (try simp only [List.map_toArray, List.map_cons, List.map_nil]); first | done | rfl | (simp only [List.length_drop, List.length_take]; rfl)) ?_; (with_reducible refine (inquestref24_lits.calls k4 _ _ x9_3 _ _ l0_4 t449 _ ?side1 ?side2 ?side3 ?side4 A98.out).mono ?_); (case side1 => refine (Kd.R_reads' (e := 39) (base := w.heap.size) (ok := fun k_ => (True ∧ some k_ ≠ (.slice Ao105 t446.length co105 : Value).ownBlock)) (n := x9_3.length) (c := co103) ?_).2.2; exact (by (with_reducible repeat (first | apply Kd.R_alloc | apply Kd.R_drewN | apply Kd.R_drew)); exact (Kd.R_mono (Kd.R_far (p := ⟨gb439, 3, none⟩) (Kd.R_types HO_9.out BK439.out (by decide)) (fun _ hk => hk.2) (.slice Ao105 t446.length co105)) (fun _ h_ => h_.1)))); (case side2 => exact (Kd.R_reads' HO_9.out).2.1); (case side3 => exact Kd.C_below HR0_4.out (by repeat (first | (with_reducible first | exact HB.out | apply below_alloc | apply pw_below_drewN | apply below_drew1 | refine below_set ?_ GE410.out | refine below_set ?_ GE411.out | refine below_set ?_ GE439.out) | exact HB.out))); (case side4 => exact HC0_4.out); rintro e w109 ⟨v450, rfl, ho0, hb⟩; refine ⟨_, rfl, ?_⟩; have n0_ := Aside0.mk (Kd.R_elder' (by (with_reducible repeat (first | apply Kd.R_alloc | apply Kd.R_drewN | apply Kd.R_drew)); exact (Kd.R_mono (Kd.R_far (p := ⟨gb439, 3, none⟩) (Kd.R_types HO_9.out BK439.out (by decide)) (fun _ hk => hk.2) (.slice Ao105 t446.length co105)) (fun _ h_ => h_.1))) (Kd.R_base ho0) hb); have n1_ := Aside0.mk (Kd.R_below (by (with_reducible repeat (first | apply Kd.R_alloc | apply Kd.R_drewN | apply Kd.R_drew)); exact (Kd.R_mono (Kd.R_far (p := ⟨gb439, 3, none⟩) (Kd.R_types HO_440001.out BK439.out (by decide)) (fun _ hk => hk.2) (.slice Ao105 t446.length co105)) (fun _ h_ => h_.1))) hb); have n2_ := Aside0.mk (Kd.R_below (by (with_reducible repeat (first | apply Kd.R_alloc | apply Kd.R_drewN | apply Kd.R_drew)); exact (Kd.R_mono (Kd.R_far (p := ⟨gb439, 3, none⟩) (Kd.R_types HO_440002.out BK439.out (by decide)) (fun _ hk => hk.2) (.slice Ao105 t446.length co105)) (fun _ h_ => h_.1))) hb); have n3_ := Aside0.mk (Kd.R_elder' (by (with_reducible repeat (first | apply Kd.R_alloc | apply Kd.R_drewN | apply Kd.R_drew)); exact (Kd.R_mono (Kd.R_far (p := ⟨gb439, 3, none⟩) (Kd.R_types HO448.out BK439.out (by decide)) (fun _ hk => hk.2) (.slice Ao105 t446.length co105)) (fun _ h_ => h_.1))) (Kd.R_base ho0) hb); have n4_ := Aside0.mk (Kd.R_lower (Kd.R_new' (Kd.R_new' ho0 (Kd.R_lt (by (with_reducible repeat (first | apply Kd.R_alloc | apply Kd.R_drewN | apply Kd.R_drew)); exact (Kd.R_mono (Kd.R_far (p := ⟨gb439, 3, none⟩) (Kd.R_types HO_9.out BK439.out (by decide)) (fun _ hk => hk.2) (.slice Ao105 t446.length co105)) (fun _ h_ => h_.1))))) (Kd.R_lt (by (with_reducible repeat (first | apply Kd.R_alloc | apply Kd.R_drewN | apply Kd.R_drew)); exact (Kd.R_mono (Kd.R_far (p := ⟨gb439, 3, none⟩) (Kd.R_types HO448.out BK439.out (by decide)) (fun _ hk => hk.2) (.slice Ao105 t446.length co105)) (fun _ h_ => h_.1))))) (below_size (by repeat (first | (with_reducible first | exact HB.out | apply below_alloc | apply pw_below_drewN | apply below_drew1 | refine below_set ?_ GE410.out | refine below_set ?_ GE411.out | refine below_set ?_ GE439.out) | exact HB.out)))); have n5_ := Aside0.mk (blk_below (g := gb410) (o := .cells #[.int .i64 a0_0, .slice A0_1 l0_1.length c0_1, .slice A0_2 l0_2.length c0_2, .slice A0_3 l0_3.length c0_3, .slice A0_4 l0_4.length c0_4, .slice A0_5 l0_5.length c0_5] 26 (0, 0)) (by (with_reducible repeat (first | refine blk_drewN ?_ _ | refine blk_drew ?_ | refine blk_alloc ?_ _)); refine blk_far ?_ NB410_439.out _; (with_reducible repeat (first | refine blk_drewN ?_ _ | refine blk_drew ?_ | refine blk_alloc ?_ _)); exact BK410.out) hb); have n6_ := Aside0.mk (blk_below (g := gb411) (o := .cells #[.int .i64 x412000_2, .slice none 0 0, .slice none 0 0, .slice none 0 0, .slice none 0 0, .slice none 0 0] 26 (0, 0)) (by (with_reducible repeat (first | refine blk_drewN ?_ _ | refine blk_drew ?_ | refine blk_alloc ?_ _)); refine blk_far ?_ NB411_439.out _; (with_reducible repeat (first | refine blk_drewN ?_ _ | refine blk_drew ?_ | refine blk_alloc ?_ _)); exact BK411.out) hb); have n7_ := Aside0.mk (blk_below (g := gb439) (o := .cells #[.int .i64 a0_0, u440001, .slice Ao80 x10_3.length co80, .slice Ao105 t446.length co105, .slice none 0 0, .slice none 0 0] 26 (0, 0)) (by (with_reducible repeat (first | refine blk_drewN ?_ _ | refine blk_drew ?_ | refine blk_alloc ?_ _)); refine blk_put (cs := #[.int .i64 a0_0, u440001, .slice Ao80 x10_3.length co80, .slice none 0 0, .slice none 0 0, .slice none 0 0]) ?_ 3 _ rfl; (with_reducible repeat (first | refine blk_drewN ?_ _ | refine blk_drew ?_ | refine blk_alloc ?_ _)); exact BK439.out) hb); have n8_ := Aside0.mk (below_step (by repeat (first | (with_reducible first | exact HB.out | apply below_alloc | apply pw_below_drewN | apply below_drew1 | refine below_set ?_ GE410.out | refine below_set ?_ GE411.out | refine below_set ?_ GE439.out) | exact HB.out)) hb); clear HO_9; clear HO_440001; clear HO_440002; clear HO448; clear BK410; clear BK411; clear BK439; clear HB; have HO_9 := n0_; have HO_440001 := n1_; have HO_440002 := n2_; have HO448 := n3_; have HO451 := n4_; have BK410 := n5_; have BK411 := n6_; have BK439 := n7_; have HB := n8_; clear n0_ n1_ n2_ n3_ n4_ n5_ n6_ n7_ n8_; (try clear hb); (try clear hb2); (try clear hk); (try clear hi); (try clear ho0); obtain ⟨Ao110, co110, eo110⟩ := Kd.R_slice HO451.out; subst eo110; have hcz111_0 : w109.cell? ⟨gb439, 0, none⟩ = some (.int .i64 a0_0) := (blk_cell BK439.out 0).trans rfl; have hcz111_1 : w109.cell? ⟨gb439, 1, none⟩ = some (u440001) := (blk_cell BK439.out 1).trans rfl; have hcz111_2 : w109.cell? ⟨gb439, 2, none⟩ = some (.slice Ao80 x10_3.length co80) := (blk_cell BK439.out 2).trans rfl; have hcz111_3 : w109.cell? ⟨gb439, 3, none⟩ = some (.slice Ao105 t446.length co105) := (blk_cell BK439.out 3).trans rfl; have hcz111_4 : w109.cell? ⟨gb439, 4, none⟩ = some (.slice none 0 0) := (blk_cell BK439.out 4).trans rfl; have hcz111_5 : w109.cell? ⟨gb439, 5, none⟩ = some (.slice none 0 0) := (blk_cell BK439.out 5).trans rfl; have hfz111_0 := blk_frozen BK439.out 0; have hfz111_1 := blk_frozen BK439.out 1; have hfz111_2 := blk_frozen BK439.out 2; have hfz111_3 := blk_frozen BK439.out 3; have hfz111_4 := blk_frozen BK439.out 4; have hfz111_5 := blk_frozen BK439.out 5; have hcz112_0 : w109.cell? ⟨gb410, 0, none⟩ = some (.int .i64 a0_0) := (blk_cell BK410.out 0).trans rfl; have hcz112_1 : w109.cell? ⟨gb410, 1, none⟩ = some (.slice A0_1 l0_1.length c0_1) := (blk_cell BK410.out 1).trans rfl; have hcz112_2 : w109.cell? ⟨gb410, 2, none⟩ = some (.slice A0_2 l0_2.length c0_2) := (blk_cell BK410.out 2).trans rfl; have hcz112_3 : w109.cell? ⟨gb410, 3, none⟩ = some (.slice A0_3 l0_3.length c0_3) := (blk_cell BK410.out 3).trans rfl; have hcz112_4 : w109.cell? ⟨gb410, 4, none⟩ = some (.slice A0_4 l0_4.length c0_4) := (blk_cell BK410.out 4).trans rfl; have hcz112_5 : w109.cell? ⟨gb410, 5, none⟩ = some (.slice A0_5 l0_5.length c0_5) := (blk_cell BK410.out 5).trans rfl; have hfz112_0 := blk_frozen BK410.out 0; have hfz112_1 := blk_frozen BK410.out 1; have hfz112_2 := blk_frozen BK410.out 2; have hfz112_3 := blk_frozen BK410.out 3; have hfz112_4 := blk_frozen BK410.out 4; have hfz112_5 := blk_frozen BK410.out 5) | ((with_reducible refine gate_callee (f := 106) rfl ?_); refine goesL_ (some 174) rfl rfl Try.func106 (by kernel_rfl) rfl #[.slice Ao103 x9_3.length co103, .slice A0_5 l0_5.length c0_5] rfl (by (try simp only [List.map_toArray, List.map_cons, List.map_nil]); first | done | rfl | (simp only [List.length_drop, List.length_take]; rfl)) ?_; (with_reducible refine (inquestref24_lits.calls k4 _ _ x9_3 _ _ l0_5 t452 _ ?side1 ?side2 ?side3 ?side4 A99.out).mono ?_); (case side1 => refine (Kd.R_reads' (e := 39) (base := w.heap.size) (ok := fun k_ => ((True ∧ some k_ ≠ (.slice Ao105 t446.length co105 : Value).ownBlock) ∧ some k_ ≠ (.slice Ao110 t449.length co110 : Value).ownBlock)) (n := x9_3.length) (c := co103) ?_).2.2; exact (by (with_reducible repeat (first | apply Kd.R_alloc | apply Kd.R_drewN | apply Kd.R_drew)); exact (Kd.R_mono (Kd.R_far (p := ⟨gb439, 4, none⟩) (Kd.R_types HO_9.out BK439.out (by decide)) (fun _ hk => hk.2) (.slice Ao110 t449.length co110)) (fun _ h_ => h_.1)))); (case side2 => exact (Kd.R_reads' HO_9.out).2.1); (case side3 => exact Kd.C_below HR0_5.out (by repeat (first | (with_reducible first | exact HB.out | apply below_alloc | apply pw_below_drewN | apply below_drew1 | refine below_set ?_ GE410.out | refine below_set ?_ GE411.out | refine below_set ?_ GE439.out) | exact HB.out))); (case side4 => exact HC0_5.out); rintro e w113 ⟨v453, rfl, ho0, hb⟩; refine ⟨_, rfl, ?_⟩; have n0_ := Aside0.mk (Kd.R_elder' (by (with_reducible repeat (first | apply Kd.R_alloc | apply Kd.R_drewN | apply Kd.R_drew)); exact (Kd.R_mono (Kd.R_far (p := ⟨gb439, 4, none⟩) (Kd.R_types HO_9.out BK439.out (by decide)) (fun _ hk => hk.2) (.slice Ao110 t449.length co110)) (fun _ h_ => h_.1))) (Kd.R_base ho0) hb); have n1_ := Aside0.mk (Kd.R_below (by (with_reducible repeat (first | apply Kd.R_alloc | apply Kd.R_drewN | apply Kd.R_drew)); exact (Kd.R_mono (Kd.R_far (p := ⟨gb439, 4, none⟩) (Kd.R_types HO_440001.out BK439.out (by decide)) (fun _ hk => hk.2) (.slice Ao110 t449.length co110)) (fun _ h_ => h_.1))) hb); have n2_ := Aside0.mk (Kd.R_below (by (with_reducible repeat (first | apply Kd.R_alloc | apply Kd.R_drewN | apply Kd.R_drew)); exact (Kd.R_mono (Kd.R_far (p := ⟨gb439, 4, none⟩) (Kd.R_types HO_440002.out BK439.out (by decide)) (fun _ hk => hk.2) (.slice Ao110 t449.length co110)) (fun _ h_ => h_.1))) hb); have n3_ := Aside0.mk (Kd.R_elder' (by (with_reducible repeat (first | apply Kd.R_alloc | apply Kd.R_drewN | apply Kd.R_drew)); exact (Kd.R_mono (Kd.R_far (p := ⟨gb439, 4, none⟩) (Kd.R_types HO448.out BK439.out (by decide)) (fun _ hk => hk.2) (.slice Ao110 t449.length co110)) (fun _ h_ => h_.1))) (Kd.R_base ho0) hb); have n4_ := Aside0.mk (Kd.R_elder' (by (with_reducible repeat (first | apply Kd.R_alloc | apply Kd.R_drewN | apply Kd.R_drew)); exact (Kd.R_mono (Kd.R_far (p := ⟨gb439, 4, none⟩) (Kd.R_types HO451.out BK439.out (by decide)) (fun _ hk => hk.2) (.slice Ao110 t449.length co110)) (fun _ h_ => h_.1))) (Kd.R_base ho0) hb); have n5_ := Aside0.mk (Kd.R_lower (Kd.R_new' (Kd.R_new' (Kd.R_new' ho0 (Kd.R_lt (by (with_reducible repeat (first | apply Kd.R_alloc | apply Kd.R_drewN | apply Kd.R_drew)); exact (Kd.R_mono (Kd.R_far (p := ⟨gb439, 4, none⟩) (Kd.R_types HO_9.out BK439.out (by decide)) (fun _ hk => hk.2) (.slice Ao110 t449.length co110)) (fun _ h_ => h_.1))))) (Kd.R_lt (by (with_reducible repeat (first | apply Kd.R_alloc | apply Kd.R_drewN | apply Kd.R_drew)); exact (Kd.R_mono (Kd.R_far (p := ⟨gb439, 4, none⟩) (Kd.R_types HO448.out BK439.out (by decide)) (fun _ hk => hk.2) (.slice Ao110 t449.length co110)) (fun _ h_ => h_.1))))) (Kd.R_lt (by (with_reducible repeat (first | apply Kd.R_alloc | apply Kd.R_drewN | apply Kd.R_drew)); exact (Kd.R_mono (Kd.R_far (p := ⟨gb439, 4, none⟩) (Kd.R_types HO451.out BK439.out (by decide)) (fun _ hk => hk.2) (.slice Ao110 t449.length co110)) (fun _ h_ => h_.1))))) (below_size (by repeat (first | (with_reducible first | exact HB.out | apply below_alloc | apply pw_below_drewN | apply below_drew1 | refine below_set ?_ GE410.out | refine below_set ?_ GE411.out | refine below_set ?_ GE439.out) | exact HB.out)))); have n6_ := Aside0.mk (blk_below (g := gb410) (o := .cells #[.int .i64 a0_0, .slice A0_1 l0_1.length c0_1, .slice A0_2 l0_2.length c0_2, .slice A0_3 l0_3.length c0_3, .slice A0_4 l0_4.length c0_4, .slice A0_5 l0_5.length c0_5] 26 (0, 0)) (by (with_reducible repeat (first | refine blk_drewN ?_ _ | refine blk_drew ?_ | refine blk_alloc ?_ _)); refine blk_far ?_ NB410_439.out _; (with_reducible repeat (first | refine blk_drewN ?_ _ | refine blk_drew ?_ | refine blk_alloc ?_ _)); exact BK410.out) hb); have n7_ := Aside0.mk (blk_below (g := gb411) (o := .cells #[.int .i64 x412000_2, .slice none 0 0, .slice none 0 0, .slice none 0 0, .slice none 0 0, .slice none 0 0] 26 (0, 0)) (by (with_reducible repeat (first | refine blk_drewN ?_ _ | refine blk_drew ?_ | refine blk_alloc ?_ _)); refine blk_far ?_ NB411_439.out _; (with_reducible repeat (first | refine blk_drewN ?_ _ | refine blk_drew ?_ | refine blk_alloc ?_ _)); exact BK411.out) hb); have n8_ := Aside0.mk (blk_below (g := gb439) (o := .cells #[.int .i64 a0_0, u440001, .slice Ao80 x10_3.length co80, .slice Ao105 t446.length co105, .slice Ao110 t449.length co110, .slice none 0 0] 26 (0, 0)) (by (with_reducible repeat (first | refine blk_drewN ?_ _ | refine blk_drew ?_ | refine blk_alloc ?_ _)); refine blk_put (cs := #[.int .i64 a0_0, u440001, .slice Ao80 x10_3.length co80, .slice Ao105 t446.length co105, .slice none 0 0, .slice none 0 0]) ?_ 4 _ rfl; (with_reducible repeat (first | refine blk_drewN ?_ _ | refine blk_drew ?_ | refine blk_alloc ?_ _)); exact BK439.out) hb); have n9_ := Aside0.mk (below_step (by repeat (first | (with_reducible first | exact HB.out | apply below_alloc | apply pw_below_drewN | apply below_drew1 | refine below_set ?_ GE410.out | refine below_set ?_ GE411.out | refine below_set ?_ GE439.out) | exact HB.out)) hb); clear HO_9; clear HO_440001; clear HO_440002; clear HO448; clear HO451; clear BK410; clear BK411; clear BK439; clear HB; have HO_9 := n0_; have HO_440001 := n1_; have HO_440002 := n2_; have HO448 := n3_; have HO451 := n4_; have HO454 := n5_; have BK410 := n6_; have BK411 := n7_; have BK439 := n8_; have HB := n9_; clear n0_ n1_ n2_ n3_ n4_ n5_ n6_ n7_ n8_ n9_; (try clear hb); (try clear hb2); (try clear hk); (try clear hi); (try clear ho0); obtain ⟨Ao114, co114, eo114⟩ := Kd.R_slice HO454.out; subst eo114; have hcz115_0 : w113.cell? ⟨gb439, 0, none⟩ = some (.int .i64 a0_0) := (blk_cell BK439.out 0).trans rfl; have hcz115_1 : w113.cell? ⟨gb439, 1, none⟩ = some (u440001) := (blk_cell BK439.out 1).trans rfl; have hcz115_2 : w113.cell? ⟨gb439, 2, none⟩ = some (.slice Ao80 x10_3.length co80) := (blk_cell BK439.out 2).trans rfl; have hcz115_3 : w113.cell? ⟨gb439, 3, none⟩ = some (.slice Ao105 t446.length co105) := (blk_cell BK439.out 3).trans rfl; have hcz115_4 : w113.cell? ⟨gb439, 4, none⟩ = some (.slice Ao110 t449.length co110) := (blk_cell BK439.out 4).trans rfl; have hcz115_5 : w113.cell? ⟨gb439, 5, none⟩ = some (.slice none 0 0) := (blk_cell BK439.out 5).trans rfl; have hfz115_0 := blk_frozen BK439.out 0; have hfz115_1 := blk_frozen BK439.out 1; have hfz115_2 := blk_frozen BK439.out 2; have hfz115_3 := blk_frozen BK439.out 3; have hfz115_4 := blk_frozen BK439.out 4; have hfz115_5 := blk_frozen BK439.out 5; have hcz116_0 : w113.cell? ⟨gb411, 0, none⟩ = some (.int .i64 x412000_2) := (blk_cell BK411.out 0).trans rfl; have hcz116_1 : w113.cell? ⟨gb411, 1, none⟩ = some (.slice none 0 0) := (blk_cell BK411.out 1).trans rfl; have hcz116_2 : w113.cell? ⟨gb411, 2, none⟩ = some (.slice none 0 0) := (blk_cell BK411.out 2).trans rfl; have hcz116_3 : w113.cell? ⟨gb411, 3, none⟩ = some (.slice none 0 0) := (blk_cell BK411.out 3).trans rfl; have hcz116_4 : w113.cell? ⟨gb411, 4, none⟩ = some (.slice none 0 0) := (blk_cell BK411.out 4).trans rfl; have hcz116_5 : w113.cell? ⟨gb411, 5, none⟩ = some (.slice none 0 0) := (blk_cell BK411.out 5).trans rfl; have hfz116_0 := blk_frozen BK411.out 0; have hfz116_1 := blk_frozen BK411.out 1; have hfz116_2 := blk_frozen BK411.out 2; have hfz116_3 := blk_frozen BK411.out 3; have hfz116_4 := blk_frozen BK411.out 4; have hfz116_5 := blk_frozen BK411.out 5; obtain ⟨Ao117, co117, eo117⟩ := Kd.R_slice HO_440001.out; subst eo117))
             refine bodyPost_ret (results_ctt rfl _ _ gb411 26 #[.int .i64 a0_0, .slice Ao117 x440001_4.length co117, .slice Ao80 x10_3.length co80, .slice Ao105 t446.length co105, .slice Ao110 t449.length co110, .slice Ao114 t452.length co114] (0, 0) _ rfl (by (with_reducible repeat (first | refine blk_drewN ?_ _ | refine blk_drew ?_ | refine blk_alloc ?_ _)); refine blk_put (cs := #[.int .i64 a0_0, .slice Ao117 x440001_4.length co117, .slice Ao80 x10_3.length co80, .slice Ao105 t446.length co105, .slice Ao110 t449.length co110, .slice none 0 0]) ?_ 5 _ rfl; (with_reducible repeat (first | refine blk_drewN ?_ _ | refine blk_drew ?_ | refine blk_alloc ?_ _)); refine blk_put (cs := #[.int .i64 a0_0, .slice Ao117 x440001_4.length co117, .slice Ao80 x10_3.length co80, .slice Ao105 t446.length co105, .slice none 0 0, .slice none 0 0]) ?_ 4 _ rfl; (with_reducible repeat (first | refine blk_drewN ?_ _ | refine blk_drew ?_ | refine blk_alloc ?_ _)); refine blk_put (cs := #[.int .i64 a0_0, .slice Ao117 x440001_4.length co117, .slice Ao80 x10_3.length co80, .slice none 0 0, .slice none 0 0, .slice none 0 0]) ?_ 3 _ rfl; (with_reducible repeat (first | refine blk_drewN ?_ _ | refine blk_drew ?_ | refine blk_alloc ?_ _)); refine blk_put (cs := #[.int .i64 a0_0, .slice Ao117 x440001_4.length co117, .slice none 0 0, .slice none 0 0, .slice none 0 0, .slice none 0 0]) ?_ 2 _ rfl; (with_reducible repeat (first | refine blk_drewN ?_ _ | refine blk_drew ?_ | refine blk_alloc ?_ _)); refine blk_put (cs := #[.int .i64 a0_0, .slice none 0 0, .slice none 0 0, .slice none 0 0, .slice none 0 0, .slice none 0 0]) ?_ 1 _ rfl; (with_reducible repeat (first | refine blk_drewN ?_ _ | refine blk_drew ?_ | refine blk_alloc ?_ _)); refine blk_put (cs := #[.int .i64 x412000_2, .slice none 0 0, .slice none 0 0, .slice none 0 0, .slice none 0 0, .slice none 0 0]) ?_ 0 _ rfl; (with_reducible repeat (first | refine blk_drewN ?_ _ | refine blk_drew ?_ | refine blk_alloc ?_ _)); refine blk_far ?_ NB411_439.out _; (with_reducible repeat (first | refine blk_drewN ?_ _ | refine blk_drew ?_ | refine blk_alloc ?_ _)); exact BK411.out) Try.underlying26 rfl (by kernel_rfl)) rfl ?_
             exact ⟨_, _, _, _, _, _, by first | rfl | (simp [errW_none, errW_some] <;> rfl) | (simp [*, errW_none, errW_some] <;> rfl), by (with_reducible repeat (first | apply Kd.R_alloc | apply Kd.R_drewN | apply Kd.R_drew)); exact Kd.R_mono (Kd.R_far (p := ⟨gb411, 5, none⟩) (Kd.R_far (p := ⟨gb411, 4, none⟩) (Kd.R_far (p := ⟨gb411, 3, none⟩) (Kd.R_far (p := ⟨gb411, 2, none⟩) (Kd.R_far (p := ⟨gb411, 1, none⟩) (Kd.R_far (p := ⟨gb411, 0, none⟩) (Kd.R_far (p := ⟨gb439, 5, none⟩) (Kd.R_types (Kd.R_types HO_440001.out BK439.out (by decide)) BK411.out (by decide)) (fun _ hk => hk.1.2) (.slice Ao114 t452.length co114)) (fun _ hk => hk.2) (.int .i64 a0_0)) (fun _ hk => hk.2) (.slice Ao117 x440001_4.length co117)) (fun _ hk => hk.2) (.slice Ao80 x10_3.length co80)) (fun _ hk => hk.2) (.slice Ao105 t446.length co105)) (fun _ hk => hk.2) (.slice Ao110 t449.length co110)) (fun _ hk => hk.2) (.slice Ao114 t452.length co114)) (fun _ hk => trivial), by (with_reducible repeat (first | apply Kd.R_alloc | apply Kd.R_drewN | apply Kd.R_drew)); exact Kd.R_mono (Kd.R_far (p := ⟨gb411, 5, none⟩) (Kd.R_far (p := ⟨gb411, 4, none⟩) (Kd.R_far (p := ⟨gb411, 3, none⟩) (Kd.R_far (p := ⟨gb411, 2, none⟩) (Kd.R_far (p := ⟨gb411, 1, none⟩) (Kd.R_far (p := ⟨gb411, 0, none⟩) (Kd.R_far (p := ⟨gb439, 5, none⟩) (Kd.R_types (Kd.R_types HO_440002.out BK439.out (by decide)) BK411.out (by decide)) (fun _ hk => hk.1.2) (.slice Ao114 t452.length co114)) (fun _ hk => hk.2) (.int .i64 a0_0)) (fun _ hk => hk.2) (.slice Ao117 x440001_4.length co117)) (fun _ hk => hk.2) (.slice Ao80 x10_3.length co80)) (fun _ hk => hk.2) (.slice Ao105 t446.length co105)) (fun _ hk => hk.2) (.slice Ao110 t449.length co110)) (fun _ hk => hk.2) (.slice Ao114 t452.length co114)) (fun _ hk => trivial), by (with_reducible repeat (first | apply Kd.R_alloc | apply Kd.R_drewN | apply Kd.R_drew)); exact Kd.R_mono (Kd.R_far (p := ⟨gb411, 5, none⟩) (Kd.R_far (p := ⟨gb411, 4, none⟩) (Kd.R_far (p := ⟨gb411, 3, none⟩) (Kd.R_far (p := ⟨gb411, 2, none⟩) (Kd.R_far (p := ⟨gb411, 1, none⟩) (Kd.R_far (p := ⟨gb411, 0, none⟩) (Kd.R_far (p := ⟨gb439, 5, none⟩) (Kd.R_types (Kd.R_types HO448.out BK439.out (by decide)) BK411.out (by decide)) (fun _ hk => hk.1.2) (.slice Ao114 t452.length co114)) (fun _ hk => hk.2) (.int .i64 a0_0)) (fun _ hk => hk.2) (.slice Ao117 x440001_4.length co117)) (fun _ hk => hk.2) (.slice Ao80 x10_3.length co80)) (fun _ hk => hk.2) (.slice Ao105 t446.length co105)) (fun _ hk => hk.2) (.slice Ao110 t449.length co110)) (fun _ hk => hk.2) (.slice Ao114 t452.length co114)) (fun _ hk => ⟨hk.1.1.1.2, ⟨hk.1.1.2, hk.1.1.1.1.2⟩⟩), by (with_reducible repeat (first | apply Kd.R_alloc | apply Kd.R_drewN | apply Kd.R_drew)); exact Kd.R_mono (Kd.R_far (p := ⟨gb411, 5, none⟩) (Kd.R_far (p := ⟨gb411, 4, none⟩) (Kd.R_far (p := ⟨gb411, 3, none⟩) (Kd.R_far (p := ⟨gb411, 2, none⟩) (Kd.R_far (p := ⟨gb411, 1, none⟩) (Kd.R_far (p := ⟨gb411, 0, none⟩) (Kd.R_far (p := ⟨gb439, 5, none⟩) (Kd.R_types (Kd.R_types HO451.out BK439.out (by decide)) BK411.out (by decide)) (fun _ hk => hk.1.2) (.slice Ao114 t452.length co114)) (fun _ hk => hk.2) (.int .i64 a0_0)) (fun _ hk => hk.2) (.slice Ao117 x440001_4.length co117)) (fun _ hk => hk.2) (.slice Ao80 x10_3.length co80)) (fun _ hk => hk.2) (.slice Ao105 t446.length co105)) (fun _ hk => hk.2) (.slice Ao110 t449.length co110)) (fun _ hk => hk.2) (.slice Ao114 t452.length co114)) (fun _ hk => ⟨hk.1.1.1.2, ⟨hk.1.1.2, hk.1.1.1.1.2⟩⟩), by (with_reducible repeat (first | apply Kd.R_alloc | apply Kd.R_drewN | apply Kd.R_drew)); exact Kd.R_mono (Kd.R_far (p := ⟨gb411, 5, none⟩) (Kd.R_far (p := ⟨gb411, 4, none⟩) (Kd.R_far (p := ⟨gb411, 3, none⟩) (Kd.R_far (p := ⟨gb411, 2, none⟩) (Kd.R_far (p := ⟨gb411, 1, none⟩) (Kd.R_far (p := ⟨gb411, 0, none⟩) (Kd.R_far (p := ⟨gb439, 5, none⟩) (Kd.R_types (Kd.R_types HO454.out BK439.out (by decide)) BK411.out (by decide)) (fun _ hk => hk.1.2) (.slice Ao114 t452.length co114)) (fun _ hk => hk.2) (.int .i64 a0_0)) (fun _ hk => hk.2) (.slice Ao117 x440001_4.length co117)) (fun _ hk => hk.2) (.slice Ao80 x10_3.length co80)) (fun _ hk => hk.2) (.slice Ao105 t446.length co105)) (fun _ hk => hk.2) (.slice Ao110 t449.length co110)) (fun _ hk => hk.2) (.slice Ao114 t452.length co114)) (fun _ hk => ⟨hk.1.1.1.2, ⟨hk.1.1.2, hk.1.1.1.1.2⟩⟩), by (with_reducible repeat (first | apply Kd.R_alloc | apply Kd.R_drewN | apply Kd.R_drew)); exact Kd.R_mono (Kd.R_far (p := ⟨gb411, 5, none⟩) (Kd.R_far (p := ⟨gb411, 4, none⟩) (Kd.R_far (p := ⟨gb411, 3, none⟩) (Kd.R_far (p := ⟨gb411, 2, none⟩) (Kd.R_far (p := ⟨gb411, 1, none⟩) (Kd.R_far (p := ⟨gb411, 0, none⟩) (Kd.R_far (p := ⟨gb439, 5, none⟩) (Kd.R_types (Kd.R_types HO_9.out BK439.out (by decide)) BK411.out (by decide)) (fun _ hk => hk.1.2) (.slice Ao114 t452.length co114)) (fun _ hk => hk.2) (.int .i64 a0_0)) (fun _ hk => hk.2) (.slice Ao117 x440001_4.length co117)) (fun _ hk => hk.2) (.slice Ao80 x10_3.length co80)) (fun _ hk => hk.2) (.slice Ao105 t446.length co105)) (fun _ hk => hk.2) (.slice Ao110 t449.length co110)) (fun _ hk => hk.2) (.slice Ao114 t452.length co114)) (fun _ hk => ⟨hk.1.1.1.1.2, ⟨hk.1.1.1.2, hk.1.1.2⟩⟩), by repeat (first | (with_reducible first | exact HB.out | apply below_alloc | apply pw_below_drewN | apply below_drew1 | refine below_set ?_ GE410.out | refine below_set ?_ GE411.out | refine below_set ?_ GE439.out) | exact HB.out)⟩
end Go.Proofs.Yteiiodlgdbiimaa.F
end
