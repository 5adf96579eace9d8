/- What the proof of the law StrashRuns needs, part 14: the walks of the functions that it reaches, and the plain words on what these compute. -/
import Derived.Test.YteiiodlgdbiimaaRm
section
namespace Go.Proofs.Yteiiodlgdbiimaa.F
open Go.RowKit Go.Proofs.YteiiodlgdbiimaaW.PrintWords Go.Proofs.YteiiodlgdbiimaaW.PrintLast Go.Proofs.YteiiodlgdbiimaaW.PrintMore
attribute [local go_sem] max2_int min2_int max_two min_two max_three min_three max_four min_four
set_option linter.unusedVariables false
set_option linter.unusedSimpArgs false
def inquestref07_Read.l0 : Nat → Int → Int → List Int → List (List Int) → Int → List Int → List (List Int) → Option (Int × List Int × (List (List Int)))
  | 0, _, _, _, _, _, _, _ => none
  | k + 1, x4, x661000, x661001, x661002, x666000, x666001, x666002 => if x4 < (x661002.length : Int) then (if 0 ≤ x4 then ((inquestref07_zeroed.f k (rd_L9 x661002 x4)).bind fun t667 => (if x666002.length < 5864062014805 then (inquestref07_Read.l0 k (wrap64 (x4 + 1)) x661000 x661001 x661002 x666000 x666001 (x666002 ++ [t667])) else (none))) else (none)) else (some (x666000, x666001, x666002))
def inquestref07_Read.f (k : Nat) (a0_0 : Int) (l0_1 : List Int) (l0_2 : List (List Int)) : Option (Int × List Int × (List (List Int))) := (inquestref07_zeroed.f k l0_1).bind fun t662 => (inquestref07_Read.l0 k 0 a0_0 l0_1 l0_2 a0_0 t662 ([] : List (List Int)))
def inquestref07_Read.T1 : Bool × List (List Nat × List Nat) := (true, [([], []), ([0], [0]), ([], []), ([2], [2]), ([3], [3]), ([1, 4], [1, 4]), ([], []), ([6, 5, 4, 0, 1, 2, 3, 4, 5, 6], [5, 6])])
def inquestref07_Read.B1 : List Nat := [0, 1, 0, 4, 12, 31, 0, 127]
theorem inquestref07_Read.tab1 : rtab .any (opsOf Try.f54 1) = inquestref07_Read.T1 := by kernel_rfl
theorem inquestref07_Read.bits1 : waitsOk inquestref07_Read.T1.2 inquestref07_Read.B1 = true := by kernel_rfl
def inquestref07_Read.T5 : Bool × List (List Nat × List Nat) := (true, [([], []), ([0], [0]), ([], []), ([2], [2]), ([], []), ([3, 4], [3, 4]), ([5], [5]), ([6], [6]), ([7], [7]), ([1, 8, 7], [1, 8]), ([0, 1, 2, 3, 4, 5, 6, 7, 8, 9], []), ([10, 9, 9, 0, 1, 2, 3, 4, 5, 6, 7, 8, 9], [9, 10])])
def inquestref07_Read.B5 : List Nat := [0, 1, 0, 4, 0, 28, 60, 124, 252, 511, 1023, 2047]
theorem inquestref07_Read.tab5 : rtab .any (opsOf Try.f54 5) = inquestref07_Read.T5 := by kernel_rfl
theorem inquestref07_Read.bits5 : waitsOk inquestref07_Read.T5.2 inquestref07_Read.B5 = true := by kernel_rfl
set_option maxHeartbeats 8000000 in
set_option maxRecDepth 100000 in
theorem inquestref07_Read.calls (k : Nat) (a0_0 : Int) (A0_1 : Option Addr) (c0_1 : Nat) (l0_1 : List Int) (A0_2 : Option Addr) (c0_2 : Nat) (l0_2 : List (List Int)) (r1 : Int) (r2 : List Int) (r3 : List (List Int)) (w : World) (hr0_1 : Kd.C (Kd.int .u8) w A0_1 l0_1.length l0_1) (hc0_1 : l0_1.length ≤ c0_1) (hr0_2 : Kd.C (Kd.slice 5 (Kd.int .u8)) w A0_2 l0_2.length l0_2) (hc0_2 : l0_2.length ≤ c0_2) (h : inquestref07_Read.f k a0_0 l0_1 l0_2 = some (r1, r2, r3)) :
  Calls Try.prog 54 #[.agg #[.int .i64 a0_0, .slice A0_1 l0_1.length c0_1, .slice A0_2 l0_2.length c0_2]] w fun e w' => ∃ v1_ v2_ : Value, e = .returned (.agg #[.int .i64 r1, v1_, v2_]) ∧ Kd.R (Kd.int .u8) 5 w' w.heap.size (fun _ => True) v1_ r2 ∧ Kd.S (Kd.slice 5 (Kd.int .u8)) 28 w' w.heap.size (fun k_ => some k_ ≠ (v1_ : Value).ownBlock) v2_ r3 ∧ Below w.heap.size w w' := by
 have hu31 := Try.underlying31
 have HR0_1 := Aside0.mk hr0_1
 have HC0_1 := Aside0.mk hc0_1
 clear hr0_1 hc0_1
 have HR0_2 := Aside0.mk hr0_2
 have HC0_2 := Aside0.mk hc0_2
 clear hr0_2 hc0_2
 have HB := Aside0.mk (Below.refl w.heap.size w)
 have H : ((inquestref07_zeroed.f k l0_1).bind fun t662 => (inquestref07_Read.l0 k 0 a0_0 l0_1 l0_2 a0_0 t662 ([] : List (List Int)))) = some (r1, r2, r3) := h
 clear h
 replace H := Option.bind_eq_some_iff.mp H
 obtain ⟨t662, A20, H⟩ := H
 replace H : (inquestref07_Read.l0 k 0 a0_0 l0_1 l0_2 a0_0 t662 ([] : List (List Int))) = some (r1, r2, r3) := H
 have A2 := Aside0.mk A20
 clear A20
 have H' := Aside0.mk H
 clear H
 go_enter Try.func54, Try.ntmps54
 try go_wp2_with (first | ((with_reducible refine gate_dst (N := 1) rfl ?_); refine box_event ?hg (N := 1) ?hd (cs := #[.int .i64 a0_0, .slice A0_1 l0_1.length c0_1, .slice A0_2 l0_2.length c0_2]) (t := 31) ?hr ?_; (case hd => rfl); (case hg => rfl); (case hr => first | (go_simp; done) | (go_simp; rfl)); intro gb660 hg w3 hbox hb; have n0_ := Aside0.mk (below_step (by exact HB.out) hb); have n1_ := Aside0.mk (hbox); have n2_ := Aside0.mk ((by rw [hg]; exact (below_size (by exact HB.out)) : w.heap.size ≤ gb660)); have n3_ := Aside0.mk ((by rw [hg]; exact (below_size (by exact HB.out)) : w.heap.size ≤ gb660)); clear HB; have HB := n0_; have BK660 := n1_; have GW660 := n2_; have GE660 := n3_; clear n0_ n1_ n2_ n3_; clear hb hbox hg) | ((with_reducible refine gate_dst (N := 2) rfl ?_); refine box_event ?hg (N := 2) ?hd (cs := #[.int .i64 0, .slice none 0 0, .slice none 0 0]) (t := 31) ?hr ?_; (case hd => rfl); (case hg => rfl); (case hr => first | (go_simp; done) | (go_simp; rfl)); intro gb661 hg w4 hbox hb; have n0_ := Aside0.mk (blk_below (g := gb660) (o := .cells #[.int .i64 a0_0, .slice A0_1 l0_1.length c0_1, .slice A0_2 l0_2.length c0_2] 31 (0, 0)) (by exact BK660.out) hb); have n1_ := Aside0.mk (below_step (by exact HB.out) hb); have n2_ := Aside0.mk (hbox); have n3_ := Aside0.mk ((by rw [hg]; exact (below_size (by exact HB.out)) : w.heap.size ≤ gb661)); have n4_ := Aside0.mk ((by rw [hg]; exact (below_size (by exact HB.out)) : w.heap.size ≤ gb661)); have n5_ := Aside0.mk ((by rw [hg]; exact Nat.ne_of_lt (blk_lt (g := gb660) (o := .cells #[.int .i64 a0_0, .slice A0_1 l0_1.length c0_1, .slice A0_2 l0_2.length c0_2] 31 (0, 0)) (by exact BK660.out)) : gb660 ≠ gb661)); have n6_ := Aside0.mk ((by rw [hg]; exact Nat.ne_of_gt (blk_lt (g := gb660) (o := .cells #[.int .i64 a0_0, .slice A0_1 l0_1.length c0_1, .slice A0_2 l0_2.length c0_2] 31 (0, 0)) (by exact BK660.out)) : gb661 ≠ gb660)); clear BK660; clear HB; have BK660 := n0_; have HB := n1_; have BK661 := n2_; have GW661 := n3_; have GE661 := n4_; have NB660_661 := n5_; have NB661_660 := n6_; clear n0_ n1_ n2_ n3_ n4_ n5_ n6_; clear hb hbox hg))
 have n0_ := Aside0.mk (blk_drew BK660.out)
 have n1_ := Aside0.mk (blk_drew BK661.out)
 have n2_ := Aside0.mk (below_drew1 HB.out)
 clear BK660
 clear BK661
 clear HB
 have BK660 := n0_
 have BK661 := n1_
 have HB := n2_
 clear n0_ n1_ n2_
 refine start_ (n := 8) (S := fun w' => w'.cell? ⟨gb660, 0, none⟩ = some (.int .i64 a0_0) ∧ w'.cell? ⟨gb660, 1, none⟩ = some (.slice A0_1 l0_1.length c0_1) ∧ w'.cell? ⟨gb660, 2, none⟩ = some (.slice A0_2 l0_2.length c0_2)) (ds := []) #[false, false, false, false, false, false, false, false] (by kernel_rfl) rfl rfl ⟨(blk_cell BK660.out 0).trans rfl, (blk_cell BK660.out 1).trans rfl, (blk_cell BK660.out 2).trans rfl⟩ (fun hHeld => ?_); refine with_tabW inquestref07_Read.tab1 inquestref07_Read.bits1 (fun HT_ HW_ => ?_)
 generalize w4.drew = w5 at BK660 BK661 HB hHeld ⊢
 refine pure_ (i := 0) (N := some 5) (v := ?_) (a' := ?_) #[true, false, false, false, false, false, false, false] rfl rfl (any_of HT_.out (by kernel_rfl)) (fun _ _ _ h => h) (Or.inl ⟨by rfl, ?_⟩) ?_ ?_
 rotate_left
 ·
  intro w'
  go_simp
  with_reducible rfl
 rotate_left
 ·
  simp only [Act.put, List.setIfInBounds_toArray, List.set_cons_zero, List.set_cons_succ, i64_w, i32_w]
  rfl
 refine pure_ (i := 2) (N := some 7) (v := ?_) (a' := ?_) #[true, false, true, false, false, false, false, false] rfl rfl (any_of HT_.out (by kernel_rfl)) (fun _ _ _ h => h) (Or.inl ⟨by rfl, ?_⟩) ?_ ?_
 rotate_left
 ·
  intro w'
  go_simp
  with_reducible rfl
 rotate_left
 ·
  simp only [Act.put, List.setIfInBounds_toArray, List.set_cons_zero, List.set_cons_succ, i64_w, i32_w]
  rfl
 refine take_ (i := 1) (N := some 6) (v := ?_) (a' := ?_) #[true, true, true, false, false, false, false, false] rfl rfl (take_ofW HT_.out HW_.out (by kernel_rfl)) (fun _ _ _ h => h) (Or.inl ⟨by rfl, ?_⟩) hHeld ?_ ?_
 rotate_left
 ·
  rintro w' ⟨s0, s1, s2⟩
  go_simp
  with_reducible rfl
 rotate_left
 ·
  simp only [Act.put, List.setIfInBounds_toArray, List.set_cons_zero, List.set_cons_succ, i64_w, i32_w]
  rfl
 refine take_ (i := 3) (N := some 8) (v := ?_) (a' := ?_) #[true, true, true, true, false, false, false, false] rfl rfl (take_ofW HT_.out HW_.out (by kernel_rfl)) (fun _ _ _ h => h) (Or.inl ⟨by rfl, ?_⟩) hHeld ?_ ?_
 rotate_left
 ·
  rintro w' ⟨s0, s1, s2⟩
  go_simp
  with_reducible rfl
 rotate_left
 ·
  simp only [Act.put, List.setIfInBounds_toArray, List.set_cons_zero, List.set_cons_succ, i64_w, i32_w]
  rfl
 refine join_ (σ := Value × Nat) 1 #[true, true, true, true, true, true, true, false] (fun s_ => [(9, s_.1), (3, .pointer (some ⟨s_.2, 0, none⟩)), (10, .agg #[.int .i64 a0_0, s_.1, .slice none 0 0])]) (fun s_ w' => (w'.cell? ⟨gb660, 0, none⟩ = some (.int .i64 a0_0) ∧ w'.cell? ⟨gb660, 1, none⟩ = some (.slice A0_1 l0_1.length c0_1) ∧ w'.cell? ⟨gb660, 2, none⟩ = some (.slice A0_2 l0_2.length c0_2)) ∧ (Kd.R (Kd.int .u8) 5 w' w.heap.size (fun _ => True) s_.1 t662) ∧ (w'.heap[gb660]? = some (.cells #[.int .i64 a0_0, .slice A0_1 l0_1.length c0_1, .slice A0_2 l0_2.length c0_2] 31 (0, 0))) ∧ (w'.heap[gb661]? = some (.cells #[.int .i64 0, .slice none 0 0, .slice none 0 0] 31 (0, 0))) ∧ (w'.heap[s_.2]? = some (.cells #[.int .i64 0, .slice none 0 0, .slice none 0 0] 31 (0, 0))) ∧ (w.heap.size ≤ s_.2) ∧ (w.heap.size ≤ s_.2) ∧ (gb660 ≠ s_.2) ∧ (s_.2 ≠ gb660) ∧ (gb661 ≠ s_.2) ∧ (s_.2 ≠ gb661) ∧ (Below w.heap.size w w')) ?_ ?_
 rotate_left
 ·
  intro hCont
  refine two_ (i := 4) (j := 6) (Ni := some 9) (Nj := some 3) #[true, true, true, true, true, false, false, false] #[true, true, true, true, false, false, true, false] rfl rfl rfl rfl (two_of HT_.out (by kernel_rfl)) (by decide) (by decide) (fun K hK => ?_) (fun K hK => ?_)
  ·
   skip
   refine goes_ Try.func110 (by kernel_rfl) rfl #[.slice A0_1 l0_1.length c0_1] (by rfl) rfl rfl (by (try simp only [List.map_toArray, List.map_cons, List.map_nil]); first | done | rfl | (simp only [List.length_drop, List.length_take]; rfl)) ?_
   with_reducible refine (inquestref07_zeroed.calls k _ _ l0_1 t662 _ ?side1 ?side2 A2.out).mono ?_
   (case side1 => exact (Kd.C_below HR0_1.out HB.out))
   (case side2 => exact HC0_1.out)
   rintro e w6 ⟨v663, rfl, ho0, hb⟩
   refine ⟨_, rfl, ?_⟩
   have n0_ := Aside0.mk (Kd.R_lower ho0 (below_size (by exact HB.out)))
   have n1_ := Aside0.mk (blk_below (g := gb660) (o := .cells #[.int .i64 a0_0, .slice A0_1 l0_1.length c0_1, .slice A0_2 l0_2.length c0_2] 31 (0, 0)) (by exact BK660.out) hb)
   have n2_ := Aside0.mk (blk_below (g := gb661) (o := .cells #[.int .i64 0, .slice none 0 0, .slice none 0 0] 31 (0, 0)) (by exact BK661.out) hb)
   have n3_ := Aside0.mk (below_step (by exact HB.out) hb)
   clear BK660
   clear BK661
   clear HB
   have HO664 := n0_
   have BK660 := n1_
   have BK661 := n2_
   have HB := n3_
   clear n0_ n1_ n2_ n3_
   (try clear hb)
   (try clear hb2)
   (try clear hk)
   (try clear hi)
   (try clear ho0)
   obtain ⟨Ao7, co7, eo7⟩ := Kd.R_slice HO664.out
   (first | subst eo7 | (injection eo7 with f1_ f2_ f3_; have f4_ := f1_.symm; have f5_ := f3_.symm; clear f1_ f2_ f3_; subst f4_; subst f5_))
   refine hK.out _ _ ⟨(blk_cell BK660.out 0).trans rfl, (blk_cell BK660.out 1).trans rfl, (blk_cell BK660.out 2).trans rfl⟩ (fun hHeld => ?_)
   clear hK K
   refine norm_ (a' := ?_) ?_ ?_
   rotate_left
   ·
    show Act.put _ (some 9) _ = _
    simp only [Act.put, List.setIfInBounds_toArray, List.set_cons_zero, List.set_cons_succ, i64_w, i32_w]
    rfl
   refine pure_ (i := 5) (N := some 10) (v := ?_) (a' := ?_) #[true, true, true, true, true, true, false, false] rfl rfl (any_of HT_.out (by kernel_rfl)) (fun _ _ _ h => h) (Or.inl ⟨by rfl, ?_⟩) ?_ ?_
   rotate_left
   ·
    intro w'
    go_simp
    with_reducible rfl
   rotate_left
   ·
    simp only [Act.put, List.setIfInBounds_toArray, List.set_cons_zero, List.set_cons_succ, i64_w, i32_w]
    rfl
   refine one_ (i := 6) (N := some 3) #[true, true, true, true, true, true, true, false] rfl rfl (one_of HT_.out (by kernel_rfl)) (by decide) (fun K hK => ?_)
   refine box_step ?hg (N := 3) ?hd (cs := #[.int .i64 0, .slice none 0 0, .slice none 0 0]) (t := 31) ?hr ?_; (case hd => rfl); (case hg => rfl); (case hr => first | (go_simp; done) | (go_simp; rfl))
   intro gb665 hg w8 hbox hb
   have n0_ := Aside0.mk (Kd.R_below (by exact HO664.out) hb)
   have n1_ := Aside0.mk (blk_below (g := gb660) (o := .cells #[.int .i64 a0_0, .slice A0_1 l0_1.length c0_1, .slice A0_2 l0_2.length c0_2] 31 (0, 0)) (by exact BK660.out) hb)
   have n2_ := Aside0.mk (blk_below (g := gb661) (o := .cells #[.int .i64 0, .slice none 0 0, .slice none 0 0] 31 (0, 0)) (by exact BK661.out) hb)
   have n3_ := Aside0.mk (below_step (by exact HB.out) hb)
   have n4_ := Aside0.mk (hbox)
   have n5_ := Aside0.mk ((by rw [hg]; exact (below_size (by exact HB.out)) : w.heap.size ≤ gb665))
   have n6_ := Aside0.mk ((by rw [hg]; exact (below_size (by exact HB.out)) : w.heap.size ≤ gb665))
   have n7_ := Aside0.mk ((by rw [hg]; exact Nat.ne_of_lt (blk_lt (g := gb660) (o := .cells #[.int .i64 a0_0, .slice A0_1 l0_1.length c0_1, .slice A0_2 l0_2.length c0_2] 31 (0, 0)) (by exact BK660.out)) : gb660 ≠ gb665))
   have n8_ := Aside0.mk ((by rw [hg]; exact Nat.ne_of_gt (blk_lt (g := gb660) (o := .cells #[.int .i64 a0_0, .slice A0_1 l0_1.length c0_1, .slice A0_2 l0_2.length c0_2] 31 (0, 0)) (by exact BK660.out)) : gb665 ≠ gb660))
   have n9_ := Aside0.mk ((by rw [hg]; exact Nat.ne_of_lt (blk_lt (g := gb661) (o := .cells #[.int .i64 0, .slice none 0 0, .slice none 0 0] 31 (0, 0)) (by exact BK661.out)) : gb661 ≠ gb665))
   have n10_ := Aside0.mk ((by rw [hg]; exact Nat.ne_of_gt (blk_lt (g := gb661) (o := .cells #[.int .i64 0, .slice none 0 0, .slice none 0 0] 31 (0, 0)) (by exact BK661.out)) : gb665 ≠ gb661))
   clear HO664
   clear BK660
   clear BK661
   clear HB
   have HO664 := n0_
   have BK660 := n1_
   have BK661 := n2_
   have HB := n3_
   have BK665 := n4_
   have GW665 := n5_
   have GE665 := n6_
   have NB660_665 := n7_
   have NB665_660 := n8_
   have NB661_665 := n9_
   have NB665_661 := n10_
   clear n0_ n1_ n2_ n3_ n4_ n5_ n6_ n7_ n8_ n9_ n10_
   clear hb hbox hg
   refine hK.out _ _ ⟨(blk_cell BK660.out 0).trans rfl, (blk_cell BK660.out 1).trans rfl, (blk_cell BK660.out 2).trans rfl⟩ (fun hHeld => ?_)
   clear hK K
   refine norm_ (a' := ?_) ?_ ?_
   rotate_left
   ·
    show Act.put _ (some 3) _ = _
    simp only [Act.put, List.setIfInBounds_toArray, List.set_cons_zero, List.set_cons_succ, i64_w, i32_w]
    rfl
   exact norm_ (by simp only [putAll, Act.put, List.setIfInBounds_toArray, List.set_cons_zero, List.set_cons_succ]) (hCont (.slice Ao7 t662.length co7, gb665) _ ⟨hHeld, (by exact HO664.out), (by exact BK660.out), (by exact BK661.out), (by exact BK665.out), GW665.out, GE665.out, NB660_665.out, NB665_660.out, NB661_665.out, NB665_661.out, (by exact HB.out)⟩)
  ·
   skip
   refine box_step ?hg (N := 3) ?hd (cs := #[.int .i64 0, .slice none 0 0, .slice none 0 0]) (t := 31) ?hr ?_; (case hd => rfl); (case hg => rfl); (case hr => first | (go_simp; done) | (go_simp; rfl))
   intro gb665 hg w6 hbox hb
   have n0_ := Aside0.mk (blk_below (g := gb660) (o := .cells #[.int .i64 a0_0, .slice A0_1 l0_1.length c0_1, .slice A0_2 l0_2.length c0_2] 31 (0, 0)) (by exact BK660.out) hb)
   have n1_ := Aside0.mk (blk_below (g := gb661) (o := .cells #[.int .i64 0, .slice none 0 0, .slice none 0 0] 31 (0, 0)) (by exact BK661.out) hb)
   have n2_ := Aside0.mk (below_step (by exact HB.out) hb)
   have n3_ := Aside0.mk (hbox)
   have n4_ := Aside0.mk ((by rw [hg]; exact (below_size (by exact HB.out)) : w.heap.size ≤ gb665))
   have n5_ := Aside0.mk ((by rw [hg]; exact (below_size (by exact HB.out)) : w.heap.size ≤ gb665))
   have n6_ := Aside0.mk ((by rw [hg]; exact Nat.ne_of_lt (blk_lt (g := gb660) (o := .cells #[.int .i64 a0_0, .slice A0_1 l0_1.length c0_1, .slice A0_2 l0_2.length c0_2] 31 (0, 0)) (by exact BK660.out)) : gb660 ≠ gb665))
   have n7_ := Aside0.mk ((by rw [hg]; exact Nat.ne_of_gt (blk_lt (g := gb660) (o := .cells #[.int .i64 a0_0, .slice A0_1 l0_1.length c0_1, .slice A0_2 l0_2.length c0_2] 31 (0, 0)) (by exact BK660.out)) : gb665 ≠ gb660))
   have n8_ := Aside0.mk ((by rw [hg]; exact Nat.ne_of_lt (blk_lt (g := gb661) (o := .cells #[.int .i64 0, .slice none 0 0, .slice none 0 0] 31 (0, 0)) (by exact BK661.out)) : gb661 ≠ gb665))
   have n9_ := Aside0.mk ((by rw [hg]; exact Nat.ne_of_gt (blk_lt (g := gb661) (o := .cells #[.int .i64 0, .slice none 0 0, .slice none 0 0] 31 (0, 0)) (by exact BK661.out)) : gb665 ≠ gb661))
   clear BK660
   clear BK661
   clear HB
   have BK660 := n0_
   have BK661 := n1_
   have HB := n2_
   have BK665 := n3_
   have GW665 := n4_
   have GE665 := n5_
   have NB660_665 := n6_
   have NB665_660 := n7_
   have NB661_665 := n8_
   have NB665_661 := n9_
   clear n0_ n1_ n2_ n3_ n4_ n5_ n6_ n7_ n8_ n9_
   clear hb hbox hg
   refine hK.out _ _ ⟨(blk_cell BK660.out 0).trans rfl, (blk_cell BK660.out 1).trans rfl, (blk_cell BK660.out 2).trans rfl⟩ (fun hHeld => ?_)
   clear hK K
   refine norm_ (a' := ?_) ?_ ?_
   rotate_left
   ·
    show Act.put _ (some 3) _ = _
    simp only [Act.put, List.setIfInBounds_toArray, List.set_cons_zero, List.set_cons_succ, i64_w, i32_w]
    rfl
   refine one_ (i := 4) (N := some 9) #[true, true, true, true, true, false, true, false] rfl rfl (one_of HT_.out (by kernel_rfl)) (by decide) (fun K hK => ?_)
   refine goes_ Try.func110 (by kernel_rfl) rfl #[.slice A0_1 l0_1.length c0_1] (by rfl) rfl rfl (by (try simp only [List.map_toArray, List.map_cons, List.map_nil]); first | done | rfl | (simp only [List.length_drop, List.length_take]; rfl)) ?_
   with_reducible refine (inquestref07_zeroed.calls k _ _ l0_1 t662 _ ?side1 ?side2 A2.out).mono ?_
   (case side1 => exact (Kd.C_below HR0_1.out HB.out))
   (case side2 => exact HC0_1.out)
   rintro e w7 ⟨v663, rfl, ho0, hb⟩
   refine ⟨_, rfl, ?_⟩
   have n0_ := Aside0.mk (Kd.R_lower ho0 (below_size (by exact HB.out)))
   have n1_ := Aside0.mk (blk_below (g := gb660) (o := .cells #[.int .i64 a0_0, .slice A0_1 l0_1.length c0_1, .slice A0_2 l0_2.length c0_2] 31 (0, 0)) (by exact BK660.out) hb)
   have n2_ := Aside0.mk (blk_below (g := gb661) (o := .cells #[.int .i64 0, .slice none 0 0, .slice none 0 0] 31 (0, 0)) (by exact BK661.out) hb)
   have n3_ := Aside0.mk (blk_below (g := gb665) (o := .cells #[.int .i64 0, .slice none 0 0, .slice none 0 0] 31 (0, 0)) (by exact BK665.out) hb)
   have n4_ := Aside0.mk (below_step (by exact HB.out) hb)
   clear BK660
   clear BK661
   clear BK665
   clear HB
   have HO664 := n0_
   have BK660 := n1_
   have BK661 := n2_
   have BK665 := n3_
   have HB := n4_
   clear n0_ n1_ n2_ n3_ n4_
   (try clear hb)
   (try clear hb2)
   (try clear hk)
   (try clear hi)
   (try clear ho0)
   obtain ⟨Ao8, co8, eo8⟩ := Kd.R_slice HO664.out
   (first | subst eo8 | (injection eo8 with f1_ f2_ f3_; have f4_ := f1_.symm; have f5_ := f3_.symm; clear f1_ f2_ f3_; subst f4_; subst f5_))
   refine hK.out _ _ ⟨(blk_cell BK660.out 0).trans rfl, (blk_cell BK660.out 1).trans rfl, (blk_cell BK660.out 2).trans rfl⟩ (fun hHeld => ?_)
   clear hK K
   refine norm_ (a' := ?_) ?_ ?_
   rotate_left
   ·
    show Act.put _ (some 9) _ = _
    simp only [Act.put, List.setIfInBounds_toArray, List.set_cons_zero, List.set_cons_succ, i64_w, i32_w]
    rfl
   refine pure_ (i := 5) (N := some 10) (v := ?_) (a' := ?_) #[true, true, true, true, true, true, true, false] rfl rfl (any_of HT_.out (by kernel_rfl)) (fun _ _ _ h => h) (Or.inl ⟨by rfl, ?_⟩) ?_ ?_
   rotate_left
   ·
    intro w'
    go_simp
    with_reducible rfl
   rotate_left
   ·
    simp only [Act.put, List.setIfInBounds_toArray, List.set_cons_zero, List.set_cons_succ, i64_w, i32_w]
    rfl
   exact norm_ (by simp only [putAll, Act.put, List.setIfInBounds_toArray, List.set_cons_zero, List.set_cons_succ]) (hCont (.slice Ao8 t662.length co8, gb665) _ ⟨hHeld, (by exact HO664.out), (by exact BK660.out), (by exact BK661.out), (by exact BK665.out), GW665.out, GE665.out, NB660_665.out, NB665_660.out, NB661_665.out, NB665_661.out, (by exact HB.out)⟩)
 rintro ⟨v663, gb665⟩ w9 ⟨hS_, h0_, h1_, h2_, h3_, h4_, h5_, h6_, h7_, h8_, h9_, h10_⟩
 have n0_ : Aside0 (Kd.R (Kd.int .u8) 5 w9 w.heap.size (fun _ => True) v663 t662) := ⟨h0_⟩
 have n1_ : Aside0 (w9.heap[gb660]? = some (.cells #[.int .i64 a0_0, .slice A0_1 l0_1.length c0_1, .slice A0_2 l0_2.length c0_2] 31 (0, 0))) := ⟨h1_⟩
 have n2_ : Aside0 (w9.heap[gb661]? = some (.cells #[.int .i64 0, .slice none 0 0, .slice none 0 0] 31 (0, 0))) := ⟨h2_⟩
 have n3_ : Aside0 (w9.heap[gb665]? = some (.cells #[.int .i64 0, .slice none 0 0, .slice none 0 0] 31 (0, 0))) := ⟨h3_⟩
 have n4_ : Aside0 (w.heap.size ≤ gb665) := ⟨h4_⟩
 have n5_ : Aside0 (w.heap.size ≤ gb665) := ⟨h5_⟩
 have n6_ : Aside0 (gb660 ≠ gb665) := ⟨h6_⟩
 have n7_ : Aside0 (gb665 ≠ gb660) := ⟨h7_⟩
 have n8_ : Aside0 (gb661 ≠ gb665) := ⟨h8_⟩
 have n9_ : Aside0 (gb665 ≠ gb661) := ⟨h9_⟩
 have n10_ : Aside0 (Below w.heap.size w w9) := ⟨h10_⟩
 clear BK660
 clear BK661
 clear HB
 clear h0_ h1_ h2_ h3_ h4_ h5_ h6_ h7_ h8_ h9_ h10_
 have HO664 := n0_
 have BK660 := n1_
 have BK661 := n2_
 have BK665 := n3_
 have GW665 := n4_
 have GE665 := n5_
 have NB660_665 := n6_
 have NB665_660 := n7_
 have NB661_665 := n8_
 have NB665_661 := n9_
 have HB := n10_
 clear n0_ n1_ n2_ n3_ n4_ n5_ n6_ n7_ n8_ n9_ n10_
 have hHeld : w9.cell? ⟨gb660, 0, none⟩ = some (.int .i64 a0_0) ∧ w9.cell? ⟨gb660, 1, none⟩ = some (.slice A0_1 l0_1.length c0_1) ∧ w9.cell? ⟨gb660, 2, none⟩ = some (.slice A0_2 l0_2.length c0_2) := hS_
 obtain ⟨Ao10, co10, eo10⟩ := Kd.R_slice HO664.out
 (first | subst eo10 | (injection eo10 with f1_ f2_ f3_; have f4_ := f1_.symm; have f5_ := f3_.symm; clear f1_ f2_ f3_; subst f4_; subst f5_))
 refine norm_ (a' := ?_) ?_ ?_
 rotate_left
 ·
  simp only [putAll, Act.put, List.setIfInBounds_toArray, List.set_cons_zero, List.set_cons_succ]
  rfl
 refine one_ (i := 7) (N := none) #[true, true, true, true, true, true, true, true] rfl rfl (one_of HT_.out (by kernel_rfl)) (by decide) (fun K hK => ?_)
 have hs11 : w9.cell? ⟨gb665, 0, none⟩ = some (.int .i64 0) := (blk_cell BK665.out 0).trans rfl
 have hfs11 := blk_frozen BK665.out 0
 have hns11_0 := NB660_665.out
 have hns11_1 := NB661_665.out
 have hms11_0 := NB665_660.out
 have hms11_1 := NB665_661.out
 have hs12 : w9.cell? ⟨gb665, 1, none⟩ = some (.slice none 0 0) := (blk_cell BK665.out 1).trans rfl
 have hfs12 := blk_frozen BK665.out 1
 have hns12_0 := NB660_665.out
 have hns12_1 := NB661_665.out
 have hms12_0 := NB665_660.out
 have hms12_1 := NB665_661.out
 have hs13 : w9.cell? ⟨gb665, 2, none⟩ = some (.slice none 0 0) := (blk_cell BK665.out 2).trans rfl
 have hfs13 := blk_frozen BK665.out 2
 have hns13_0 := NB660_665.out
 have hns13_1 := NB661_665.out
 have hms13_0 := NB665_660.out
 have hms13_1 := NB665_661.out
 refine skip_ (w1 := ?_) (by rfl) rfl ?_ ?_
 rotate_left
 ·
  go_simp
  rfl
 refine hK.out _ _ ⟨((cell_far (p := ⟨gb665, _, none⟩) NB660_665.out _).trans (((cell_far (p := ⟨gb665, _, none⟩) NB660_665.out _).trans (((cell_far (p := ⟨gb665, _, none⟩) NB660_665.out _).trans (hHeld.1)))))), ((cell_far (p := ⟨gb665, _, none⟩) NB660_665.out _).trans (((cell_far (p := ⟨gb665, _, none⟩) NB660_665.out _).trans (((cell_far (p := ⟨gb665, _, none⟩) NB660_665.out _).trans (hHeld.2.1)))))), ((cell_far (p := ⟨gb665, _, none⟩) NB660_665.out _).trans (((cell_far (p := ⟨gb665, _, none⟩) NB660_665.out _).trans (((cell_far (p := ⟨gb665, _, none⟩) NB660_665.out _).trans (hHeld.2.2))))))⟩ (fun hHeld => ?_)
 clear hK K
 refine done_ (done_of HT_.out (by kernel_rfl)) ?_
 try go_wp2
 go_loopg [4] k (fun kq v4 w' => ∃ (x4_1 : Int) (x666002_1 : List (List Int)) (u666002 : Value), v4 = .int .i64 x4_1 ∧ Aside0 (inquestref07_Read.l0 kq x4_1 a0_0 l0_1 l0_2 a0_0 t662 x666002_1 = some (r1, r2, r3)) ∧ Aside0 (kq ≤ k) ∧ Aside0 (Kd.R (Kd.int .u8) 5 w' w.heap.size (fun _ => True) (.slice Ao10 t662.length co10) t662) ∧ Aside0 (Kd.S (Kd.slice 5 (Kd.int .u8)) 28 w' w.heap.size (fun k_ => some k_ ≠ ((.slice Ao10 t662.length co10) : Value).ownBlock) u666002 x666002_1) ∧ Aside0 (w'.heap[gb660]? = some (.cells #[.int .i64 a0_0, (.slice A0_1 l0_1.length c0_1), (.slice A0_2 l0_2.length c0_2)] 31 (0, 0))) ∧ Aside0 (w'.heap[gb661]? = some (.cells #[.int .i64 0, (.slice none 0 0), (.slice none 0 0)] 31 (0, 0))) ∧ Aside0 (w'.heap[gb665]? = some (.cells #[.int .i64 a0_0, (.slice Ao10 t662.length co10), u666002] 31 (0, 0))) ∧ Aside0 (Below w.heap.size w w'))
 case atStart => exact ⟨(0), (([] : List (List Int))), (.slice none 0 0), (by first | rfl | (simp; done) | (simp [*]; done)), H', ⟨Nat.le_refl _⟩, ⟨by (with_reducible repeat (first | apply Kd.R_alloc | apply Kd.R_drewN | apply Kd.R_drew)); exact Kd.R_mono (Kd.R_far (p := ⟨gb665, 2, none⟩) (Kd.R_far (p := ⟨gb665, 1, none⟩) (Kd.R_far (p := ⟨gb665, 0, none⟩) (Kd.R_types HO664.out BK665.out (by decide)) (fun _ hk => hk.2) (.int .i64 a0_0)) (fun _ hk => hk.2) (.slice Ao10 t662.length co10)) (fun _ hk => hk.2) (.slice none 0 0)) (fun _ hk => trivial)⟩, ⟨by first | exact Kd.S_nil _ _ _ _ _ | exact Kd.N_nil _ _ _ _ _ | exact Kd.V_nil _ _ _ _ _ | exact Kd.Q_nil _ _ _ _ _ | exact Kd.R_nil _ _ _ _ _⟩, ⟨by (with_reducible repeat (first | refine blk_drewN ?_ _ | refine blk_drew ?_ | refine blk_alloc ?_ _)); refine blk_far ?_ NB660_665.out _; (with_reducible repeat (first | refine blk_drewN ?_ _ | refine blk_drew ?_ | refine blk_alloc ?_ _)); refine blk_far ?_ NB660_665.out _; (with_reducible repeat (first | refine blk_drewN ?_ _ | refine blk_drew ?_ | refine blk_alloc ?_ _)); refine blk_far ?_ NB660_665.out _; (with_reducible repeat (first | refine blk_drewN ?_ _ | refine blk_drew ?_ | refine blk_alloc ?_ _)); exact BK660.out⟩, ⟨by (with_reducible repeat (first | refine blk_drewN ?_ _ | refine blk_drew ?_ | refine blk_alloc ?_ _)); refine blk_far ?_ NB661_665.out _; (with_reducible repeat (first | refine blk_drewN ?_ _ | refine blk_drew ?_ | refine blk_alloc ?_ _)); refine blk_far ?_ NB661_665.out _; (with_reducible repeat (first | refine blk_drewN ?_ _ | refine blk_drew ?_ | refine blk_alloc ?_ _)); refine blk_far ?_ NB661_665.out _; (with_reducible repeat (first | refine blk_drewN ?_ _ | refine blk_drew ?_ | refine blk_alloc ?_ _)); exact BK661.out⟩, ⟨by (with_reducible repeat (first | refine blk_drewN ?_ _ | refine blk_drew ?_ | refine blk_alloc ?_ _)); refine blk_put (cs := #[.int .i64 a0_0, .slice Ao10 t662.length co10, .slice none 0 0]) ?_ 2 _ rfl; (with_reducible repeat (first | refine blk_drewN ?_ _ | refine blk_drew ?_ | refine blk_alloc ?_ _)); refine blk_put (cs := #[.int .i64 a0_0, .slice none 0 0, .slice none 0 0]) ?_ 1 _ rfl; (with_reducible repeat (first | refine blk_drewN ?_ _ | refine blk_drew ?_ | refine blk_alloc ?_ _)); refine blk_put (cs := #[.int .i64 0, .slice none 0 0, .slice none 0 0]) ?_ 0 _ rfl; (with_reducible repeat (first | refine blk_drewN ?_ _ | refine blk_drew ?_ | refine blk_alloc ?_ _)); exact BK665.out⟩, ⟨by repeat (first | (with_reducible first | exact HB.out | apply below_alloc | apply pw_below_drewN | apply below_drew1 | refine below_set ?_ GE660.out | refine below_set ?_ GE661.out | refine below_set ?_ GE665.out) | exact HB.out)⟩⟩
 case round =>
  clear H'
  try clear c1
  try clear p2
  try clear c5
  try clear c11
  obtain ⟨x4_1, x666002_1, u666002, rfl, HA, HK1, HO_666001, HO_666002, BK660, BK661, BK665, HB⟩ := hrel
  cases gk with
  | zero => exact absurd HA.out (by simp [inquestref07_Read.l0])
  | succ k1 =>
   have H := HA.out
   clear HA
   simp only [inquestref07_Read.l0] at H
   by_cases c14 : x4_1 < (l0_2.length : Int)
   ·
    rw [if_pos c14] at H
    have c14b0 : decide (x4_1 < (l0_2.length : Int)) = true := decide_eq_true c14
    clear c14
    by_cases c15 : 0 ≤ x4_1
    ·
     rw [if_pos c15] at H
     have c15b0 : decide (0 ≤ x4_1) = true := decide_eq_true c15
     clear c15
     replace H := Option.bind_eq_some_iff.mp H
     obtain ⟨t667, A160, H⟩ := H
     replace H : (if x666002_1.length < 5864062014805 then (inquestref07_Read.l0 k1 (wrap64 (x4_1 + 1)) a0_0 l0_1 l0_2 a0_0 t662 (x666002_1 ++ [t667])) else (none)) = some (r1, r2, r3) := H
     have A16 := Aside0.mk A160
     clear A160
     by_cases c17 : x666002_1.length < 5864062014805
     ·
      rw [if_pos c17] at H
      have LMc17 := Aside0.mk c17
      clear c17
      obtain ⟨y670, hy670⟩ : ∃ y_ : List (List Int), y_ = (x666002_1 ++ [t667]) := ⟨_, rfl⟩
      replace H : (inquestref07_Read.l0 k1 (wrap64 (x4_1 + 1)) a0_0 l0_1 l0_2 a0_0 t662 y670) = some (r1, r2, r3) := by first | (rw [hy670]; with_reducible exact H) | (have H2_ := (Option.bind_some _ _).symm.trans H; rw [hy670]; with_reducible exact H2_) | (have H2_ := (Option.bind_some _ _).symm.trans H; with_reducible exact H2_) | with_reducible exact H | (rw [hy670]; exact H) | exact H
      have Ny670 := Aside0.mk hy670
      clear hy670
      have H' := Aside0.mk H
      clear H
      have hnb18 := NB660_661.out
      have hnc18 := NB661_660.out
      have hnb19 := NB660_665.out
      have hnc19 := NB665_660.out
      have hcz20_0 : wr.cell? ⟨gb660, 0, none⟩ = some (.int .i64 a0_0) := (blk_cell BK660.out 0).trans rfl
      have hcz20_1 : wr.cell? ⟨gb660, 1, none⟩ = some (.slice A0_1 l0_1.length c0_1) := (blk_cell BK660.out 1).trans rfl
      have hcz20_2 : wr.cell? ⟨gb660, 2, none⟩ = some (.slice A0_2 l0_2.length c0_2) := (blk_cell BK660.out 2).trans rfl
      have hfz20_0 := blk_frozen BK660.out 0
      have hfz20_1 := blk_frozen BK660.out 1
      have hfz20_2 := blk_frozen BK660.out 2
      try go_wp2
      have n0_ := Aside0.mk (Kd.R_drew HO_666001.out)
      have n1_ := Aside0.mk (Kd.S_drew HO_666002.out)
      have n2_ := Aside0.mk (blk_drew BK660.out)
      have n3_ := Aside0.mk (blk_drew BK661.out)
      have n4_ := Aside0.mk (blk_drew BK665.out)
      have n5_ := Aside0.mk (below_drew1 HB.out)
      clear HO_666001
      clear HO_666002
      clear BK660
      clear BK661
      clear BK665
      clear HB
      have HO_666001 := n0_
      have HO_666002 := n1_
      have BK660 := n2_
      have BK661 := n3_
      have BK665 := n4_
      have HB := n5_
      clear n0_ n1_ n2_ n3_ n4_ n5_
      have p666 : 0 ≤ (x4_1 : Int) := of_decide_eq_true (by first | (with_reducible assumption) | assumption)
      have q666 : x4_1 < (l0_2.length : Int) := of_decide_eq_true (by first | (with_reducible assumption) | assumption)
      obtain ⟨ad666, A666_0, c666_0, e666, hx666_0, hl666_0, hi666_0⟩ := at_L9 HR0_2.out x4_1 p666 q666
      have hw666_0 := hx666_0
      cases e666
      replace hx666_0 := (HB.out.cell (World.block_lt_of_cell? w _ hx666_0)).trans hx666_0
      have HR666_0 := Aside0.mk hi666_0
      have HC666_0 := Aside0.mk hl666_0
      clear hi666_0 hl666_0
      replace p666 := eq_true p666
      replace q666 := eq_true q666
      refine start_ (n := 12) (S := fun w' => w'.cell? ⟨gb665, 0, none⟩ = some (.int .i64 a0_0) ∧ w'.cell? ⟨gb665, 1, none⟩ = some (.slice Ao10 t662.length co10) ∧ w'.cell? ⟨gb665, 2, none⟩ = some (u666002) ∧ w'.cell? ⟨gb660, 0, none⟩ = some (.int .i64 a0_0) ∧ w'.cell? ⟨gb660, 1, none⟩ = some (.slice A0_1 l0_1.length c0_1) ∧ w'.cell? ⟨gb660, 2, none⟩ = some (.slice (some ad666) l0_2.length c0_2) ∧ w'.cell? (ad666.add (x4_1).toNat) = some (.slice A666_0 (rd_L9 l0_2 x4_1).length c666_0)) (ds := [11]) #[false, false, false, false, false, false, false, false, false, false, false, false] (by kernel_rfl) rfl rfl ⟨(blk_cell BK665.out 0).trans rfl, (blk_cell BK665.out 1).trans rfl, (blk_cell BK665.out 2).trans rfl, (blk_cell BK660.out 0).trans rfl, (blk_cell BK660.out 1).trans rfl, (blk_cell BK660.out 2).trans rfl, ((HB.out.cell (World.block_lt_of_cell? w _ hw666_0)).trans hw666_0)⟩ (fun hHeld => ?_); refine with_tabW inquestref07_Read.tab5 inquestref07_Read.bits5 (fun HT_ HW_ => ?_)
      generalize wr.drew = w21 at HO_666001 HO_666002 BK660 BK661 BK665 HB HR666_0 hx666_0 hHeld ⊢
      refine pure_ (i := 0) (N := some 18) (v := ?_) (a' := ?_) #[true, false, false, false, false, false, false, false, false, false, false, false] rfl rfl (any_of HT_.out (by kernel_rfl)) (fun _ _ _ h => h) (Or.inl ⟨by rfl, ?_⟩) ?_ ?_
      rotate_left
      ·
       intro w'
       go_simp
       with_reducible rfl
      rotate_left
      ·
       simp only [Act.put, List.setIfInBounds_toArray, List.set_cons_zero, List.set_cons_succ, i64_w, i32_w]
       rfl
      refine pure_ (i := 2) (N := some 20) (v := ?_) (a' := ?_) #[true, false, true, false, false, false, false, false, false, false, false, false] rfl rfl (any_of HT_.out (by kernel_rfl)) (fun _ _ _ h => h) (Or.inl ⟨by rfl, ?_⟩) ?_ ?_
      rotate_left
      ·
       intro w'
       go_simp
       with_reducible rfl
      rotate_left
      ·
       simp only [Act.put, List.setIfInBounds_toArray, List.set_cons_zero, List.set_cons_succ, i64_w, i32_w]
       rfl
      refine pure_ (i := 4) (N := some 22) (v := ?_) (a' := ?_) #[true, false, true, false, true, false, false, false, false, false, false, false] rfl rfl (any_of HT_.out (by kernel_rfl)) (fun _ _ _ h => h) (Or.inl ⟨by rfl, ?_⟩) ?_ ?_
      rotate_left
      ·
       intro w'
       go_simp
       with_reducible rfl
      rotate_left
      ·
       simp only [Act.put, List.setIfInBounds_toArray, List.set_cons_zero, List.set_cons_succ, i64_w, i32_w]
       rfl
      refine take_ (i := 1) (N := some 19) (v := ?_) (a' := ?_) #[true, true, true, false, true, false, false, false, false, false, false, false] rfl rfl (take_ofW HT_.out HW_.out (by kernel_rfl)) (fun _ _ _ h => h) (Or.inl ⟨by rfl, ?_⟩) hHeld ?_ ?_
      rotate_left
      ·
       rintro w' ⟨s0, s1, s2, s3, s4, s5, s6⟩
       go_simp
       with_reducible rfl
      rotate_left
      ·
       simp only [Act.put, List.setIfInBounds_toArray, List.set_cons_zero, List.set_cons_succ, i64_w, i32_w]
       rfl
      refine take_ (i := 3) (N := some 21) (v := ?_) (a' := ?_) #[true, true, true, true, true, false, false, false, false, false, false, false] rfl rfl (take_ofW HT_.out HW_.out (by kernel_rfl)) (fun _ _ _ h => h) (Or.inl ⟨by rfl, ?_⟩) hHeld ?_ ?_
      rotate_left
      ·
       rintro w' ⟨s0, s1, s2, s3, s4, s5, s6⟩
       go_simp
       with_reducible rfl
      rotate_left
      ·
       simp only [Act.put, List.setIfInBounds_toArray, List.set_cons_zero, List.set_cons_succ, i64_w, i32_w]
       rfl
      refine pure_ (i := 5) (N := some 23) (v := ?_) (a' := ?_) #[true, true, true, true, true, true, false, false, false, false, false, false] rfl rfl (any_of HT_.out (by kernel_rfl)) (fun _ _ _ h => h) (Or.inl ⟨by rfl, ?_⟩) ?_ ?_
      rotate_left
      ·
       intro w'
       go_simp
       with_reducible rfl
      rotate_left
      ·
       simp only [Act.put, List.setIfInBounds_toArray, List.set_cons_zero, List.set_cons_succ, i64_w, i32_w]
       rfl
      refine take_ (i := 6) (N := some 24) (v := ?_) (a' := ?_) #[true, true, true, true, true, true, true, false, false, false, false, false] rfl rfl (take_ofW HT_.out HW_.out (by kernel_rfl)) (fun _ _ _ h => h) (Or.inl ⟨by rfl, ?_⟩) hHeld ?_ ?_
      rotate_left
      ·
       rintro w' ⟨s0, s1, s2, s3, s4, s5, s6⟩
       go_simp
       with_reducible rfl
      rotate_left
      ·
       simp only [Act.put, List.setIfInBounds_toArray, List.set_cons_zero, List.set_cons_succ, i64_w, i32_w]
       rfl
      refine one_ (i := 7) (N := some 25) #[true, true, true, true, true, true, true, true, false, false, false, false] rfl rfl (one_of HT_.out (by kernel_rfl)) (by decide) (fun K hK => ?_)
      refine goes_ Try.func110 (by kernel_rfl) rfl #[.slice A666_0 (rd_L9 l0_2 x4_1).length c666_0] (by rfl) rfl rfl (by (try simp only [List.map_toArray, List.map_cons, List.map_nil]); first | done | rfl | (simp only [List.length_drop, List.length_take]; rfl)) ?_
      with_reducible refine (inquestref07_zeroed.calls k1 _ _ (rd_L9 l0_2 x4_1) t667 _ ?side1 ?side2 A16.out).mono ?_
      (case side1 => exact (Kd.C_below HR666_0.out HB.out))
      (case side2 => exact HC666_0.out)
      rintro e w22 ⟨v668, rfl, ho0, hb⟩
      refine ⟨_, rfl, ?_⟩
      have n0_ := Aside0.mk (Kd.R_elder' (by exact HO_666001.out) (Kd.R_base ho0) hb)
      have n1_ := Aside0.mk (Kd.S_elder' (by exact HO_666002.out) (Kd.R_base ho0) hb)
      have n2_ := Aside0.mk (Kd.R_lower (Kd.R_new' ho0 (Kd.R_lt (by exact HO_666001.out))) (below_size (by exact HB.out)))
      have n3_ := Aside0.mk (blk_below (g := gb660) (o := .cells #[.int .i64 a0_0, .slice A0_1 l0_1.length c0_1, .slice (some ad666) l0_2.length c0_2] 31 (0, 0)) (by exact BK660.out) hb)
      have n4_ := Aside0.mk (blk_below (g := gb661) (o := .cells #[.int .i64 0, .slice none 0 0, .slice none 0 0] 31 (0, 0)) (by exact BK661.out) hb)
      have n5_ := Aside0.mk (blk_below (g := gb665) (o := .cells #[.int .i64 a0_0, .slice Ao10 t662.length co10, u666002] 31 (0, 0)) (by exact BK665.out) hb)
      have n6_ := Aside0.mk (below_step (by exact HB.out) hb)
      clear HO_666001
      clear HO_666002
      clear BK660
      clear BK661
      clear BK665
      clear HB
      have HO_666001 := n0_
      have HO_666002 := n1_
      have HO669 := n2_
      have BK660 := n3_
      have BK661 := n4_
      have BK665 := n5_
      have HB := n6_
      clear n0_ n1_ n2_ n3_ n4_ n5_ n6_
      (try clear hb)
      (try clear hb2)
      (try clear hk)
      (try clear hi)
      (try clear ho0)
      obtain ⟨Ao24, co24, eo24⟩ := Kd.R_slice HO669.out
      (first | subst eo24 | (injection eo24 with f1_ f2_ f3_; have f4_ := f1_.symm; have f5_ := f3_.symm; clear f1_ f2_ f3_; subst f4_; subst f5_))
      refine hK.out _ _ ⟨(blk_cell BK665.out 0).trans rfl, (blk_cell BK665.out 1).trans rfl, (blk_cell BK665.out 2).trans rfl, (blk_cell BK660.out 0).trans rfl, (blk_cell BK660.out 1).trans rfl, (blk_cell BK660.out 2).trans rfl, ((HB.out.cell (World.block_lt_of_cell? w _ hw666_0)).trans hw666_0)⟩ (fun hHeld => ?_)
      clear hK K
      refine norm_ (a' := ?_) ?_ ?_
      rotate_left
      ·
       show Act.put _ (some 25) _ = _
       simp only [Act.put, List.setIfInBounds_toArray, List.set_cons_zero, List.set_cons_succ, i64_w, i32_w]
       rfl
      refine one_ (i := 8) (N := some 26) #[true, true, true, true, true, true, true, true, true, false, false, false] rfl rfl (one_of HT_.out (by kernel_rfl)) (by decide) (fun K hK => ?_)
      refine value_ (w1 := ?_) (v := ?_) (by rfl) rfl ?_ ?_
      rotate_left 2
      ·
       go_simp
       constructor
       · rfl
       · rfl
      refine hK.out _ _ ⟨(blk_cell (blk_alloc BK665.out _) 0).trans rfl, (blk_cell (blk_alloc BK665.out _) 1).trans rfl, (blk_cell (blk_alloc BK665.out _) 2).trans rfl, (blk_cell (blk_alloc BK660.out _) 0).trans rfl, (blk_cell (blk_alloc BK660.out _) 1).trans rfl, (blk_cell (blk_alloc BK660.out _) 2).trans rfl, (World.cell?_alloc_lt _ _ _ (World.block_lt_of_cell? _ _ (((HB.out.cell (World.block_lt_of_cell? w _ hw666_0)).trans hw666_0)))).trans (((HB.out.cell (World.block_lt_of_cell? w _ hw666_0)).trans hw666_0))⟩ (fun hHeld => ?_)
      clear hK K
      refine norm_ (a' := ?_) ?_ ?_
      rotate_left
      ·
       show Act.put _ (some 26) _ = _
       simp only [Act.put, List.setIfInBounds_toArray, List.set_cons_zero, List.set_cons_succ, i64_w, i32_w]
       rfl
      refine one_ (i := 9) (N := some 27) #[true, true, true, true, true, true, true, true, true, true, false, false] rfl rfl (one_of HT_.out (by kernel_rfl)) (by decide) (fun K hK => ?_)
      refine Kd.S_append_step (Kd.slice 5 (Kd.int .u8)) (w0 := w) w.heap.size (by rfl) (.tmp 19) (.tmp 26) 29 28 (.slice none 0 0) 24 rfl Try.underlying29 info28 rfl (by decide) (by omega) u666002 x666002_1 t667 [.slice Ao24 t667.length co24] (fun k_ => some k_ ≠ (.slice Ao10 t662.length co10 : Value).ownBlock) (fun k_ => some k_ = (.slice Ao24 t667.length co24 : Value).ownBlock) rfl rfl ?aP (fun k_ hk_ => ((Kd.R_mono (ok' := fun k_ => ((fun k_ => some k_ ≠ (.slice Ao10 t662.length co10 : Value).ownBlock)) k_ ∧ some k_ ≠ (u666002 : Value).ownBlock) (Kd.R_apart' (HO669.out) (Kd.S_typed HO_666002.out) (by decide)) (fun k_ hk => ⟨hk.1.2, hk.2⟩))).1 k_ hk_.symm) ?aF ?aO ?aB ?aS ?aL ?_
      (case aP => exact Kd.M_row (Kd.R_mono (Kd.R_tight rfl (Kd.R_mono (ok' := fun k_ => ((fun k_ => some k_ ≠ (.slice Ao10 t662.length co10 : Value).ownBlock)) k_ ∧ some k_ ≠ (u666002 : Value).ownBlock) (Kd.R_apart' (HO669.out) (Kd.S_typed HO_666002.out) (by decide)) (fun k_ hk => ⟨hk.1.2, hk.2⟩))) (fun _ h_ => h_)))
      (case aB => exact (by exact HB.out))
      (case aF => exact (fun k_ hk => Kd.fresh' (Kd.R_lt (by exact HO_666001.out)) k_ hk))
      (case aO => exact (by exact Kd.S_mono HO_666002.out (fun k_ hk => ⟨hk.1, fun e_ => hk.2 e_⟩)))
      (case aS => exact (below_size (by exact HB.out)))
      (case aL => have := LMc17.out; omega)
      intro v671 w23 ho hb hg hat
      rw [← Ny670.out] at ho
      have n0_ := Aside0.mk (Kd.R_over' (by exact HO_666001.out) (Kd.S_typed (by exact HO_666002.out)) (by decide) hg)
      have n1_ := Aside0.mk (blk_grown (g := gb660) (o := .cells #[.int .i64 a0_0, .slice A0_1 l0_1.length c0_1, .slice (some ad666) l0_2.length c0_2] 31 (0, 0)) (by exact BK660.out) hg (Kd.S_ne HO_666002.out BK660.out (by decide)))
      have n2_ := Aside0.mk (blk_grown (g := gb661) (o := .cells #[.int .i64 0, .slice none 0 0, .slice none 0 0] 31 (0, 0)) (by exact BK661.out) hg (Kd.S_ne HO_666002.out BK661.out (by decide)))
      have n3_ := Aside0.mk (blk_grown (g := gb665) (o := .cells #[.int .i64 a0_0, .slice Ao10 t662.length co10, u666002] 31 (0, 0)) (by exact BK665.out) hg (Kd.S_ne HO_666002.out BK665.out (by decide)))
      have n4_ := Aside0.mk (hb)
      have n5_ := Aside0.mk (ho)
      clear HO_666001
      clear BK660
      clear BK661
      clear BK665
      clear HB
      clear HO_666002
      clear HO669
      have HO_666001 := n0_
      have BK660 := n1_
      have BK661 := n2_
      have BK665 := n3_
      have HB := n4_
      have HO672 := n5_
      clear n0_ n1_ n2_ n3_ n4_ n5_
      clear ho hb hg hat
      obtain ⟨Ao25, co25, eo25⟩ := Kd.S_slice HO672.out
      (first | subst eo25 | (injection eo25 with f1_ f2_ f3_; have f4_ := f1_.symm; have f5_ := f3_.symm; clear f1_ f2_ f3_; subst f4_; subst f5_))
      refine hK.out _ _ ⟨(blk_cell BK665.out 0).trans rfl, (blk_cell BK665.out 1).trans rfl, (blk_cell BK665.out 2).trans rfl, (blk_cell BK660.out 0).trans rfl, (blk_cell BK660.out 1).trans rfl, (blk_cell BK660.out 2).trans rfl, ((HB.out.cell (World.block_lt_of_cell? w _ hw666_0)).trans hw666_0)⟩ (fun hHeld => ?_)
      clear hK K
      refine norm_ (a' := ?_) ?_ ?_
      rotate_left
      ·
       show Act.put _ (some 27) _ = _
       simp only [Act.put, List.setIfInBounds_toArray, List.set_cons_zero, List.set_cons_succ, i64_w, i32_w]
       rfl
      refine pure_ (i := 10) (N := some 28) (v := ?_) (a' := ?_) #[true, true, true, true, true, true, true, true, true, true, true, false] rfl rfl (any_of HT_.out (by kernel_rfl)) (fun _ _ _ h => h) (Or.inl ⟨by rfl, ?_⟩) ?_ ?_
      rotate_left
      ·
       intro w'
       go_simp
       with_reducible rfl
      rotate_left
      ·
       simp only [Act.put, List.setIfInBounds_toArray, List.set_cons_zero, List.set_cons_succ, i64_w, i32_w]
       rfl
      refine last_ (i := 11) (N := none) #[true, true, true, true, true, true, true, true, true, true, true, true] rfl rfl (one_of HT_.out (by kernel_rfl)) (by decide) (fun K hK => ?_)
      have hs26 : w23.cell? ⟨gb665, 2, none⟩ = some (u666002) := (blk_cell BK665.out 2).trans rfl
      have hfs26 := blk_frozen BK665.out 2
      have hns26_0 := NB660_665.out
      have hns26_1 := NB661_665.out
      have hms26_0 := NB665_660.out
      have hms26_1 := NB665_661.out
      refine skip_ (w1 := ?_) (by rfl) rfl ?_ ?_
      rotate_left
      ·
       go_simp
       rfl
      refine hK.out _ _ ?_
      clear hK K
      refine done_ (done_of HT_.out (by kernel_rfl)) ?_
      try go_wp2
      go_roundg k1
      case measure => have := HK1.out; omega
      case rel => exact ⟨(wrap64 (x4_1 + 1)), (y670), (.slice Ao25 y670.length co25), (by first | rfl | (simp; done) | (simp [*]; done)), H', ⟨by have := HK1.out; omega⟩, ⟨by (with_reducible repeat (first | apply Kd.R_alloc | apply Kd.R_drewN | apply Kd.R_drew)); exact Kd.R_mono (Kd.R_far (p := ⟨gb665, 2, none⟩) (Kd.R_types HO_666001.out BK665.out (by decide)) (fun _ hk => hk.2) (.slice Ao25 y670.length co25)) (fun _ hk => trivial)⟩, ⟨by (with_reducible repeat (first | apply Kd.S_alloc | apply Kd.S_drewN | apply Kd.S_drew)); exact Kd.S_mono (Kd.S_far (p := ⟨gb665, 2, none⟩) (Kd.S_types HO672.out BK665.out (by decide)) (fun _ hk => hk.2) (.slice Ao25 y670.length co25)) (fun _ hk => hk.1)⟩, ⟨by (with_reducible repeat (first | refine blk_drewN ?_ _ | refine blk_drew ?_ | refine blk_alloc ?_ _)); refine blk_far ?_ NB660_665.out _; (with_reducible repeat (first | refine blk_drewN ?_ _ | refine blk_drew ?_ | refine blk_alloc ?_ _)); exact BK660.out⟩, ⟨by (with_reducible repeat (first | refine blk_drewN ?_ _ | refine blk_drew ?_ | refine blk_alloc ?_ _)); refine blk_far ?_ NB661_665.out _; (with_reducible repeat (first | refine blk_drewN ?_ _ | refine blk_drew ?_ | refine blk_alloc ?_ _)); exact BK661.out⟩, ⟨by (with_reducible repeat (first | refine blk_drewN ?_ _ | refine blk_drew ?_ | refine blk_alloc ?_ _)); refine blk_put (cs := #[.int .i64 a0_0, .slice Ao10 t662.length co10, u666002]) ?_ 2 _ rfl; (with_reducible repeat (first | refine blk_drewN ?_ _ | refine blk_drew ?_ | refine blk_alloc ?_ _)); exact BK665.out⟩, ⟨by repeat (first | (with_reducible first | exact HB.out | apply below_alloc | apply pw_below_drewN | apply below_drew1 | refine below_set ?_ GE660.out | refine below_set ?_ GE661.out | refine below_set ?_ GE665.out) | exact HB.out)⟩⟩
     ·
      rw [if_neg c17] at H
      exact absurd H (by simp)
    ·
     rw [if_neg c15] at H
     exact absurd H (by simp)
   ·
    rw [if_neg c14] at H
    have c14b0 : decide (x4_1 < (l0_2.length : Int)) = false := decide_eq_false c14
    clear c14
    simp only [Option.some.injEq, Prod.mk.injEq] at H
    obtain ⟨rfl, rfl, rfl⟩ := H
    have hnb27 := NB660_661.out
    have hnc27 := NB661_660.out
    have hnb28 := NB660_665.out
    have hnc28 := NB665_660.out
    have hcz29_0 : wr.cell? ⟨gb660, 0, none⟩ = some (.int .i64 a0_0) := (blk_cell BK660.out 0).trans rfl
    have hcz29_1 : wr.cell? ⟨gb660, 1, none⟩ = some (.slice A0_1 l0_1.length c0_1) := (blk_cell BK660.out 1).trans rfl
    have hcz29_2 : wr.cell? ⟨gb660, 2, none⟩ = some (.slice A0_2 l0_2.length c0_2) := (blk_cell BK660.out 2).trans rfl
    have hfz29_0 := blk_frozen BK660.out 0
    have hfz29_1 := blk_frozen BK660.out 1
    have hfz29_2 := blk_frozen BK660.out 2
    have hnb30 := NB665_661.out
    have hnc30 := NB661_665.out
    have hcz31_0 : wr.cell? ⟨gb665, 0, none⟩ = some (.int .i64 a0_0) := (blk_cell BK665.out 0).trans rfl
    have hcz31_1 : wr.cell? ⟨gb665, 1, none⟩ = some (.slice Ao10 t662.length co10) := (blk_cell BK665.out 1).trans rfl
    have hcz31_2 : wr.cell? ⟨gb665, 2, none⟩ = some (u666002) := (blk_cell BK665.out 2).trans rfl
    have hfz31_0 := blk_frozen BK665.out 0
    have hfz31_1 := blk_frozen BK665.out 1
    have hfz31_2 := blk_frozen BK665.out 2
    have hcz32_0 : wr.cell? ⟨gb661, 0, none⟩ = some (.int .i64 0) := (blk_cell BK661.out 0).trans rfl
    have hcz32_1 : wr.cell? ⟨gb661, 1, none⟩ = some (.slice none 0 0) := (blk_cell BK661.out 1).trans rfl
    have hcz32_2 : wr.cell? ⟨gb661, 2, none⟩ = some (.slice none 0 0) := (blk_cell BK661.out 2).trans rfl
    have hfz32_0 := blk_frozen BK661.out 0
    have hfz32_1 := blk_frozen BK661.out 1
    have hfz32_2 := blk_frozen BK661.out 2
    obtain ⟨Ao33, co33, eo33⟩ := Kd.S_slice HO_666002.out
    subst eo33
    go_wp2
    refine bodyPost_ret (results_cell_row rfl _ _ gb661 31 #[.int .i64 a0_0, .slice Ao10 t662.length co10, .slice Ao33 x666002_1.length co33] (0, 0) _ rfl (by (with_reducible repeat (first | refine blk_drewN ?_ _ | refine blk_drew ?_ | refine blk_alloc ?_ _)); refine blk_put (cs := #[.int .i64 a0_0, .slice Ao10 t662.length co10, .slice none 0 0]) ?_ 2 _ rfl; (with_reducible repeat (first | refine blk_drewN ?_ _ | refine blk_drew ?_ | refine blk_alloc ?_ _)); refine blk_put (cs := #[.int .i64 a0_0, .slice none 0 0, .slice none 0 0]) ?_ 1 _ rfl; (with_reducible repeat (first | refine blk_drewN ?_ _ | refine blk_drew ?_ | refine blk_alloc ?_ _)); refine blk_put (cs := #[.int .i64 0, .slice none 0 0, .slice none 0 0]) ?_ 0 _ rfl; exact BK661.out) Try.underlying31 rfl (by kernel_rfl)) rfl ?_
    exact ⟨_, _, by first | rfl | (simp [errW_none, errW_some] <;> rfl) | (simp [*, errW_none, errW_some] <;> rfl), by (with_reducible repeat (first | apply Kd.R_alloc | apply Kd.R_drewN | apply Kd.R_drew)); exact Kd.R_mono (Kd.R_far (p := ⟨gb661, 2, none⟩) (Kd.R_far (p := ⟨gb661, 1, none⟩) (Kd.R_far (p := ⟨gb661, 0, none⟩) (Kd.R_types HO_666001.out BK661.out (by decide)) (fun _ hk => hk.2) (.int .i64 a0_0)) (fun _ hk => hk.2) (.slice Ao10 t662.length co10)) (fun _ hk => hk.2) (.slice Ao33 x666002_1.length co33)) (fun _ hk => trivial), by (with_reducible repeat (first | apply Kd.S_alloc | apply Kd.S_drewN | apply Kd.S_drew)); exact Kd.S_mono (Kd.S_far (p := ⟨gb661, 2, none⟩) (Kd.S_far (p := ⟨gb661, 1, none⟩) (Kd.S_far (p := ⟨gb661, 0, none⟩) (Kd.S_types HO_666002.out BK661.out (by decide)) (fun _ hk => hk.2) (.int .i64 a0_0)) (fun _ hk => hk.2) (.slice Ao10 t662.length co10)) (fun _ hk => hk.2) (.slice Ao33 x666002_1.length co33)) (fun _ hk => hk.1), by repeat (first | (with_reducible first | exact HB.out | apply below_alloc | apply pw_below_drewN | apply below_drew1 | refine below_set ?_ GE660.out | refine below_set ?_ GE661.out | refine below_set ?_ GE665.out) | exact HB.out)⟩
end Go.Proofs.Yteiiodlgdbiimaa.F
end
