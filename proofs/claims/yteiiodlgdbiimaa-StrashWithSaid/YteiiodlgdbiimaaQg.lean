/- The law StrashWith: whatever the input, the function returns true, and the input reads as it did (its last text). -/
import Derived.Below
import Derived.ChangeOld
import Derived.Deep.Grids
import Derived.OpenShut
import Derived.ProofKit
import Derived.ShutString
import Derived.SizedLaws
import Derived.Test.YteiiodlgdbiimaaRows
import Derived.WalkKit
import Derived.Test.YteiiodlgdbiimaaQf
section
namespace Go.Proofs.Yteiiodlgdbiimaa.F
open Go.RowKit Go.Proofs.YteiiodlgdbiimaaW.PrintWords Go.Proofs.YteiiodlgdbiimaaW.PrintLast Go.Proofs.YteiiodlgdbiimaaW.PrintMore
attribute [local go_sem] max2_int min2_int max_two min_two max_three min_three max_four min_four
set_option linter.unusedVariables false
set_option linter.unusedSimpArgs false
def inquestref03_Vars.f (k : Nat) (a0_0 : Int) (l0_1 : List (S41)) (l0_2 : List (S68)) (l0_3 : List Int) (l0_4 : List Int) (l0_5 : List Int) : Option (Int) := (inquestref03_May.f k a0_0 l0_1 l0_2 l0_3 l0_4 l0_5).bind fun t170 => (if t170 = true then (some (wrap64 ((wrap64 (a0_0 + (l0_1.length : Int))) + (l0_2.length : Int)))) else (some 0))
theorem inquestref03_Vars.mono : ∀ a0 a1 a2 a3 a4 a5 k, LeO (inquestref03_Vars.f k a0 a1 a2 a3 a4 a5) (inquestref03_Vars.f (k + 1) a0 a1 a2 a3 a4 a5) := by
  intro a0 a1 a2 a3 a4 a5 k
  unfold inquestref03_Vars.f
  repeat' first
      | (with_reducible exact inquestref03_May.mono _ _ _ _ _ _ _)
      | (with_reducible exact LeO.refl _)
      | (with_reducible exact LeO.none _)
      | (with_reducible refine LeO.ite ?_ ?_)
      | (with_reducible refine LeO.bind ?_ (fun _ => ?_))
      | exact inquestref03_May.mono _ _ _ _ _ _ _
      | exact LeO.none _
      | refine LeO.ite ?_ ?_
      | refine LeO.bind ?_ (fun _ => ?_)
set_option maxHeartbeats 8000000 in
set_option maxRecDepth 100000 in
theorem inquestref03_Vars.calls (k : Nat) (a0_0 : Int) (A0_1 : Option Addr) (c0_1 : Nat) (l0_1 : List (S41)) (A0_2 : Option Addr) (c0_2 : Nat) (l0_2 : List (S68)) (A0_3 : Option Addr) (c0_3 : Nat) (l0_3 : List Int) (A0_4 : Option Addr) (c0_4 : Nat) (l0_4 : List Int) (A0_5 : Option Addr) (c0_5 : Nat) (l0_5 : List Int) (r : Int) (w : World) (hr0_1 : Kd.C k41 w A0_1 l0_1.length l0_1) (hc0_1 : l0_1.length ≤ c0_1) (hr0_2 : Kd.C k68 w A0_2 l0_2.length l0_2) (hc0_2 : l0_2.length ≤ c0_2) (hr0_3 : Kd.C (Kd.int .u32) w A0_3 l0_3.length l0_3) (hc0_3 : l0_3.length ≤ c0_3) (hr0_4 : Kd.C (Kd.int .u32) w A0_4 l0_4.length l0_4) (hc0_4 : l0_4.length ≤ c0_4) (hr0_5 : Kd.C (Kd.int .u32) w A0_5 l0_5.length l0_5) (hc0_5 : l0_5.length ≤ c0_5) (h : inquestref03_Vars.f k a0_0 l0_1 l0_2 l0_3 l0_4 l0_5 = some r) :
    Calls Try.prog 27 #[.agg #[.int .i64 a0_0, .slice A0_1 l0_1.length c0_1, .slice A0_2 l0_2.length c0_2, .slice A0_3 l0_3.length c0_3, .slice A0_4 l0_4.length c0_4, .slice A0_5 l0_5.length c0_5]] w fun e w' => e = .returned (.int .i64 r) ∧ Below w.heap.size w w' := by
  have hu26 := Try.underlying26
  have HR0_1 := Aside0.mk hr0_1
  have HC0_1 := Aside0.mk hc0_1
  clear hr0_1 hc0_1
  have HR0_2 := Aside0.mk hr0_2
  have HC0_2 := Aside0.mk hc0_2
  clear hr0_2 hc0_2
  have HR0_3 := Aside0.mk hr0_3
  have HC0_3 := Aside0.mk hc0_3
  clear hr0_3 hc0_3
  have HR0_4 := Aside0.mk hr0_4
  have HC0_4 := Aside0.mk hc0_4
  clear hr0_4 hc0_4
  have HR0_5 := Aside0.mk hr0_5
  have HC0_5 := Aside0.mk hc0_5
  clear hr0_5 hc0_5
  have HB := Aside0.mk (Below.refl w.heap.size w)
  have H : ((inquestref03_May.f k a0_0 l0_1 l0_2 l0_3 l0_4 l0_5).bind fun t170 => (if t170 = true then (some (wrap64 ((wrap64 (a0_0 + (l0_1.length : Int))) + (l0_2.length : Int)))) else (some 0))) = some r := h
  clear h
  replace H := Option.bind_eq_some_iff.mp H
  obtain ⟨t170, A20, H⟩ := H
  replace H : (if t170 = true then (some (wrap64 ((wrap64 (a0_0 + (l0_1.length : Int))) + (l0_2.length : Int)))) else (some 0)) = some r := H
  have A2 := Aside0.mk A20
  clear A20
  by_cases c3 : t170 = true
  · subst c3
    have H1 : (some (wrap64 ((wrap64 (a0_0 + (l0_1.length : Int))) + (l0_2.length : Int)))) = some r := by rw [if_pos rfl] at H; exact H
    clear H
    have H := H1
    clear H1
    obtain rfl := Option.some.inj H
    go_enter Try.func27, Try.ntmps27
    go_wp2_with (first | ((with_reducible refine gate_dst (N := 1) rfl ?_); refine box_event ?hg (N := 1) ?hd (cs := #[.int .i64 a0_0, .slice A0_1 l0_1.length c0_1, .slice A0_2 l0_2.length c0_2, .slice A0_3 l0_3.length c0_3, .slice A0_4 l0_4.length c0_4, .slice A0_5 l0_5.length c0_5]) (t := 26) ?hr ?_; (case hd => rfl); (case hg => rfl); (case hr => first | (go_simp; done) | (go_simp; rfl)); intro gb169 hg w4 hbox hb; have n0_ := Aside0.mk (below_step (by repeat (first | (with_reducible first | exact HB.out | apply below_alloc | apply pw_below_drewN | apply below_drew1) | exact HB.out)) hb); have n1_ := Aside0.mk (hbox); have n2_ := Aside0.mk ((by rw [hg]; exact (below_size (by repeat (first | (with_reducible first | exact HB.out | apply below_alloc | apply pw_below_drewN | apply below_drew1) | exact HB.out))) : w.heap.size ≤ gb169)); have n3_ := Aside0.mk ((by rw [hg]; exact (below_size (by repeat (first | (with_reducible first | exact HB.out | apply below_alloc | apply pw_below_drewN | apply below_drew1) | exact HB.out))) : w.heap.size ≤ gb169)); clear HB; have HB := n0_; have BK169 := n1_; have GW169 := n2_; have GE169 := n3_; clear n0_ n1_ n2_ n3_; clear hb hbox hg; have hcz5_0 : w4.cell? ⟨gb169, 0, none⟩ = some (.int .i64 a0_0) := (blk_cell BK169.out 0).trans rfl; have hcz5_1 : w4.cell? ⟨gb169, 1, none⟩ = some (.slice A0_1 l0_1.length c0_1) := (blk_cell BK169.out 1).trans rfl; have hcz5_2 : w4.cell? ⟨gb169, 2, none⟩ = some (.slice A0_2 l0_2.length c0_2) := (blk_cell BK169.out 2).trans rfl; have hcz5_3 : w4.cell? ⟨gb169, 3, none⟩ = some (.slice A0_3 l0_3.length c0_3) := (blk_cell BK169.out 3).trans rfl; have hcz5_4 : w4.cell? ⟨gb169, 4, none⟩ = some (.slice A0_4 l0_4.length c0_4) := (blk_cell BK169.out 4).trans rfl; have hcz5_5 : w4.cell? ⟨gb169, 5, none⟩ = some (.slice A0_5 l0_5.length c0_5) := (blk_cell BK169.out 5).trans rfl; have hfz5_0 := blk_frozen BK169.out 0; have hfz5_1 := blk_frozen BK169.out 1; have hfz5_2 := blk_frozen BK169.out 2; have hfz5_3 := blk_frozen BK169.out 3; have hfz5_4 := blk_frozen BK169.out 4; have hfz5_5 := blk_frozen BK169.out 5) | ((with_reducible refine gate_callee (f := 26) rfl ?_); refine goesL_ (some 4) rfl rfl Try.func26 (by kernel_rfl) rfl #[.agg #[.int .i64 a0_0, .slice A0_1 l0_1.length c0_1, .slice A0_2 l0_2.length c0_2, .slice A0_3 l0_3.length c0_3, .slice A0_4 l0_4.length c0_4, .slice A0_5 l0_5.length c0_5]] rfl (by (try simp only [List.map_toArray, List.map_cons, List.map_nil]); first | done | rfl | (simp only [List.length_drop, List.length_take]; rfl)) ?_; (with_reducible refine (inquestref03_May.calls k a0_0 _ _ l0_1 _ _ l0_2 _ _ l0_3 _ _ l0_4 _ _ l0_5 true _ ?side1 ?side2 ?side3 ?side4 ?side5 ?side6 ?side7 ?side8 ?side9 ?side10 A2.out).mono ?_); (case side1 => repeat (first | exact (Kd.C_below HR0_1.out HB.out) | (with_reducible refine Kd.C_alloc ?_ _) | (with_reducible refine Kd.C_drewN ?_ _) | (with_reducible refine Kd.C_drew ?_))); (case side2 => exact HC0_1.out); (case side3 => repeat (first | exact (Kd.C_below HR0_2.out HB.out) | (with_reducible refine Kd.C_alloc ?_ _) | (with_reducible refine Kd.C_drewN ?_ _) | (with_reducible refine Kd.C_drew ?_))); (case side4 => exact HC0_2.out); (case side5 => repeat (first | exact (Kd.C_below HR0_3.out HB.out) | (with_reducible refine Kd.C_alloc ?_ _) | (with_reducible refine Kd.C_drewN ?_ _) | (with_reducible refine Kd.C_drew ?_))); (case side6 => exact HC0_3.out); (case side7 => repeat (first | exact (Kd.C_below HR0_4.out HB.out) | (with_reducible refine Kd.C_alloc ?_ _) | (with_reducible refine Kd.C_drewN ?_ _) | (with_reducible refine Kd.C_drew ?_))); (case side8 => exact HC0_4.out); (case side9 => repeat (first | exact (Kd.C_below HR0_5.out HB.out) | (with_reducible refine Kd.C_alloc ?_ _) | (with_reducible refine Kd.C_drewN ?_ _) | (with_reducible refine Kd.C_drew ?_))); (case side10 => exact HC0_5.out); rintro e w6 ⟨rfl, hb⟩; refine ⟨_, rfl, ?_⟩; have n0_ := Aside0.mk (blk_below (g := gb169) (o := .cells #[.int .i64 a0_0, .slice A0_1 l0_1.length c0_1, .slice A0_2 l0_2.length c0_2, .slice A0_3 l0_3.length c0_3, .slice A0_4 l0_4.length c0_4, .slice A0_5 l0_5.length c0_5] 26 (0, 0)) (by (with_reducible repeat (first | refine blk_drewN ?_ _ | refine blk_drew ?_ | refine blk_alloc ?_ _)); exact BK169.out) hb); have n1_ := Aside0.mk (below_step (by repeat (first | (with_reducible first | exact HB.out | apply below_alloc | apply pw_below_drewN | apply below_drew1 | refine below_set ?_ GE169.out) | exact HB.out)) hb); clear BK169; clear HB; have BK169 := n0_; have HB := n1_; clear n0_ n1_; (try clear hb); (try clear hb2); (try clear hk); (try clear hi); have hcz7_0 : w6.cell? ⟨gb169, 0, none⟩ = some (.int .i64 a0_0) := (blk_cell BK169.out 0).trans rfl; have hcz7_1 : w6.cell? ⟨gb169, 1, none⟩ = some (.slice A0_1 l0_1.length c0_1) := (blk_cell BK169.out 1).trans rfl; have hcz7_2 : w6.cell? ⟨gb169, 2, none⟩ = some (.slice A0_2 l0_2.length c0_2) := (blk_cell BK169.out 2).trans rfl; have hcz7_3 : w6.cell? ⟨gb169, 3, none⟩ = some (.slice A0_3 l0_3.length c0_3) := (blk_cell BK169.out 3).trans rfl; have hcz7_4 : w6.cell? ⟨gb169, 4, none⟩ = some (.slice A0_4 l0_4.length c0_4) := (blk_cell BK169.out 4).trans rfl; have hcz7_5 : w6.cell? ⟨gb169, 5, none⟩ = some (.slice A0_5 l0_5.length c0_5) := (blk_cell BK169.out 5).trans rfl; have hfz7_0 := blk_frozen BK169.out 0; have hfz7_1 := blk_frozen BK169.out 1; have hfz7_2 := blk_frozen BK169.out 2; have hfz7_3 := blk_frozen BK169.out 3; have hfz7_4 := blk_frozen BK169.out 4; have hfz7_5 := blk_frozen BK169.out 5))
    go_ret
    exact ⟨by first | rfl | (simp [errW_none, errW_some] <;> rfl) | (simp [*, errW_none, errW_some] <;> rfl), by repeat (first | (with_reducible first | exact HB.out | apply below_alloc | apply pw_below_drewN | apply below_drew1 | refine below_set ?_ GE169.out) | exact HB.out)⟩
  · replace c3 := Bool.eq_false_iff.mpr c3
    subst c3
    have H1 : (some 0) = some r := by rw [if_neg (show ¬ (false = true) by decide)] at H; exact H
    clear H
    have H := H1
    clear H1
    obtain rfl := Option.some.inj H
    go_enter Try.func27, Try.ntmps27
    go_wp2_with (first | ((with_reducible refine gate_dst (N := 1) rfl ?_); refine box_event ?hg (N := 1) ?hd (cs := #[.int .i64 a0_0, .slice A0_1 l0_1.length c0_1, .slice A0_2 l0_2.length c0_2, .slice A0_3 l0_3.length c0_3, .slice A0_4 l0_4.length c0_4, .slice A0_5 l0_5.length c0_5]) (t := 26) ?hr ?_; (case hd => rfl); (case hg => rfl); (case hr => first | (go_simp; done) | (go_simp; rfl)); intro gb169 hg w8 hbox hb; have n0_ := Aside0.mk (below_step (by repeat (first | (with_reducible first | exact HB.out | apply below_alloc | apply pw_below_drewN | apply below_drew1) | exact HB.out)) hb); have n1_ := Aside0.mk (hbox); have n2_ := Aside0.mk ((by rw [hg]; exact (below_size (by repeat (first | (with_reducible first | exact HB.out | apply below_alloc | apply pw_below_drewN | apply below_drew1) | exact HB.out))) : w.heap.size ≤ gb169)); have n3_ := Aside0.mk ((by rw [hg]; exact (below_size (by repeat (first | (with_reducible first | exact HB.out | apply below_alloc | apply pw_below_drewN | apply below_drew1) | exact HB.out))) : w.heap.size ≤ gb169)); clear HB; have HB := n0_; have BK169 := n1_; have GW169 := n2_; have GE169 := n3_; clear n0_ n1_ n2_ n3_; clear hb hbox hg; have hcz9_0 : w8.cell? ⟨gb169, 0, none⟩ = some (.int .i64 a0_0) := (blk_cell BK169.out 0).trans rfl; have hcz9_1 : w8.cell? ⟨gb169, 1, none⟩ = some (.slice A0_1 l0_1.length c0_1) := (blk_cell BK169.out 1).trans rfl; have hcz9_2 : w8.cell? ⟨gb169, 2, none⟩ = some (.slice A0_2 l0_2.length c0_2) := (blk_cell BK169.out 2).trans rfl; have hcz9_3 : w8.cell? ⟨gb169, 3, none⟩ = some (.slice A0_3 l0_3.length c0_3) := (blk_cell BK169.out 3).trans rfl; have hcz9_4 : w8.cell? ⟨gb169, 4, none⟩ = some (.slice A0_4 l0_4.length c0_4) := (blk_cell BK169.out 4).trans rfl; have hcz9_5 : w8.cell? ⟨gb169, 5, none⟩ = some (.slice A0_5 l0_5.length c0_5) := (blk_cell BK169.out 5).trans rfl; have hfz9_0 := blk_frozen BK169.out 0; have hfz9_1 := blk_frozen BK169.out 1; have hfz9_2 := blk_frozen BK169.out 2; have hfz9_3 := blk_frozen BK169.out 3; have hfz9_4 := blk_frozen BK169.out 4; have hfz9_5 := blk_frozen BK169.out 5) | ((with_reducible refine gate_callee (f := 26) rfl ?_); refine goesL_ (some 4) rfl rfl Try.func26 (by kernel_rfl) rfl #[.agg #[.int .i64 a0_0, .slice A0_1 l0_1.length c0_1, .slice A0_2 l0_2.length c0_2, .slice A0_3 l0_3.length c0_3, .slice A0_4 l0_4.length c0_4, .slice A0_5 l0_5.length c0_5]] rfl (by (try simp only [List.map_toArray, List.map_cons, List.map_nil]); first | done | rfl | (simp only [List.length_drop, List.length_take]; rfl)) ?_; (with_reducible refine (inquestref03_May.calls k a0_0 _ _ l0_1 _ _ l0_2 _ _ l0_3 _ _ l0_4 _ _ l0_5 false _ ?side1 ?side2 ?side3 ?side4 ?side5 ?side6 ?side7 ?side8 ?side9 ?side10 A2.out).mono ?_); (case side1 => repeat (first | exact (Kd.C_below HR0_1.out HB.out) | (with_reducible refine Kd.C_alloc ?_ _) | (with_reducible refine Kd.C_drewN ?_ _) | (with_reducible refine Kd.C_drew ?_))); (case side2 => exact HC0_1.out); (case side3 => repeat (first | exact (Kd.C_below HR0_2.out HB.out) | (with_reducible refine Kd.C_alloc ?_ _) | (with_reducible refine Kd.C_drewN ?_ _) | (with_reducible refine Kd.C_drew ?_))); (case side4 => exact HC0_2.out); (case side5 => repeat (first | exact (Kd.C_below HR0_3.out HB.out) | (with_reducible refine Kd.C_alloc ?_ _) | (with_reducible refine Kd.C_drewN ?_ _) | (with_reducible refine Kd.C_drew ?_))); (case side6 => exact HC0_3.out); (case side7 => repeat (first | exact (Kd.C_below HR0_4.out HB.out) | (with_reducible refine Kd.C_alloc ?_ _) | (with_reducible refine Kd.C_drewN ?_ _) | (with_reducible refine Kd.C_drew ?_))); (case side8 => exact HC0_4.out); (case side9 => repeat (first | exact (Kd.C_below HR0_5.out HB.out) | (with_reducible refine Kd.C_alloc ?_ _) | (with_reducible refine Kd.C_drewN ?_ _) | (with_reducible refine Kd.C_drew ?_))); (case side10 => exact HC0_5.out); rintro e w10 ⟨rfl, hb⟩; refine ⟨_, rfl, ?_⟩; have n0_ := Aside0.mk (blk_below (g := gb169) (o := .cells #[.int .i64 a0_0, .slice A0_1 l0_1.length c0_1, .slice A0_2 l0_2.length c0_2, .slice A0_3 l0_3.length c0_3, .slice A0_4 l0_4.length c0_4, .slice A0_5 l0_5.length c0_5] 26 (0, 0)) (by (with_reducible repeat (first | refine blk_drewN ?_ _ | refine blk_drew ?_ | refine blk_alloc ?_ _)); exact BK169.out) hb); have n1_ := Aside0.mk (below_step (by repeat (first | (with_reducible first | exact HB.out | apply below_alloc | apply pw_below_drewN | apply below_drew1 | refine below_set ?_ GE169.out) | exact HB.out)) hb); clear BK169; clear HB; have BK169 := n0_; have HB := n1_; clear n0_ n1_; (try clear hb); (try clear hb2); (try clear hk); (try clear hi)))
    go_ret
    exact ⟨by first | rfl | (simp [errW_none, errW_some] <;> rfl) | (simp [*, errW_none, errW_some] <;> rfl), by repeat (first | (with_reducible first | exact HB.out | apply below_alloc | apply pw_below_drewN | apply below_drew1 | refine below_set ?_ GE169.out) | exact HB.out)⟩
end Go.Proofs.Yteiiodlgdbiimaa.F
end
section
namespace Go.Proofs.Yteiiodlgdbiimaa.F
open Go.RowKit Go.Shelf Go.Proofs.YteiiodlgdbiimaaW.PrintWords Go.Proofs.YteiiodlgdbiimaaW.PrintLast Go.Proofs.YteiiodlgdbiimaaW.PrintMore
set_option linter.unusedVariables false
set_option linter.unusedSimpArgs false
theorem lits_ev {l : List Int} {V : Int} (hu : InU32 l) (hl : l.length ≤ 1024) (hb : ∀ x ∈ l, wrap64 (x / 2) ≤ V) : Ev (fun k => inquestref03_lits.f k l V) true := by
  have key : ∀ (d i : Nat), l.length - i = d → i ≤ l.length → Ev (fun k => inquestref03_lits.l0 k l V (i : Int)) true := by
    intro d
    induction d with
    | zero =>
      intro i hd hi
      refine Ev.step (f := fun _ => some true) (fun k => ?_) (Ev.now true)
      simp only [inquestref03_lits.l0]
      rw [if_neg (by omega), decide_eq_true (by omega)]
    | succ d ih =>
      intro i hd hi
      have hlt : i < l.length := by omega
      have hx := hu _ (List.getElem_mem hlt)
      have hy := hb _ (List.getElem_mem hlt)
      rw [wrap64_id (by omega) (by omega)] at hy
      refine Ev.step (fun k => ?_) (ih (i + 1) (by omega) (by omega))
      simp only [inquestref03_lits.l0]
      rw [if_pos (by omega), if_pos (by omega), rd_at hlt, half_u32 hx.1 hx.2, if_neg (by omega), wrap_nat (by omega)]
  exact key l.length 0 (by omega) (by omega)
section
variable {a0 : Int} {l1 : List S41} {l2 : List S68} {l3 l4 l5 : List Int}
theorem mayr_ev (hv : Valid a0 l1 l2 l3 l4 l5) (h1 : In41 l1) (h2 : In68 l2) (h3 : InU32 l3) (h4 : InU32 l4) (h5 : InU32 l5) : Ev (fun k => inquestref03_May.f k a0 l1 l2 l3 l4 l5) true := by
  have hp := hv.pos
  have hle := hv.le
  obtain ⟨V, hV⟩ : ∃ V, a0 + (l1.length : Int) + (l2.length : Int) = V := ⟨_, rfl⟩
  have hend : Ev (fun k => (inquestref03_lits.f k l3 V).bind fun t166 => (if t166 = true then ((inquestref03_lits.f k l4 V).bind fun t167 => (if t167 = true then ((inquestref03_lits.f k l5 V).bind fun t168 => (some t168)) else (some false))) else (some false))) true := by
    refine Ev.bind (lits_ev h3 hv.outs.1 (by rw [← hV]; exact hv.outs.2)) (Ev.ifp rfl ?_)
    refine Ev.bind (lits_ev h4 hv.bads.1 (by rw [← hV]; exact hv.bads.2)) (Ev.ifp rfl ?_)
    exact Ev.bind (lits_ev h5 hv.cons.1 (by rw [← hV]; exact hv.cons.2)) (Ev.now true)
  have key2 : ∀ (d i : Nat), l2.length - i = d → i ≤ l2.length → Ev (fun k => inquestref03_May.l1 k V (i : Int) a0 l1 l2 l3 l4 l5) true := by
    intro d
    induction d with
    | zero =>
      intro i hd hi
      refine Ev.step (fun k => ?_) hend
      simp only [inquestref03_May.l1]
      rw [if_neg (by omega)]
    | succ d ih =>
      intro i hd hi
      have hlt : i < l2.length := by omega
      have hx := h2 _ (List.getElem_mem hlt)
      have hy := hv.gate i hlt
      refine Ev.step (fun k => ?_) (ih (i + 1) (by omega) (by omega))
      simp only [inquestref03_May.l1]
      rw [if_pos (by omega), if_pos (by omega), rd68_at hlt, half_u32 hx.1.1 hx.1.2, wrap64_id (x := a0 + (l1.length : Int)) (by omega) (by omega), wrap64_id (x := a0 + (l1.length : Int) + 1) (by omega) (by omega), wrap64_id (x := a0 + (l1.length : Int) + 1 + (i : Int)) (by omega) (by omega), if_neg (by omega), if_neg (by omega), wrap_nat (by omega)]
  have key1 : ∀ (d i : Nat), l1.length - i = d → i ≤ l1.length → Ev (fun k => inquestref03_May.l0 k V (i : Int) a0 l1 l2 l3 l4 l5) true := by
    intro d
    induction d with
    | zero =>
      intro i hd hi
      refine Ev.step (fun k => ?_) (key2 l2.length 0 (by omega) (by omega))
      simp only [inquestref03_May.l0]
      rw [if_neg (by omega)]
      rfl
    | succ d ih =>
      intro i hd hi
      have hlt : i < l1.length := by omega
      have hx := h1 _ (List.getElem_mem hlt)
      have hy := hv.next i hlt
      have hz := hv.reset i hlt
      refine Ev.step (fun k => ?_) (ih (i + 1) (by omega) (by omega))
      simp only [inquestref03_May.l0]
      rw [if_pos (by omega), if_pos (by omega), rd41_at hlt, half_u32 hx.1.1 hx.1.2, if_neg (by omega), if_neg (by omega), wrap_nat (by omega)]
  have hj : Ev (fun k => inquestref03_May.j0 k false a0 l1 l2 l3 l4 l5) true := by
    refine Ev.step (fun k => ?_) (key1 l1.length 0 (by omega) (by omega))
    simp only [inquestref03_May.j0]
    rw [if_neg (by decide), wrap64_id (x := a0 + (l1.length : Int)) (by omega) (by omega), wrap64_id (x := a0 + (l1.length : Int) + (l2.length : Int)) (by omega) (by omega), hV, if_neg (by omega)]
    rfl
  refine Ev.congr (fun k => ?_) hj
  unfold inquestref03_May.f
  rw [if_neg (by omega), if_neg (by omega), if_neg (by omega), decide_eq_false (by omega)]
end
end Go.Proofs.Yteiiodlgdbiimaa.F
end
section
namespace Go.Proofs.Yteiiodlgdbiimaa.F
open Go.RowKit Go.Shelf Go.Proofs.YteiiodlgdbiimaaW.PrintWords Go.Proofs.YteiiodlgdbiimaaW.PrintLast Go.Proofs.YteiiodlgdbiimaaW.PrintMore
set_option linter.unusedVariables false
set_option linter.unusedSimpArgs false
theorem wrap_nat' {i : Nat} (h : i + 1 < 9223372036854775808) : wrap64 ((i : Int) + 1) = ((i + 1 : Nat) : Int) := by
  have e : ((i + 1 : Nat) : Int) = (i : Int) + 1 := by push_cast; rfl
  rw [e]
  exact wrap64_id (by omega) (by omega)
theorem drop_at {α : Type} {l : List α} {i : Nat} (h : i < l.length) : l.drop i = l[i] :: l.drop (i + 1) := List.drop_eq_getElem_cons h
theorem lits_all {l : List Int} {V : Int} (hu : InU32 l) (hl : l.length < 9223372036854775808) : Ev (fun k => inquestref03_lits.f k l V) (l.all (fun x => decide (x / 2 ≤ V)) && decide ((l.length : Int) ≤ 1024)) := by
  have key : ∀ (d i : Nat), l.length - i = d → i ≤ l.length → Ev (fun k => inquestref03_lits.l0 k l V (i : Int)) ((l.drop i).all (fun x => decide (x / 2 ≤ V)) && decide ((l.length : Int) ≤ 1024)) := by
    intro d
    induction d with
    | zero =>
      intro i hd hi
      obtain rfl : i = l.length := by omega
      refine Ev.step (f := fun _ => some (decide ((l.length : Int) ≤ 1024))) (fun k => ?_) (by rw [List.drop_length]; exact Ev.now _)
      simp only [inquestref03_lits.l0]
      rw [if_neg (by omega)]
    | succ d ih =>
      intro i hd hi
      have hlt : i < l.length := by omega
      have hx := hu _ (List.getElem_mem hlt)
      rw [drop_at hlt, List.all_cons]
      by_cases hc : l[i] / 2 ≤ V
      · rw [decide_eq_true hc, Bool.true_and]
        refine Ev.step (fun k => ?_) (ih (i + 1) (by omega) (by omega))
        simp only [inquestref03_lits.l0]
        rw [if_pos (by omega), if_pos (by omega), rd_at hlt, half_u32 hx.1 hx.2, if_neg (by omega), wrap_nat' (by omega)]
      · rw [decide_eq_false hc, Bool.false_and, Bool.false_and]
        refine Ev.step (f := fun _ => some false) (fun k => ?_) (Ev.now _)
        simp only [inquestref03_lits.l0]
        rw [if_pos (by omega), if_pos (by omega), rd_at hlt, half_u32 hx.1 hx.2, if_pos (by omega)]
  exact key l.length 0 (by omega) (by omega)
def gok : Int → List S68 → Bool
  | _, [] => true
  | o, g :: r => decide (g.f0 / 2 < o) && decide (g.f1 ≤ g.f0) && gok (o + 1) r
theorem gok_is : ∀ (l : List S68) (o : Int), 0 ≤ o → o + (l.length : Int) < 4294967296 → gatesOk o l = gok (o + 1) l
  | [], _, _, _ => rfl
  | g :: r, o, h0, h1 => by
    rw [List.length_cons] at h1
    unfold gatesOk gok
    rw [u32_id (by omega) (by omega), gok_is r (o + 1) (by omega) (by omega)]
    have e1 : (!decide (o + 1 ≤ g.f0 / 2)) = decide (g.f0 / 2 < o + 1) := by
      by_cases h : o + 1 ≤ g.f0 / 2
      · rw [decide_eq_true h, decide_eq_false (by omega)]; rfl
      · rw [decide_eq_false h, decide_eq_true (by omega)]; rfl
    have e2 : (!decide (g.f0 < g.f1)) = decide (g.f1 ≤ g.f0) := by
      by_cases h : g.f0 < g.f1
      · rw [decide_eq_true h, decide_eq_false (by omega)]; rfl
      · rw [decide_eq_false h, decide_eq_true (by omega)]; rfl
    rw [e1, e2]
section
variable {a0 : Int} {l1 : List S41} {l2 : List S68} {l3 l4 l5 : List Int}
theorem list_is {V : Int} {l : List Int} (hu : InU32 l) : listOk V l = (l.all (fun x => decide (x / 2 ≤ V)) && decide ((l.length : Int) ≤ 1024)) := by
  unfold listOk
  have e1 : (!decide (1024 < (l.length : Int))) = decide ((l.length : Int) ≤ 1024) := by
    by_cases h : 1024 < (l.length : Int)
    · rw [decide_eq_true h, decide_eq_false (by omega)]; rfl
    · rw [decide_eq_false h, decide_eq_true (by omega)]; rfl
  have e2 : ∀ l : List Int, InU32 l → (!l.any (beyW V)) = l.all (fun x => decide (x / 2 ≤ V)) := by
    intro l hu
    induction l with
    | nil => rfl
    | cons x r ih =>
      have hx := hu x (List.mem_cons_self ..)
      rw [List.any_cons, List.all_cons, Bool.not_or, ih (fun y hy => hu y (List.mem_cons_of_mem _ hy))]
      congr 1
      unfold beyW
      rw [wrap64_id (by omega) (by omega)]
      by_cases h : V < x / 2
      · rw [decide_eq_true h, decide_eq_false (by omega)]; rfl
      · rw [decide_eq_false h, decide_eq_true (by omega)]; rfl
  rw [e1, e2 l hu, Bool.and_comm]
theorem mayr_all (ha : -9223372036854775808 ≤ a0 ∧ a0 < 9223372036854775808) (n1 : l1.length ≤ 16384) (n2 : l2.length ≤ 16384) (n3 : l3.length < 9223372036854775808) (n4 : l4.length < 9223372036854775808) (n5 : l5.length < 9223372036854775808)
    (h1 : In41 l1) (h2 : In68 l2) (h3 : InU32 l3) (h4 : InU32 l4) (h5 : InU32 l5) : Ev (fun k => inquestref03_May.f k a0 l1 l2 l3 l4 l5) (mayB a0 l1 l2 l3 l4 l5) := by
  have hjt : Ev (fun k => inquestref03_May.j0 k true a0 l1 l2 l3 l4 l5) false := by
    refine Ev.step (f := fun _ => some false) (fun k => ?_) (Ev.now false)
    simp only [inquestref03_May.j0]
    rw [if_pos trivial]
  by_cases g1 : a0 < 0
  · have e : mayB a0 l1 l2 l3 l4 l5 = false := by unfold mayB; rw [decide_eq_true g1]; simp
    rw [e]
    refine Ev.congr (fun k => ?_) hjt
    unfold inquestref03_May.f
    rw [if_pos g1]
  by_cases g2 : 16384 < a0
  · have e : mayB a0 l1 l2 l3 l4 l5 = false := by unfold mayB; rw [decide_eq_true g2]; simp
    rw [e]
    refine Ev.congr (fun k => ?_) hjt
    unfold inquestref03_May.f
    rw [if_neg g1, if_pos g2]
  have hV := varsW_id (a0 := a0) (n := l1.length) (m := l2.length) (by omega) (by omega) (by omega) (by omega)
  obtain ⟨V, eV⟩ : ∃ V, a0 + (l1.length : Int) + (l2.length : Int) = V := ⟨_, rfl⟩
  rw [eV] at hV
  have hw : wrap64 ((wrap64 (a0 + (l1.length : Int))) + (l2.length : Int)) = V := hV
  have hf : ∀ b, Ev (fun k => inquestref03_May.j0 k false a0 l1 l2 l3 l4 l5) b → Ev (fun k => inquestref03_May.f k a0 l1 l2 l3 l4 l5) b := fun b h => by
    refine Ev.congr (fun k => ?_) h
    unfold inquestref03_May.f
    rw [if_neg g1, if_neg g2, if_neg (by omega), decide_eq_false (by omega)]
  by_cases g3 : 16384 < V
  · have e : mayB a0 l1 l2 l3 l4 l5 = false := by unfold mayB; rw [hV, decide_eq_true g3]; simp
    rw [e]
    refine hf _ (Ev.step (f := fun _ => some false) (fun k => ?_) (Ev.now false))
    simp only [inquestref03_May.j0]
    rw [if_neg (by decide), hw, if_pos g3]
  have hend : Ev (fun k => (inquestref03_lits.f k l3 V).bind fun t166 => (if t166 = true then ((inquestref03_lits.f k l4 V).bind fun t167 => (if t167 = true then ((inquestref03_lits.f k l5 V).bind fun t168 => (some t168)) else (some false))) else (some false))) (listOk V l3 && listOk V l4 && listOk V l5) := by
    rw [list_is h3, list_is h4, list_is h5]
    refine Ev.bind (lits_all h3 n3) ?_
    by_cases c3 : (l3.all (fun x => decide (x / 2 ≤ V)) && decide ((l3.length : Int) ≤ 1024)) = true
    · rw [c3]
      refine Ev.ifp rfl (Ev.bind (lits_all h4 n4) ?_)
      by_cases c4 : (l4.all (fun x => decide (x / 2 ≤ V)) && decide ((l4.length : Int) ≤ 1024)) = true
      · rw [c4]
        exact Ev.ifp rfl (Ev.bind (lits_all h5 n5) (Ev.now _))
      · rw [Bool.not_eq_true] at c4
        rw [c4]
        exact Ev.ifn (by decide) (Ev.now _)
    · rw [Bool.not_eq_true] at c3
      rw [c3]
      exact Ev.ifn (by decide) (Ev.now _)
  generalize hE : (listOk V l3 && listOk V l4 && listOk V l5) = E at hend
  have key2 : ∀ (d i : Nat), l2.length - i = d → i ≤ l2.length → Ev (fun k => inquestref03_May.l1 k V (i : Int) a0 l1 l2 l3 l4 l5) (gok (a0 + (l1.length : Int) + 1 + (i : Int)) (l2.drop i) && E) := by
    intro d
    induction d with
    | zero =>
      intro i hd hi
      obtain rfl : i = l2.length := by omega
      rw [List.drop_length]
      refine Ev.step (fun k => ?_) (show Ev _ (true && E) from by rw [Bool.true_and]; exact hend)
      simp only [inquestref03_May.l1]
      rw [if_neg (by omega)]
    | succ d ih =>
      intro i hd hi
      have hlt : i < l2.length := by omega
      have hx := h2 _ (List.getElem_mem hlt)
      have e1 : a0 + (l1.length : Int) + 1 + (i : Int) + 1 = a0 + (l1.length : Int) + 1 + ((i + 1 : Nat) : Int) := by omega
      rw [drop_at hlt]
      unfold gok
      by_cases c1 : l2[i].f0 / 2 < a0 + (l1.length : Int) + 1 + (i : Int)
      · by_cases c2 : l2[i].f1 ≤ l2[i].f0
        · rw [decide_eq_true c1, decide_eq_true c2, Bool.true_and, Bool.true_and, e1]
          refine Ev.step (fun k => ?_) (ih (i + 1) (by omega) (by omega))
          simp only [inquestref03_May.l1]
          rw [if_pos (by omega), if_pos (by omega), rd68_at hlt, half_u32 hx.1.1 hx.1.2, wrap64_id (x := a0 + (l1.length : Int)) (by omega) (by omega), wrap64_id (x := a0 + (l1.length : Int) + 1) (by omega) (by omega), wrap64_id (x := a0 + (l1.length : Int) + 1 + (i : Int)) (by omega) (by omega), if_neg (by omega), if_neg (by omega), wrap_nat (by omega)]
        · rw [decide_eq_true c1, decide_eq_false c2, Bool.true_and, Bool.false_and, Bool.false_and]
          refine Ev.step (f := fun _ => some false) (fun k => ?_) (Ev.now false)
          simp only [inquestref03_May.l1]
          rw [if_pos (by omega), if_pos (by omega), rd68_at hlt, half_u32 hx.1.1 hx.1.2, wrap64_id (x := a0 + (l1.length : Int)) (by omega) (by omega), wrap64_id (x := a0 + (l1.length : Int) + 1) (by omega) (by omega), wrap64_id (x := a0 + (l1.length : Int) + 1 + (i : Int)) (by omega) (by omega), if_neg (by omega), if_pos (by omega)]
      · rw [decide_eq_false c1, Bool.false_and, Bool.false_and, Bool.false_and]
        refine Ev.step (f := fun _ => some false) (fun k => ?_) (Ev.now false)
        simp only [inquestref03_May.l1]
        rw [if_pos (by omega), if_pos (by omega), rd68_at hlt, half_u32 hx.1.1 hx.1.2, wrap64_id (x := a0 + (l1.length : Int)) (by omega) (by omega), wrap64_id (x := a0 + (l1.length : Int) + 1) (by omega) (by omega), wrap64_id (x := a0 + (l1.length : Int) + 1 + (i : Int)) (by omega) (by omega), if_pos (by omega)]
  have key1 : ∀ (d i : Nat), l1.length - i = d → i ≤ l1.length → Ev (fun k => inquestref03_May.l0 k V (i : Int) a0 l1 l2 l3 l4 l5) ((l1.drop i).all (latchOk V) && (gok (a0 + (l1.length : Int) + 1) l2 && E)) := by
    intro d
    induction d with
    | zero =>
      intro i hd hi
      obtain rfl : i = l1.length := by omega
      rw [List.drop_length]
      have := key2 l2.length 0 (by omega) (by omega)
      rw [List.drop_zero] at this
      refine Ev.step (fun k => ?_) (show Ev _ (true && (gok (a0 + (l1.length : Int) + 1) l2 && E)) from by rw [Bool.true_and]; simpa using this)
      simp only [inquestref03_May.l0]
      rw [if_neg (by omega)]
    | succ d ih =>
      intro i hd hi
      have hlt : i < l1.length := by omega
      have hx := h1 _ (List.getElem_mem hlt)
      rw [drop_at hlt, List.all_cons]
      have el : latchOk V l1[i] = (!decide (2 < l1[i].f1) && !decide (V < l1[i].f0 / 2)) := by
        unfold latchOk beyW
        rw [wrap64_id (by omega) (by omega)]
      rw [el]
      by_cases c1 : V < l1[i].f0 / 2
      · rw [decide_eq_true c1, Bool.not_true, Bool.and_false, Bool.false_and, Bool.false_and]
        refine Ev.step (f := fun _ => some false) (fun k => ?_) (Ev.now false)
        simp only [inquestref03_May.l0]
        rw [if_pos (by omega), if_pos (by omega), rd41_at hlt, half_u32 hx.1.1 hx.1.2, if_pos c1]
      · by_cases c2 : 2 < l1[i].f1
        · rw [decide_eq_true c2, Bool.not_true, Bool.false_and, Bool.false_and, Bool.false_and]
          refine Ev.step (f := fun _ => some false) (fun k => ?_) (Ev.now false)
          simp only [inquestref03_May.l0]
          rw [if_pos (by omega), if_pos (by omega), rd41_at hlt, half_u32 hx.1.1 hx.1.2, if_neg c1, if_pos c2]
        · rw [decide_eq_false c1, decide_eq_false c2, Bool.not_false, Bool.true_and, Bool.true_and]
          refine Ev.step (fun k => ?_) (ih (i + 1) (by omega) (by omega))
          simp only [inquestref03_May.l0]
          rw [if_pos (by omega), if_pos (by omega), rd41_at hlt, half_u32 hx.1.1 hx.1.2, if_neg c1, if_neg c2, wrap_nat (by omega)]
  have hm : mayB a0 l1 l2 l3 l4 l5 = (l1.all (latchOk V) && (gok (a0 + (l1.length : Int) + 1) l2 && E)) := by
    unfold mayB
    rw [hV, decide_eq_false g1, decide_eq_false g2, decide_eq_false g3, wrap64_id (x := a0 + (l1.length : Int)) (by omega) (by omega), u32_id (by omega) (by omega), gok_is l2 _ (by omega) (by omega), ← hE]
    generalize listOk V l3 = x
    generalize listOk V l4 = y
    generalize listOk V l5 = z
    generalize l1.all (latchOk V) = u
    generalize gok (a0 + (l1.length : Int) + 1) l2 = v
    cases x <;> cases y <;> cases z <;> cases u <;> cases v <;> rfl
  have := key1 l1.length 0 (by omega) (by omega)
  rw [List.drop_zero, ← hm] at this
  refine hf _ (Ev.step (fun k => ?_) this)
  simp only [inquestref03_May.j0]
  rw [if_neg (by decide), hw, if_neg (by omega)]
  rfl
end
end Go.Proofs.Yteiiodlgdbiimaa.F
end
section
namespace Go.Proofs.Yteiiodlgdbiimaa.F
open Go.RowKit Go.Shelf Go.Proofs.YteiiodlgdbiimaaW.PrintWords Go.Proofs.YteiiodlgdbiimaaW.PrintLast Go.Proofs.YteiiodlgdbiimaaW.PrintMore
set_option linter.unusedVariables false
set_option linter.unusedSimpArgs false
def Nice (g : S68) : Prop := 2 ≤ g.f1 ∧ g.f1 < g.f0 ∧ g.f1 / 2 ≠ g.f0 / 2 ∧ g.f0 < 4294967296
structure ShW (F : Int) (tl : List Int) (gs : List S68) (k : Nat) : Prop where
  len : tl.length = k
  u32 : InU32 tl
  inb : ∀ v : Nat, v < k → rd tl (v : Int) / 2 < F + (gs.length : Int)
  nice : ∀ (j : Nat) (g : S68), gs[j]? = some g → Nice g ∧ g.f0 / 2 < F + (j : Int)
  ap : Apart68 gs
  few : gs.length = 0 ∨ F + (gs.length : Int) ≤ (k : Int)
theorem rd_snoc' {l : List Int} {y : Int} {v : Nat} (h : v < l.length) : rd (l ++ [y]) (v : Int) = rd l (v : Int) := by
  unfold rd
  rw [List.getD_eq_getElem?_getD, List.getD_eq_getElem?_getD, List.getElem?_append_left (by simp; omega)]
theorem rd_last' {l : List Int} {y : Int} : rd (l ++ [y]) (l.length : Int) = y := by
  unfold rd
  simp
section
variable {F : Int} {tl : List Int} {gs : List S68} {k : Nat}
theorem ShW.litb (h : ShW F tl gs k) (hf : 1 ≤ F ∧ F ≤ 40000) {x : Int} (h0 : 0 ≤ x) (h1 : x < 4294967296) : litP tl x / 2 < F + (gs.length : Int) := by
  unfold litP
  split
  · rename_i hlt
    have hr := rd_u32 h.u32 (x / 2)
    obtain ⟨v, hv⟩ : ∃ v : Nat, x / 2 = (v : Int) := ⟨(x / 2).toNat, by omega⟩
    have hlen := h.len
    have hi := h.inb v (by omega)
    rw [and_one h0 h1, hv]
    rw [hv] at hr
    rcases (show x % 2 = 0 ∨ x % 2 = 1 by omega) with e | e
    · rw [e, xor_zero32 hr.1 hr.2]
      exact hi
    · rw [e, xor_one hr.1 hr.2]
      omega
  · omega
theorem ShW.snoc (h : ShW F tl gs k) {y : Int} (hy : 0 ≤ y ∧ y < 4294967296) (hyb : y / 2 < F + (gs.length : Int)) : ShW F (tl ++ [y]) gs (k + 1) := by
  have hlen := h.len
  have hfw := h.few
  refine ⟨by rw [List.length_append, hlen]; rfl, fun x hx => ?_, fun v hv => ?_, h.nice, h.ap, by omega⟩
  · rcases List.mem_append.1 hx with hx | hx
    · exact h.u32 x hx
    · rw [List.mem_singleton.1 hx]
      exact hy
  · by_cases e : v = k
    · subst e
      have e1 : rd (tl ++ [y]) (v : Int) = y := by rw [← hlen]; exact rd_last'
      rw [e1]
      exact hyb
    · rw [rd_snoc' (by omega)]
      exact h.inb v (by omega)
theorem ShW.gate (h : ShW F tl gs k) (hf : 1 ≤ F ∧ F ≤ 40000) (hg : gs.length ≤ 40000) (hk : F ≤ (k : Int)) {a b : Int} (ha : 0 ≤ a ∧ a < 4294967296) (hb : 0 ≤ b ∧ b < 4294967296) (hai : a / 2 < F + (gs.length : Int)) (hbi : b / 2 < F + (gs.length : Int)) :
    ShW F (tl ++ [(gateP F gs a b).1]) (gateP F gs a b).2 (k + 1) := by
  have hHI : (0 ≤ mx a b ∧ mx a b < 4294967296) ∧ mx a b / 2 < F + (gs.length : Int) := by unfold mx; split <;> exact ⟨by omega, by omega⟩
  have hLO : (0 ≤ mn a b ∧ mn a b < 4294967296) ∧ mn a b / 2 < F + (gs.length : Int) := by unfold mn; split <;> exact ⟨by omega, by omega⟩
  have hML : mn a b ≤ mx a b := by unfold mn mx; split <;> split <;> omega
  unfold gateP
  generalize mx a b = hi at hHI hML ⊢
  generalize mn a b = lo at hLO hML ⊢
  have hlen := h.len
  have hfw := h.few
  by_cases c0 : lo = 0
  · rw [if_pos c0]
    exact h.snoc ⟨by dsimp only; omega, by dsimp only; omega⟩ (by dsimp only; omega)
  rw [if_neg c0]
  by_cases c1 : hi = Go.bits .xor .u32 lo 1
  · rw [if_pos c1]
    exact h.snoc ⟨by dsimp only; omega, by dsimp only; omega⟩ (by dsimp only; omega)
  rw [if_neg c1]
  by_cases c2 : lo = 1
  · rw [if_pos c2]
    exact h.snoc hHI.1 hHI.2
  rw [if_neg c2]
  by_cases c3 : hi = lo
  · rw [if_pos c3]
    exact h.snoc hHI.1 hHI.2
  rw [if_neg c3]
  rw [xor_one hLO.1.1 hLO.1.2] at c1
  cases hx : idxG gs hi lo with
  | some j =>
    have hjl := idxG_lt hx
    exact h.snoc ⟨by dsimp only; omega, by dsimp only; omega⟩ (by dsimp only; omega)
  | none =>
    dsimp only
    have hno := idxG_none gs hx
    refine ⟨by simp [hlen], fun x hx => ?_, fun v hv => ?_, fun j g hj => ?_, Apart68.snoc h.ap hno, by simp; omega⟩
    · rcases List.mem_append.1 hx with hx | hx
      · exact h.u32 x hx
      · rw [List.mem_singleton.1 hx]
        omega
    · rw [List.length_append, List.length_singleton]
      by_cases e : v = k
      · subst e
        have e1 : rd (tl ++ [2 * (F + (gs.length : Int))]) (v : Int) = 2 * (F + (gs.length : Int)) := by rw [← hlen]; exact rd_last'
        rw [e1]
        omega
      · rw [rd_snoc' (by omega)]
        have := h.inb v (by omega)
        omega
    · by_cases e : j < gs.length
      · rw [List.getElem?_append_left e] at hj
        exact h.nice j g hj
      · have hjl := (List.getElem?_eq_some_iff.1 hj).1
        rw [List.length_append, List.length_singleton] at hjl
        obtain rfl : j = gs.length := by omega
        rw [List.getElem?_append_right (Nat.le_refl _), Nat.sub_self] at hj
        cases hj
        refine ⟨⟨by dsimp only; omega, by dsimp only; omega, by dsimp only; omega, by dsimp only; omega⟩, by dsimp only; omega⟩
theorem run_shape {l2 : List S68} {is : List Int} (hf : 1 ≤ F ∧ F ≤ 20000) (h2 : In68 l2) (hi : ∀ i : Int, 0 ≤ rd is i ∧ rd is i ≤ 2) : ∀ k : Nat, k ≤ 40000 → ShW F (runW F l2 is k).1 (runW F l2 is k).2 k
  | 0, _ => ⟨rfl, (fun x hx => nomatch hx), (fun v hv => absurd hv (Nat.not_lt_zero v)), (fun j g hj => by cases hj), (fun i j g h hi hj => by cases hi), .inl rfl⟩
  | k + 1, hk => by
    have hS := run_shape hf h2 hi k (by omega)
    have hx := hi (k : Int)
    unfold runW
    generalize runW F l2 is k = s at hS ⊢
    have hfw := hS.few
    unfold stepW
    by_cases h : rd is (k : Int) = 2
    · rw [if_neg (by simpa using h)]
      by_cases hk2 : (k : Int) < F
      · rw [if_pos hk2]
        exact hS.snoc ⟨by omega, by omega⟩ (by omega)
      · rw [if_neg hk2]
        have hu := rd68_ok h2 ((k : Int) - F)
        exact hS.gate ⟨hf.1, by omega⟩ (by omega) (by omega) (litP_u32 hS.u32 hu.1.1 hu.1.2) (litP_u32 hS.u32 hu.2.1 hu.2.2) (hS.litb ⟨hf.1, by omega⟩ hu.1.1 hu.1.2) (hS.litb ⟨hf.1, by omega⟩ hu.2.1 hu.2.2)
    · rw [if_pos h]
      exact hS.snoc ⟨by omega, by omega⟩ (by omega)
end
def latM (tl : List Int) (l1 : List S41) : List S41 := l1.map (fun g => ⟨litP tl g.f0, g.f1⟩)
theorem map_u32 {tl l : List Int} (ht : InU32 tl) (hl : InU32 l) : InU32 (l.map (litP tl)) := fun x hx => by
  obtain ⟨y, hy, rfl⟩ := List.mem_map.1 hx
  have := hl y hy
  exact litP_u32 ht this.1 this.2
theorem lat_in {tl : List Int} {l1 : List S41} (ht : InU32 tl) (h1 : In41 l1) : In41 (latM tl l1) := fun g hg => by
  obtain ⟨y, hy, rfl⟩ := List.mem_map.1 hg
  have := h1 y hy
  exact ⟨litP_u32 ht this.1.1 this.1.2, this.2⟩
theorem with_valid {a0 : Int} {l1 : List S41} {l2 : List S68} {l3 l4 l5 is : List Int} (hv : Valid a0 l1 l2 l3 l4 l5) (h1 : In41 l1) (h2 : In68 l2) (h3 : InU32 l3) (h4 : InU32 l4) (h5 : InU32 l5) (hi : ∀ i : Int, 0 ≤ rd is i ∧ rd is i ≤ 2) (hil : (is.length : Int) = a0 + (l1.length : Int) + (l2.length : Int) + 1) :
    ShW (1 + a0 + (l1.length : Int)) (wasW a0 l1 l2 is).1 (wasW a0 l1 l2 is).2 is.length ∧ (wasW a0 l1 l2 is).2.length ≤ l2.length ∧ In41 (latM (wasW a0 l1 l2 is).1 l1) ∧ In68 (wasW a0 l1 l2 is).2 ∧ InU32 (l3.map (litP (wasW a0 l1 l2 is).1)) ∧ InU32 (l4.map (litP (wasW a0 l1 l2 is).1)) ∧ InU32 (l5.map (litP (wasW a0 l1 l2 is).1)) ∧
    Valid a0 (latM (wasW a0 l1 l2 is).1 l1) (wasW a0 l1 l2 is).2 (l3.map (litP (wasW a0 l1 l2 is).1)) (l4.map (litP (wasW a0 l1 l2 is).1)) (l5.map (litP (wasW a0 l1 l2 is).1)) := by
  have hp := hv.pos
  have hle := hv.le
  have hS : ShW (1 + a0 + (l1.length : Int)) (wasW a0 l1 l2 is).1 (wasW a0 l1 l2 is).2 is.length := run_shape ⟨by omega, by omega⟩ h2 hi is.length (by omega)
  generalize wasW a0 l1 l2 is = s at hS ⊢
  have hfw := hS.few
  have hg : s.2.length ≤ l2.length := by omega
  have ho : ∀ l : List Int, InU32 l → l.length ≤ 1024 → (l.map (litP s.1)).length ≤ 1024 ∧ ∀ x ∈ l.map (litP s.1), wrap64 (x / 2) ≤ a0 + ((latM s.1 l1).length : Int) + (s.2.length : Int) := fun l hl hn => by
    refine ⟨by rw [List.length_map]; exact hn, fun x hx => ?_⟩
    obtain ⟨y, hy, rfl⟩ := List.mem_map.1 hx
    have hu := hl y hy
    have hb := hS.litb ⟨by omega, by omega⟩ hu.1 hu.2
    have hr := litP_u32 hS.u32 hu.1 hu.2
    unfold latM
    rw [wrap64_id (by omega) (by omega), List.length_map]
    omega
  refine ⟨hS, hg, lat_in hS.u32 h1, fun g hgm => ?_, map_u32 hS.u32 h3, map_u32 hS.u32 h4, map_u32 hS.u32 h5, ⟨hp, by unfold latM; rw [List.length_map]; omega, fun k hk => ?_, fun k hk => ?_, fun k hk => ?_, ho l3 h3 hv.outs.1, ho l4 h4 hv.bads.1, ho l5 h5 hv.cons.1⟩⟩
  · obtain ⟨j, hj⟩ := List.getElem?_of_mem hgm
    obtain ⟨⟨n1, n2, n3, n4⟩, n5⟩ := hS.nice j g hj
    exact ⟨⟨by omega, by omega⟩, by omega, by omega⟩
  · have hk' : k < l1.length := by unfold latM at hk; rw [List.length_map] at hk; exact hk
    have hu := h1 _ (List.getElem_mem hk')
    have hb := hS.litb ⟨by omega, by omega⟩ hu.1.1 hu.1.2
    have hr := litP_u32 hS.u32 hu.1.1 hu.1.2
    have e : ((latM s.1 l1)[k]).f0 = litP s.1 l1[k].f0 := by simp only [latM, List.getElem_map]
    have el : (latM s.1 l1).length = l1.length := by unfold latM; rw [List.length_map]
    rw [e, el]
    exact ⟨hr.1, by omega⟩
  · have hk' : k < l1.length := by unfold latM at hk; rw [List.length_map] at hk; exact hk
    have e : ((latM s.1 l1)[k]).f1 = l1[k].f1 := by simp only [latM, List.getElem_map]
    rw [e]
    exact hv.reset k hk'
  · obtain ⟨⟨n1, n2, n3, n4⟩, n5⟩ := hS.nice k s.2[k] (List.getElem?_eq_getElem hk)
    have el : (latM s.1 l1).length = l1.length := by unfold latM; rw [List.length_map]
    rw [el]
    exact ⟨by omega, by omega, by omega⟩
end Go.Proofs.Yteiiodlgdbiimaa.F
end
section
namespace Go.Proofs.Yteiiodlgdbiimaa.F
open Go.RowKit Go.Shelf Go.Proofs.YteiiodlgdbiimaaW.PrintWords Go.Proofs.YteiiodlgdbiimaaW.PrintLast Go.Proofs.YteiiodlgdbiimaaW.PrintMore
set_option linter.unusedVariables false
set_option linter.unusedSimpArgs false
def notP (x : Int) : Int := if x = 0 then 1 else if x = 1 then 0 else 2
def andP (x y : Int) : Int := if x = 0 ∨ y = 0 then 0 else if x = 1 ∧ y = 1 then 1 else 2
def valP (vars : List Int) (x : Int) : Int := if (vars.length : Int) ≤ x / 2 then 2 else if 2 < rd vars (x / 2) then 2 else if x % 2 = 1 then notP (rd vars (x / 2)) else rd vars (x / 2)
def runV (base : List Int) (l2 : List S68) : Nat → List Int
  | 0 => base
  | k + 1 => runV base l2 k ++ [andP (valP (runV base l2 k) (rd_T68 l2 (k : Int)).f0) (valP (runV base l2 k) (rd_T68 l2 (k : Int)).f1)]
def le3 (x y : Int) : Prop := x = 2 ∨ y = x
def Tri (x : Int) : Prop := x = 0 ∨ x = 1 ∨ x = 2
theorem le3_refl (x : Int) : le3 x x := .inr rfl
theorem le3_trans {x y z : Int} (h : le3 x y) (k : le3 y z) : le3 x z := by unfold le3 at *; omega
theorem not_tri (x : Int) : Tri (notP x) := by unfold notP Tri; split <;> (try split) <;> omega
theorem and_tri (x y : Int) : Tri (andP x y) := by unfold andP Tri; split <;> (try split) <;> omega
theorem not_mono {x y : Int} (h : le3 x y) : le3 (notP x) (notP y) := by
  rcases h with rfl | rfl
  · exact .inl rfl
  · exact le3_refl _
theorem and_comm3 (x y : Int) : andP x y = andP y x := by
  unfold andP
  by_cases h1 : x = 0 <;> by_cases h2 : y = 0 <;> by_cases h3 : x = 1 <;> by_cases h4 : y = 1 <;> simp [h1, h2, h3, h4]
theorem and_mono {x y x' y' : Int} (h : le3 x x') (k : le3 y y') : le3 (andP x y) (andP x' y') := by
  unfold le3 andP at *
  rcases h with rfl | rfl
  · rcases k with rfl | rfl
    · left
      simp
    · by_cases hy : y' = 0
      · right
        simp [hy]
      · left
        simp [hy]
  · rcases k with rfl | rfl
    · by_cases hx : x' = 0
      · right
        simp [hx]
      · left
        simp [hx]
    · exact .inr rfl
theorem and_one3 {x : Int} (h : Tri x) : andP x 1 = x := by
  rcases h with rfl | rfl | rfl <;> rfl
theorem and_self3 {x : Int} (h : Tri x) : andP x x = x := by
  rcases h with rfl | rfl | rfl <;> rfl
theorem and_not3 {x : Int} (h : Tri x) : le3 (andP (notP x) x) 0 := by
  rcases h with rfl | rfl | rfl
  · exact .inr rfl
  · exact .inr rfl
  · exact .inl rfl
theorem not_not3 {x : Int} (h : Tri x) : notP (notP x) = x := by
  rcases h with rfl | rfl | rfl <;> rfl
def TriL (l : List Int) : Prop := ∀ x ∈ l, Tri x
theorem rd_tri {l : List Int} (h : TriL l) (i : Int) : Tri (rd l i) := by
  unfold rd
  rw [List.getD_eq_getElem?_getD]
  cases hg : l[i.toNat]? with
  | none => exact .inl rfl
  | some v => exact h v (List.mem_of_getElem? hg)
theorem val_tri {l : List Int} (h : TriL l) (x : Int) : Tri (valP l x) := by
  unfold valP
  split
  · exact .inr (.inr rfl)
  split
  · exact .inr (.inr rfl)
  split
  · exact not_tri _
  · exact rd_tri h _
theorem val_in {l : List Int} (h : TriL l) {x : Int} (hx : x / 2 < (l.length : Int)) : valP l x = if x % 2 = 1 then notP (rd l (x / 2)) else rd l (x / 2) := by
  unfold valP
  have := rd_tri h (x / 2)
  unfold Tri at this
  rw [if_neg (by omega), if_neg (by omega)]
theorem rd_app {l t : List Int} {i : Int} (h0 : 0 ≤ i) (h : i < (l.length : Int)) : rd (l ++ t) i = rd l i := by
  unfold rd
  rw [List.getD_eq_getElem?_getD, List.getD_eq_getElem?_getD, List.getElem?_append_left (by omega)]
theorem rd_last {l : List Int} {y : Int} : rd (l ++ [y]) (l.length : Int) = y := by
  unfold rd
  simp
theorem val_app {l t : List Int} {x : Int} (h0 : 0 ≤ x) (h : x / 2 < (l.length : Int)) : valP (l ++ t) x = valP l x := by
  unfold valP
  have h1 : ¬ ((l ++ t).length : Int) ≤ x / 2 := by rw [List.length_append]; omega
  have h2 : ¬ (l.length : Int) ≤ x / 2 := by omega
  rw [rd_app (by omega) h, if_neg h1, if_neg h2]
theorem run_len {base : List Int} {l2 : List S68} : ∀ k : Nat, (runV base l2 k).length = base.length + k
  | 0 => rfl
  | k + 1 => by
    unfold runV
    rw [List.length_append, run_len k]
    simp
    omega
theorem run_tri {base : List Int} {l2 : List S68} (hb : TriL base) : ∀ k : Nat, TriL (runV base l2 k)
  | 0 => hb
  | k + 1 => fun x hx => by
    unfold runV at hx
    rcases List.mem_append.1 hx with hx | hx
    · exact run_tri hb k x hx
    · rw [List.mem_singleton.1 hx]
      exact and_tri _ _
theorem run_app {base : List Int} {l2 : List S68} (k : Nat) : ∀ d : Nat, ∃ t, runV base l2 (k + d) = runV base l2 k ++ t
  | 0 => ⟨[], by simp⟩
  | d + 1 => by
    obtain ⟨t, h⟩ := run_app k d
    refine ⟨t ++ [andP (valP (runV base l2 (k + d)) (rd_T68 l2 ((k + d : Nat) : Int)).f0) (valP (runV base l2 (k + d)) (rd_T68 l2 ((k + d : Nat) : Int)).f1)], ?_⟩
    show runV base l2 (k + d + 1) = _
    rw [runV, ← List.append_assoc, ← h]
theorem run_more {base : List Int} {l2 t : List S68} : ∀ k : Nat, k ≤ l2.length → runV base (l2 ++ t) k = runV base l2 k
  | 0, _ => rfl
  | k + 1, h => by
    have e : rd_T68 (l2 ++ t) (k : Int) = rd_T68 l2 (k : Int) := by
      unfold rd_T68
      rw [List.getD_eq_getElem?_getD, List.getD_eq_getElem?_getD, List.getElem?_append_left (by simp; omega)]
    unfold runV
    rw [run_more k (by omega), e]
theorem run_at {base : List Int} {l2 : List S68} {m j : Nat} (hj : j < m) (h0 : 0 ≤ (rd_T68 l2 (j : Int)).f0 ∧ (rd_T68 l2 (j : Int)).f0 / 2 < (base.length : Int) + (j : Int)) (h1 : 0 ≤ (rd_T68 l2 (j : Int)).f1 ∧ (rd_T68 l2 (j : Int)).f1 / 2 < (base.length : Int) + (j : Int)) :
    rd (runV base l2 m) ((base.length : Int) + (j : Int)) = andP (valP (runV base l2 m) (rd_T68 l2 (j : Int)).f0) (valP (runV base l2 m) (rd_T68 l2 (j : Int)).f1) := by
  obtain ⟨d, rfl⟩ : ∃ d, m = j + 1 + d := ⟨m - (j + 1), by omega⟩
  obtain ⟨t, ht⟩ := run_app (base := base) (l2 := l2) (j + 1) d
  have hl := run_len (base := base) (l2 := l2) j
  have hl1 := run_len (base := base) (l2 := l2) (j + 1)
  rw [ht, rd_app (by omega) (by omega), val_app h0.1 (by omega), val_app h1.1 (by omega)]
  rw [runV, val_app h0.1 (by omega), val_app h1.1 (by omega)]
  have e : (base.length : Int) + (j : Int) = ((runV base l2 j).length : Int) := by omega
  rw [e, rd_last]
theorem lit_val {now tl : List Int} {x : Int} (hn : TriL now) (ht : InU32 tl) (h0 : 0 ≤ x) (h1 : x < 4294967296) (hlt : x / 2 < (tl.length : Int)) (hin : rd tl (x / 2) / 2 < (now.length : Int)) :
    valP now (litP tl x) = if x % 2 = 1 then notP (valP now (rd tl (x / 2))) else valP now (rd tl (x / 2)) := by
  have hr := rd_u32 ht (x / 2)
  unfold litP
  rw [if_pos hlt, and_one h0 h1]
  generalize rd tl (x / 2) = r at hr hin ⊢
  rcases (show x % 2 = 0 ∨ x % 2 = 1 by omega) with e | e
  · rw [e, xor_zero32 hr.1 hr.2, if_neg (by decide)]
  · rw [e, xor_one hr.1 hr.2, if_pos rfl, val_in hn (by omega), val_in hn hin]
    have e2 : (2 * (r / 2) + (r + 1) % 2) / 2 = r / 2 := by omega
    rw [e2]
    rcases (show r % 2 = 0 ∨ r % 2 = 1 by omega) with e3 | e3
    · rw [if_pos (by omega), if_neg (by omega)]
    · rw [if_neg (by omega), if_pos e3, not_not3 (rd_tri hn _)]
structure GoodW (F : Int) (base V tl : List Int) (gs : List S68) (k : Nat) : Prop where
  len : tl.length = k
  u32 : InU32 tl
  inb : ∀ v : Nat, v < k → rd tl (v : Int) / 2 < F + (gs.length : Int)
  val : ∀ v : Nat, v < k → le3 (rd V (v : Int)) (valP (runV base gs gs.length) (rd tl (v : Int)))
  refs : ∀ j : Nat, j < gs.length → (0 ≤ (rd_T68 gs (j : Int)).f0 ∧ (rd_T68 gs (j : Int)).f0 / 2 < F + (j : Int)) ∧ (0 ≤ (rd_T68 gs (j : Int)).f1 ∧ (rd_T68 gs (j : Int)).f1 / 2 < F + (j : Int))
theorem GoodW.lit {F : Int} {base V tl : List Int} {gs : List S68} {k : Nat} (h : GoodW F base V tl gs k) (hF : (base.length : Int) = F) (hb : TriL base) (hV : TriL V) (hk : k ≤ V.length) {x : Int} (h0 : 0 ≤ x) (h1 : x < 4294967296) (hx : x / 2 < (k : Int)) :
    le3 (valP V x) (valP (runV base gs gs.length) (litP tl x)) ∧ litP tl x / 2 < F + (gs.length : Int) := by
  have hn := run_tri (l2 := gs) hb gs.length
  have hl := run_len (base := base) (l2 := gs) gs.length
  obtain ⟨v, hv⟩ : ∃ v : Nat, x / 2 = (v : Int) := ⟨(x / 2).toNat, by omega⟩
  have hi := h.inb v (by omega)
  have hvl := h.val v (by omega)
  have hr := rd_u32 h.u32 (v : Int)
  have hlen := h.len
  constructor
  · rw [lit_val hn h.u32 h0 h1 (by omega) (by rw [hv]; omega), val_in hV (by omega), hv]
    split
    · exact not_mono hvl
    · exact hvl
  · unfold litP
    rw [if_pos (by omega), and_one h0 h1, hv]
    rcases (show x % 2 = 0 ∨ x % 2 = 1 by omega) with e | e
    · rw [e, xor_zero32 hr.1 hr.2]
      exact hi
    · rw [e, xor_one hr.1 hr.2]
      omega
theorem rd_snoc {l : List Int} {y : Int} {v : Nat} (h : v < l.length) : rd (l ++ [y]) (v : Int) = rd l (v : Int) := rd_app (by omega) (by omega)
theorem rd68_snoc {l : List S68} {y : S68} {v : Nat} (h : v < l.length) : rd_T68 (l ++ [y]) (v : Int) = rd_T68 l (v : Int) := by
  unfold rd_T68
  rw [List.getD_eq_getElem?_getD, List.getD_eq_getElem?_getD, List.getElem?_append_left (by simp; omega)]
theorem rd68_last {l : List S68} {y : S68} : rd_T68 (l ++ [y]) (l.length : Int) = y := by
  unfold rd_T68
  simp
theorem GoodW.snoc {F : Int} {base V tl : List Int} {gs : List S68} {k : Nat} (h : GoodW F base V tl gs k) {y : Int} (hy : 0 ≤ y ∧ y < 4294967296) (hyb : y / 2 < F + (gs.length : Int)) (hyv : le3 (rd V (k : Int)) (valP (runV base gs gs.length) y)) : GoodW F base V (tl ++ [y]) gs (k + 1) := by
  have hlen := h.len
  refine ⟨by rw [List.length_append, hlen]; rfl, fun x hx => ?_, fun v hv => ?_, fun v hv => ?_, h.refs⟩
  · rcases List.mem_append.1 hx with hx | hx
    · exact h.u32 x hx
    · rw [List.mem_singleton.1 hx]
      exact hy
  · by_cases e : v = k
    · subst e
      have e1 : rd (tl ++ [y]) (v : Int) = y := by rw [← hlen]; exact rd_last
      rw [e1]
      exact hyb
    · rw [rd_snoc (by omega)]
      exact h.inb v (by omega)
  · by_cases e : v = k
    · subst e
      have : rd (tl ++ [y]) (v : Int) = y := by rw [← hlen]; exact rd_last
      rw [this]
      exact hyv
    · rw [rd_snoc (by omega)]
      exact h.val v (by omega)
theorem GoodW.gate {F : Int} {base V tl : List Int} {gs : List S68} {k : Nat} (h : GoodW F base V tl gs k) (hF : (base.length : Int) = F) {g : S68} (h0 : 0 ≤ g.f0 ∧ g.f0 / 2 < F + (gs.length : Int)) (h1 : 0 ≤ g.f1 ∧ g.f1 / 2 < F + (gs.length : Int)) :
    GoodW F base V tl (gs ++ [g]) k ∧ runV base (gs ++ [g]) (gs ++ [g]).length = runV base gs gs.length ++ [andP (valP (runV base gs gs.length) g.f0) (valP (runV base gs gs.length) g.f1)] := by
  have hl := run_len (base := base) (l2 := gs) gs.length
  have e : runV base (gs ++ [g]) (gs ++ [g]).length = runV base gs gs.length ++ [andP (valP (runV base gs gs.length) g.f0) (valP (runV base gs gs.length) g.f1)] := by
    rw [List.length_append, List.length_singleton, runV, run_more _ (Nat.le_refl _), rd68_last]
  refine ⟨⟨h.len, h.u32, fun v hv => ?_, fun v hv => ?_, fun j hj => ?_⟩, e⟩
  · have := h.inb v hv
    rw [List.length_append, List.length_singleton]
    omega
  · have hi := h.inb v hv
    have hr := rd_u32 h.u32 (v : Int)
    rw [e, val_app hr.1 (by omega)]
    exact h.val v hv
  · rw [List.length_append, List.length_singleton] at hj
    by_cases ej : j = gs.length
    · subst ej
      rw [rd68_last]
      exact ⟨h0, h1⟩
    · rw [rd68_snoc (by omega)]
      exact h.refs j (by omega)
theorem now_zero {base : List Int} {gs : List S68} (hb : TriL base) (h1 : 1 ≤ base.length) (hz : rd base 0 = 0) : rd (runV base gs gs.length) 0 = 0 := by
  obtain ⟨t, ht⟩ := run_app (base := base) (l2 := gs) 0 gs.length
  rw [Nat.zero_add] at ht
  rw [ht, rd_app (Int.le_refl _) (by show (0 : Int) < ((runV base gs 0).length : Int); rw [run_len]; omega)]
  exact hz
theorem val_flip {now : List Int} (hn : TriL now) {lo : Int} (h0 : 0 ≤ lo) (h1 : lo < 4294967296) (hin : lo / 2 < (now.length : Int)) : valP now (Go.bits .xor .u32 lo 1) = notP (valP now lo) := by
  rw [xor_one h0 h1, val_in hn (by omega), val_in hn hin]
  have e2 : (2 * (lo / 2) + (lo + 1) % 2) / 2 = lo / 2 := by omega
  rw [e2]
  rcases (show lo % 2 = 0 ∨ lo % 2 = 1 by omega) with e3 | e3
  · rw [if_pos (by omega), if_neg (by omega)]
  · rw [if_neg (by omega), if_pos e3, not_not3 (rd_tri hn _)]
theorem gate_step {F : Int} {base V tl : List Int} {gs : List S68} {k : Nat} (h : GoodW F base V tl gs k) (hF : (base.length : Int) = F) (hb : TriL base) (hz : rd base 0 = 0) (hf : 1 ≤ F ∧ F ≤ 40000) (hg : gs.length ≤ 40000) {a b : Int} (ha : 0 ≤ a ∧ a < 4294967296) (hbb : 0 ≤ b ∧ b < 4294967296) (hai : a / 2 < F + (gs.length : Int)) (hbi : b / 2 < F + (gs.length : Int)) :
    GoodW F base V tl (gateP F gs a b).2 k ∧ (0 ≤ (gateP F gs a b).1 ∧ (gateP F gs a b).1 < 4294967296) ∧ (gateP F gs a b).1 / 2 < F + ((gateP F gs a b).2.length : Int) ∧ le3 (andP (valP (runV base gs gs.length) a) (valP (runV base gs gs.length) b)) (valP (runV base (gateP F gs a b).2 (gateP F gs a b).2.length) (gateP F gs a b).1) := by
  have hn := run_tri (l2 := gs) hb gs.length
  have hl := run_len (base := base) (l2 := gs) gs.length
  have h00 := now_zero (gs := gs) hb (by omega) hz
  have hU := (gateP_ok (first := F) (gs := gs) (a := a) (b := b) (by omega) hg ha hbb).1
  have hcm : andP (valP (runV base gs gs.length) a) (valP (runV base gs gs.length) b) = andP (valP (runV base gs gs.length) (mx a b)) (valP (runV base gs gs.length) (mn a b)) := by
    by_cases e : a < b
    · have e1 : mx a b = b := by unfold mx; rw [if_pos e]
      have e2 : mn a b = a := by unfold mn; rw [if_neg (by omega)]
      rw [e1, e2, and_comm3]
    · by_cases e' : b < a
      · have e1 : mx a b = a := by unfold mx; rw [if_neg e]
        have e2 : mn a b = b := by unfold mn; rw [if_pos e']
        rw [e1, e2]
      · obtain rfl : a = b := by omega
        have e1 : mx a a = a := by unfold mx; rw [if_neg e]
        have e2 : mn a a = a := by unfold mn; rw [if_neg e]
        rw [e1, e2]
  have hHI : (0 ≤ mx a b ∧ mx a b < 4294967296) ∧ mx a b / 2 < F + (gs.length : Int) := by unfold mx; split <;> exact ⟨by omega, by omega⟩
  have hLO : (0 ≤ mn a b ∧ mn a b < 4294967296) ∧ mn a b / 2 < F + (gs.length : Int) := by unfold mn; split <;> exact ⟨by omega, by omega⟩
  rw [hcm]
  unfold gateP at hU ⊢
  generalize mx a b = hi at hHI hU ⊢
  generalize mn a b = lo at hLO hU ⊢
  by_cases c0 : lo = 0
  · rw [if_pos c0] at hU ⊢
    refine ⟨h, hU, by dsimp only; omega, ?_⟩
    subst c0
    have e : valP (runV base gs gs.length) 0 = 0 := by rw [val_in hn (by omega)]; simpa using h00
    dsimp only
    rw [e]
    right
    unfold andP
    simp
  rw [if_neg c0] at hU ⊢
  by_cases c1 : hi = Go.bits .xor .u32 lo 1
  · rw [if_pos c1] at hU ⊢
    refine ⟨h, hU, by dsimp only; omega, ?_⟩
    have e : valP (runV base gs gs.length) 0 = 0 := by rw [val_in hn (by omega)]; simpa using h00
    dsimp only
    rw [e, c1, val_flip hn hLO.1.1 hLO.1.2 (by omega)]
    exact and_not3 (val_tri hn _)
  rw [if_neg c1] at hU ⊢
  by_cases c2 : lo = 1
  · rw [if_pos c2] at hU ⊢
    refine ⟨h, hU, hHI.2, ?_⟩
    subst c2
    have e : valP (runV base gs gs.length) 1 = 1 := by
      rw [val_in hn (by omega), if_pos (by decide)]
      have : (1 : Int) / 2 = 0 := by decide
      rw [this, h00]
      rfl
    dsimp only
    rw [e, and_one3 (val_tri hn _)]
    exact le3_refl _
  rw [if_neg c2] at hU ⊢
  by_cases c3 : hi = lo
  · rw [if_pos c3] at hU ⊢
    refine ⟨h, hU, hHI.2, ?_⟩
    subst c3
    dsimp only
    rw [and_self3 (val_tri hn _)]
    exact le3_refl _
  rw [if_neg c3] at hU ⊢
  cases hx : idxG gs hi lo with
  | some j =>
    rw [hx] at hU
    obtain ⟨⟨g, hj, e0, e1⟩, _⟩ := idxG_some gs j hx
    have hjl := idxG_lt hx
    have er : rd_T68 gs (j : Int) = g := by
      unfold rd_T68
      rw [List.getD_eq_getElem?_getD, Int.toNat_natCast, hj]
      rfl
    have hrf := h.refs j hjl
    rw [er] at hrf
    refine ⟨h, hU, by dsimp only; omega, ?_⟩
    dsimp only
    have d1 : 2 * (F + (j : Int)) / 2 = F + (j : Int) := by omega
    have ev : valP (runV base gs gs.length) (2 * (F + (j : Int))) = rd (runV base gs gs.length) (F + (j : Int)) := by rw [val_in hn (by omega), if_neg (by omega), d1]
    rw [ev, ← hF, run_at hjl (by rw [er, hF]; exact hrf.1) (by rw [er, hF]; exact hrf.2), er, e0, e1]
    exact le3_refl _
  | none =>
    rw [hx] at hU
    obtain ⟨hG, hrun⟩ := h.gate hF (g := ⟨hi, lo⟩) ⟨hHI.1.1, hHI.2⟩ ⟨hLO.1.1, hLO.2⟩
    refine ⟨hG, hU, by dsimp only; simp; omega, ?_⟩
    dsimp only
    rw [hrun]
    have d1 : 2 * (F + (gs.length : Int)) / 2 = F + (gs.length : Int) := by omega
    have hT : TriL (runV base gs gs.length ++ [andP (valP (runV base gs gs.length) hi) (valP (runV base gs gs.length) lo)]) := fun x hx => by
      rcases List.mem_append.1 hx with hx | hx
      · exact hn x hx
      · rw [List.mem_singleton.1 hx]
        exact and_tri _ _
    have e : F + (gs.length : Int) = ((runV base gs gs.length).length : Int) := by omega
    rw [val_in hT (by simp; omega), if_neg (by omega), d1, e, rd_last]
    exact le3_refl _
end Go.Proofs.Yteiiodlgdbiimaa.F
end
section
namespace Go.Proofs.Yteiiodlgdbiimaa.F
open Go.RowKit Go.Shelf Go.Proofs.YteiiodlgdbiimaaW.PrintWords Go.Proofs.YteiiodlgdbiimaaW.PrintLast Go.Proofs.YteiiodlgdbiimaaW.PrintMore
set_option linter.unusedVariables false
set_option linter.unusedSimpArgs false
theorem val_const {base : List Int} {gs : List S68} (hb : TriL base) (h1 : 1 ≤ base.length) (hz : rd base 0 = 0) {x : Int} (hx : x = 0 ∨ x = 1) : valP (runV base gs gs.length) x = x := by
  have hn := run_tri (l2 := gs) hb gs.length
  have hl := run_len (base := base) (l2 := gs) gs.length
  have h00 := now_zero (gs := gs) hb h1 hz
  rcases hx with rfl | rfl
  · rw [val_in hn (by omega)]
    simpa using h00
  · rw [val_in hn (by omega), if_pos (by decide)]
    have : (1 : Int) / 2 = 0 := by decide
    rw [this, h00]
    rfl
theorem good_run2 {F : Int} {b0 base : List Int} {l2 : List S68} {is : List Int} (hF0 : (b0.length : Int) = F) (hb0 : TriL b0) (hle : ∀ v : Nat, v < b0.length → le3 (rd b0 (v : Int)) (rd base (v : Int))) (hF : (base.length : Int) = F) (hb : TriL base) (hz : rd base 0 = 0) (hf : 1 ≤ F ∧ F ≤ 20000) (h2 : In68 l2) (hl2 : l2.length ≤ 20000) (hi : TriL is) (hil : (is.length : Int) = F + (l2.length : Int))
    (hg : ∀ j : Nat, j < l2.length → (rd_T68 l2 (j : Int)).f0 / 2 < F + (j : Int) ∧ (rd_T68 l2 (j : Int)).f1 / 2 < F + (j : Int)) (hc : ∀ v : Nat, v < is.length → rd is (v : Int) ≠ 2 → rd (runV b0 l2 l2.length) (v : Int) = rd is (v : Int)) :
    ∀ k : Nat, k ≤ is.length → GoodW F base (runV b0 l2 l2.length) (runW F l2 is k).1 (runW F l2 is k).2 k ∧ (runW F l2 is k).2.length ≤ k
  | 0, _ => ⟨⟨rfl, (fun x hx => nomatch hx), (fun v hv => absurd hv (Nat.not_lt_zero v)), (fun v hv => absurd hv (Nat.not_lt_zero v)), (fun j hj => absurd hj (Nat.not_lt_zero j))⟩, Nat.le_refl _⟩
  | k + 1, hk => by
    obtain ⟨hG, hgl⟩ := good_run2 hF0 hb0 hle hF hb hz hf h2 hl2 hi hil hg hc k (by omega)
    have hV := run_tri (l2 := l2) hb0 l2.length
    have hVl := run_len (base := b0) (l2 := l2) l2.length
    have hx := rd_tri hi (k : Int)
    have hcx := hc k (by omega)
    unfold runW
    generalize runW F l2 is k = s at hG hgl ⊢
    have hnl := run_len (base := base) (l2 := s.2) s.2.length
    unfold stepW
    by_cases h : rd is (k : Int) = 2
    · rw [if_neg (by simpa using h)]
      by_cases hk2 : (k : Int) < F
      · rw [if_pos hk2]
        refine ⟨hG.snoc ⟨by omega, by omega⟩ (by omega) ?_, by dsimp only; omega⟩
        have hn := run_tri (l2 := s.2) hb s.2.length
        have d1 : 2 * (k : Int) / 2 = (k : Int) := by omega
        rw [val_in hn (by omega), if_neg (by omega), d1]
        obtain ⟨t, ht⟩ := run_app (base := b0) (l2 := l2) 0 l2.length
        obtain ⟨t', ht'⟩ := run_app (base := base) (l2 := s.2) 0 s.2.length
        rw [Nat.zero_add] at ht ht'
        have e0 : runV b0 l2 0 = b0 := rfl
        have e0' : runV base s.2 0 = base := rfl
        rw [ht, ht', e0, e0', rd_app (by omega) (by omega), rd_app (by omega) (by omega)]
        exact hle k (by omega)
      · rw [if_neg hk2]
        obtain ⟨j, hj⟩ : ∃ j : Nat, (k : Int) = F + (j : Int) := ⟨((k : Int) - F).toNat, by omega⟩
        have hjl : j < l2.length := by omega
        have ekj : (k : Int) - F = (j : Int) := by omega
        have hgj := hg j hjl
        have hu := rd68_ok h2 (j : Int)
        rw [ekj]
        generalize hy : rd_T68 l2 (j : Int) = y at hgj hu
        have hL0 := hG.lit hF hb hV (by omega) hu.1.1 hu.1.2 (by omega)
        have hL1 := hG.lit hF hb hV (by omega) hu.2.1 hu.2.2 (by omega)
        have hU0 := litP_u32 hG.u32 hu.1.1 hu.1.2
        have hU1 := litP_u32 hG.u32 hu.2.1 hu.2.2
        obtain ⟨g1, g2, g3, g4⟩ := gate_step hG hF hb hz ⟨hf.1, by omega⟩ (by omega) hU0 hU1 hL0.2 hL1.2
        have hgo := (gateP_ok (first := F) (gs := s.2) (by omega) (by omega) hU0 hU1).2
        have hrun := run_at (base := b0) (l2 := l2) (m := l2.length) hjl (by rw [hy, hF0]; exact ⟨hu.1.1, hgj.1⟩) (by rw [hy, hF0]; exact ⟨hu.2.1, hgj.2⟩)
        rw [hy, hF0, ← hj] at hrun
        refine ⟨g1.snoc g2 g3 ?_, by dsimp only; omega⟩
        rw [hrun]
        exact le3_trans (and_mono hL0.1 hL1.1) g4
    · rw [if_pos h]
      have h01 : rd is (k : Int) = 0 ∨ rd is (k : Int) = 1 := by unfold Tri at hx; omega
      refine ⟨hG.snoc ⟨by omega, by omega⟩ (by omega) ?_, by dsimp only; omega⟩
      rw [val_const hb (by omega) hz h01, hcx h]
      exact le3_refl _
theorem good_run {F : Int} {base : List Int} {l2 : List S68} {is : List Int} (hF : (base.length : Int) = F) (hb : TriL base) (hz : rd base 0 = 0) (hf : 1 ≤ F ∧ F ≤ 20000) (h2 : In68 l2) (hl2 : l2.length ≤ 20000) (hi : TriL is) (hil : (is.length : Int) = F + (l2.length : Int))
    (hg : ∀ j : Nat, j < l2.length → (rd_T68 l2 (j : Int)).f0 / 2 < F + (j : Int) ∧ (rd_T68 l2 (j : Int)).f1 / 2 < F + (j : Int)) (hc : ∀ v : Nat, v < is.length → rd is (v : Int) ≠ 2 → rd (runV base l2 l2.length) (v : Int) = rd is (v : Int)) :
    ∀ k : Nat, k ≤ is.length → GoodW F base (runV base l2 l2.length) (runW F l2 is k).1 (runW F l2 is k).2 k ∧ (runW F l2 is k).2.length ≤ k :=
    good_run2 hF hb (fun v _ => le3_refl _) hF hb hz hf h2 hl2 hi hil hg hc
end Go.Proofs.Yteiiodlgdbiimaa.F
end
section
namespace Go.Proofs.Yteiiodlgdbiimaa.F
open Go.RowKit Go.Shelf Go.Proofs.YteiiodlgdbiimaaW.PrintWords Go.Proofs.YteiiodlgdbiimaaW.PrintLast Go.Proofs.YteiiodlgdbiimaaW.PrintMore
set_option linter.unusedVariables false
set_option linter.unusedSimpArgs false
theorem not1_is (x : Int) : inquestref06_Not1.f x = some (notP x) := by
  unfold inquestref06_Not1.f notP
  split
  · rfl
  split <;> rfl
theorem and1_ev (x y : Int) : Ev (fun k => inquestref06_And1.f k x y) (andP x y) := by
  have hj : ∀ b : Bool, Ev (fun k => inquestref06_And1.j0 k x y b) (if b = true then 0 else if x = 1 then (if y = 1 then 1 else 2) else 2) := fun b =>
    Ev.step (f := fun _ => some (if b = true then 0 else if x = 1 then (if y = 1 then 1 else 2) else 2)) (fun k => by
      simp only [inquestref06_And1.j0]
      split
      · rfl
      split
      · split <;> rfl
      · rfl) (Ev.now _)
  by_cases hx : x = 0
  · have h := hj true
    refine Ev.congr (fun k => ?_) (by unfold andP; rw [if_pos (Or.inl hx)]; exact h)
    unfold inquestref06_And1.f
    rw [if_pos hx]
  · have h := hj (y == 0)
    have e : (if (y == 0) = true then 0 else if x = 1 then (if y = 1 then 1 else 2) else 2) = andP x y := by
      unfold andP
      by_cases hy : y = 0
      · rw [if_pos (by simp [hy]), if_pos (Or.inr hy)]
      · have hb : (y == 0) = false := beq_eq_false_iff_ne.mpr hy
        have hor : ¬ (x = 0 ∨ y = 0) := by omega
        rw [hb, if_neg (by decide), if_neg hor]
        by_cases h1 : x = 1
        · by_cases h2 : y = 1
          · rw [if_pos h1, if_pos h2, if_pos ⟨h1, h2⟩]
          · rw [if_pos h1, if_neg h2, if_neg (fun h => h2 h.2)]
        · rw [if_neg h1, if_neg (fun h => h1 h.1)]
    rw [e] at h
    refine Ev.congr (fun k => ?_) h
    unfold inquestref06_And1.f
    rw [if_neg hx]
theorem value_ev {vars : List Int} (hv : TriL vars) {x : Int} (h0 : 0 ≤ x) (h1 : x < 4294967296) : Ev (fun k => inquestref07_Value.f k vars x) (valP vars x) := by
  have ht : (Int.tdiv x 2) % 4294967296 = x / 2 := half_u32 h0 h1
  have hm : Int.tmod x 2 = x % 2 := Int.tmod_eq_emod_of_nonneg h0
  by_cases hl : (vars.length : Int) ≤ x / 2
  · have hj : Ev (fun k => inquestref07_Value.j0 k vars x true) 2 := Ev.step (f := fun _ => some 2) (fun k => by simp only [inquestref07_Value.j0]; rw [if_pos trivial]) (Ev.now 2)
    refine Ev.congr (fun k => ?_) (by unfold valP; rw [if_pos hl]; exact hj)
    unfold inquestref07_Value.f
    rw [ht, if_pos hl]
  · have hr := rd_tri hv (x / 2)
    have hn2 : ¬ 2 < rd vars (x / 2) := by unfold Tri at hr; omega
    have hj : Ev (fun k => inquestref07_Value.j0 k vars x false) (valP vars x) := by
      refine Ev.step (f := fun _ => some (valP vars x)) (fun k => ?_) (Ev.now _)
      simp only [inquestref07_Value.j0]
      rw [if_neg (by decide), hm, ht, not1_is]
      unfold valP
      rw [if_neg hl, if_neg hn2]
      by_cases hp : x % 2 = 1
      · rw [if_pos hp, if_pos (by omega), if_pos (by omega), if_pos hp]
        rfl
      · rw [if_neg hp, if_pos (by omega), if_pos (by omega), if_neg hp]
    refine Ev.congr (fun k => ?_) hj
    unfold inquestref07_Value.f
    rw [ht, if_neg hl, if_pos (by omega), if_pos (by omega), decide_eq_false hn2]
end Go.Proofs.Yteiiodlgdbiimaa.F
end
section
namespace Go.Proofs.Yteiiodlgdbiimaa.F
open Go.RowKit Go.Shelf Go.Proofs.YteiiodlgdbiimaaW.PrintWords Go.Proofs.YteiiodlgdbiimaaW.PrintLast Go.Proofs.YteiiodlgdbiimaaW.PrintMore
set_option linter.unusedVariables false
set_option linter.unusedSimpArgs false
theorem fine_ev {l : List Int} {m : Int} (hl : l.length < 9223372036854775808) : Ev (fun k => inquestref07_fine.f k l m) (l.all (fun x => decide (x ≤ 2)) && ((l.length : Int) == m)) := by
  have key : ∀ (d i : Nat), l.length - i = d → i ≤ l.length → Ev (fun k => inquestref07_fine.l0 k l m (i : Int)) ((l.drop i).all (fun x => decide (x ≤ 2)) && ((l.length : Int) == m)) := by
    intro d
    induction d with
    | zero =>
      intro i hd hi
      obtain rfl : i = l.length := by omega
      refine Ev.step (f := fun _ => some ((l.length : Int) == m)) (fun k => ?_) (by rw [List.drop_length]; exact Ev.now _)
      simp only [inquestref07_fine.l0]
      rw [if_neg (by omega)]
    | succ d ih =>
      intro i hd hi
      have hlt : i < l.length := by omega
      rw [drop_at hlt, List.all_cons]
      by_cases hc : l[i] ≤ 2
      · rw [decide_eq_true hc, Bool.true_and]
        refine Ev.step (fun k => ?_) (ih (i + 1) (by omega) (by omega))
        simp only [inquestref07_fine.l0]
        rw [if_pos (by omega), if_pos (by omega), rd_at hlt, if_neg (by omega), wrap_nat' (by omega)]
      · rw [decide_eq_false hc, Bool.false_and, Bool.false_and]
        refine Ev.step (f := fun _ => some false) (fun k => ?_) (Ev.now _)
        simp only [inquestref07_fine.l0]
        rw [if_pos (by omega), if_pos (by omega), rd_at hlt, if_pos (by omega)]
  exact key l.length 0 (by omega) (by omega)
def baseF (state inputs : List Int) : List Int := 0 :: (inputs ++ state)
def nextF (now : List Int) (l1 : List S41) : List Int := l1.map (fun g => valP now g.f0)
theorem base_tri {state inputs : List Int} (hs : TriL state) (hi : TriL inputs) : TriL (baseF state inputs) := fun x hx => by
  rcases List.mem_cons.1 hx with rfl | hx
  · exact .inl rfl
  rcases List.mem_append.1 hx with hx | hx
  · exact hi x hx
  · exact hs x hx
theorem tri_of {l : List Int} (h : ∀ x ∈ l, 0 ≤ x ∧ x < 256) (k : l.all (fun x => decide (x ≤ 2)) = true) : TriL l := fun x hx => by
  have h1 := h x hx
  have h2 := List.all_eq_true.1 k x hx
  rw [decide_eq_true_eq] at h2
  unfold Tri
  omega
section
variable {a0 : Int} {l1 : List S41} {l2 : List S68} {l3 l4 l5 state inputs : List Int}
theorem frame_run (hv : Valid a0 l1 l2 l3 l4 l5) (h1 : In41 l1) (h2 : In68 l2) (hs : TriL state) (hi : TriL inputs) (ls : state.length = l1.length) (li : (inputs.length : Int) = a0) :
    Ev (fun k => inquestref07_Frame.j0 k state inputs false a0 l1 l2 l3 l4 l5) (runV (baseF state inputs) l2 l2.length, nextF (runV (baseF state inputs) l2 l2.length) l1, 0) := by
  have hp := hv.pos
  have hle := hv.le
  have hb := base_tri hs hi
  have hbl : (baseF state inputs).length = 1 + inputs.length + state.length := by unfold baseF; rw [List.length_cons, List.length_append]; omega
  have hvl := run_len (base := baseF state inputs) (l2 := l2) l2.length
  have hvt := run_tri (l2 := l2) hb l2.length
  have key2 : ∀ (d i : Nat), l1.length - i = d → i ≤ l1.length → Ev (fun k => inquestref07_Frame.l1 k (runV (baseF state inputs) l2 l2.length) (nextF (runV (baseF state inputs) l2 l2.length) (l1.take i)) (i : Int) a0 l1 l2 l3 l4 l5) (runV (baseF state inputs) l2 l2.length, nextF (runV (baseF state inputs) l2 l2.length) l1, 0) := by
    intro d
    induction d with
    | zero =>
      intro i hd hi
      obtain rfl : i = l1.length := by omega
      rw [List.take_length]
      refine Ev.step (f := fun _ => some (runV (baseF state inputs) l2 l2.length, nextF (runV (baseF state inputs) l2 l2.length) l1, 0)) (fun k => ?_) (Ev.now _)
      simp only [inquestref07_Frame.l1]
      rw [if_neg (by omega)]
    | succ d ih =>
      intro i hd hi
      have hlt : i < l1.length := by omega
      have hx := h1 _ (List.getElem_mem hlt)
      have e : nextF (runV (baseF state inputs) l2 l2.length) (l1.take i) ++ [valP (runV (baseF state inputs) l2 l2.length) l1[i].f0] = nextF (runV (baseF state inputs) l2 l2.length) (l1.take (i + 1)) := by
        unfold nextF
        rw [List.take_succ_eq_append_getElem hlt, List.map_append]
        rfl
      have el : (nextF (runV (baseF state inputs) l2 l2.length) (l1.take i)).length = i := by unfold nextF; rw [List.length_map, List.length_take]; omega
      have hgo : Ev (fun k => (inquestref07_Value.f k (runV (baseF state inputs) l2 l2.length) l1[i].f0).bind fun t634 => (if (nextF (runV (baseF state inputs) l2 l2.length) (l1.take i)).length < 140737488355328 then (inquestref07_Frame.l1 k (runV (baseF state inputs) l2 l2.length) (nextF (runV (baseF state inputs) l2 l2.length) (l1.take i) ++ [t634]) ((i + 1 : Nat) : Int) a0 l1 l2 l3 l4 l5) else (none))) (runV (baseF state inputs) l2 l2.length, nextF (runV (baseF state inputs) l2 l2.length) l1, 0) :=
        Ev.bind (value_ev hvt hx.1.1 hx.1.2) (Ev.ifp (by omega) (by rw [e]; exact ih (i + 1) (by omega) (by omega)))
      refine Ev.step (fun k => ?_) hgo
      simp only [inquestref07_Frame.l1]
      rw [if_pos (by omega), if_pos (by omega), rd41_at hlt, wrap_nat (by omega)]
  have key1 : ∀ (d i : Nat), l2.length - i = d → i ≤ l2.length → Ev (fun k => inquestref07_Frame.l0 k (runV (baseF state inputs) l2 i) (i : Int) a0 l1 l2 l3 l4 l5) (runV (baseF state inputs) l2 l2.length, nextF (runV (baseF state inputs) l2 l2.length) l1, 0) := by
    intro d
    induction d with
    | zero =>
      intro i hd hi
      obtain rfl : i = l2.length := by omega
      refine Ev.step (fun k => ?_) (key2 l1.length 0 (by omega) (by omega))
      simp only [inquestref07_Frame.l0]
      rw [if_neg (by omega)]
      rfl
    | succ d ih =>
      intro i hd hi
      have hlt : i < l2.length := by omega
      have hx := rd68_ok h2 (i : Int)
      have hil := run_len (base := baseF state inputs) (l2 := l2) i
      have hit := run_tri (l2 := l2) hb i
      have hgo : Ev (fun k => (inquestref07_Value.f k (runV (baseF state inputs) l2 i) ((rd_T68 l2 (i : Int)).f0)).bind fun t626 => ((inquestref07_Value.f k (runV (baseF state inputs) l2 i) ((rd_T68 l2 (i : Int)).f1)).bind fun t628 => ((inquestref06_And1.f k t626 t628).bind fun t629 => (if (runV (baseF state inputs) l2 i).length < 140737488355328 then (inquestref07_Frame.l0 k ((runV (baseF state inputs) l2 i) ++ [t629]) ((i + 1 : Nat) : Int) a0 l1 l2 l3 l4 l5) else (none))))) (runV (baseF state inputs) l2 l2.length, nextF (runV (baseF state inputs) l2 l2.length) l1, 0) :=
        Ev.bind (value_ev hit hx.1.1 hx.1.2) (Ev.bind (value_ev hit hx.2.1 hx.2.2) (Ev.bind (and1_ev _ _) (Ev.ifp (by omega) (ih (i + 1) (by omega) (by omega)))))
      refine Ev.step (fun k => ?_) hgo
      simp only [inquestref07_Frame.l0]
      rw [if_pos (by omega), if_pos (by omega), wrap_nat (by omega)]
  refine Ev.step (fun k => ?_) (key1 l2.length 0 (by omega) (by omega))
  simp only [inquestref07_Frame.j0]
  rw [if_neg (by decide)]
  show (if ([0] : List Int).length + inputs.length < 140737488355328 then _ else _) = _
  rw [if_pos (by simp; omega)]
  show (if (([0] : List Int) ++ inputs).length + state.length < 140737488355328 then _ else _) = _
  rw [if_pos (by simp; omega)]
  rfl
def okF (a0 : Int) (l1 : List S41) (l2 : List S68) (l3 l4 l5 state inputs : List Int) : Prop :=
  mayB a0 l1 l2 l3 l4 l5 = true ∧ (state.all (fun x => decide (x ≤ 2)) = true ∧ state.length = l1.length) ∧ (inputs.all (fun x => decide (x ≤ 2)) = true ∧ (inputs.length : Int) = a0)
instance : Decidable (okF a0 l1 l2 l3 l4 l5 state inputs) := by unfold okF; infer_instance
theorem frame_bad : Ev (fun k => inquestref07_Frame.j0 k state inputs true a0 l1 l2 l3 l4 l5) (([] : List Int), ([] : List Int), 2) := by
  refine Ev.step (f := fun _ => some (([] : List Int), ([] : List Int), 2)) (fun k => ?_) (Ev.now _)
  simp only [inquestref07_Frame.j0]
  rw [if_pos trivial]
theorem frame_all (ha : -9223372036854775808 ≤ a0 ∧ a0 < 9223372036854775808) (n1 : l1.length ≤ 16384) (n2 : l2.length ≤ 16384) (n3 : l3.length < 9223372036854775808) (n4 : l4.length < 9223372036854775808) (n5 : l5.length < 9223372036854775808) (ns : state.length < 9223372036854775808) (ni : inputs.length < 9223372036854775808)
    (h1 : In41 l1) (h2 : In68 l2) (h3 : InU32 l3) (h4 : InU32 l4) (h5 : InU32 l5) (hs : InU8 state) (hi : InU8 inputs) :
    Ev (fun k => inquestref07_Frame.f k a0 l1 l2 l3 l4 l5 state inputs) (if okF a0 l1 l2 l3 l4 l5 state inputs then (runV (baseF state inputs) l2 l2.length, nextF (runV (baseF state inputs) l2 l2.length) l1, 0) else ([], [], 2)) := by
  have hM := mayr_all ha n1 n2 n3 n4 n5 h1 h2 h3 h4 h5
  refine Ev.bind hM ?_
  by_cases c1 : mayB a0 l1 l2 l3 l4 l5 = true
  · rw [c1]
    refine Ev.ifp rfl (Ev.bind (fine_ev (m := (l1.length : Int)) ns) ?_)
    by_cases c2 : (state.all (fun x => decide (x ≤ 2)) && ((state.length : Int) == (l1.length : Int))) = true
    · rw [c2]
      refine Ev.ifp rfl (Ev.bind (fine_ev (m := a0) ni) ?_)
      rw [Bool.and_eq_true, beq_iff_eq] at c2
      by_cases c3 : (inputs.all (fun x => decide (x ≤ 2)) && ((inputs.length : Int) == a0)) = true
      · rw [c3]
        rw [Bool.and_eq_true, beq_iff_eq] at c3
        rw [if_pos ⟨c1, ⟨c2.1, by omega⟩, c3⟩]
        have hk : okIn l1 l2 = true := okIn_of h1 h2 (by omega) (by omega)
        exact frame_run (valid_of_may hk c1).1 h1 h2 (tri_of hs c2.1) (tri_of hi c3.1) (by omega) c3.2
      · rw [if_neg (fun h => c3 (by rw [h.2.2.1, h.2.2.2]; simp))]
        rw [Bool.not_eq_true] at c3
        rw [c3]
        exact frame_bad
    · rw [if_neg (fun h => c2 (by rw [h.2.1.1, h.2.1.2]; simp))]
      rw [Bool.not_eq_true] at c2
      rw [c2]
      exact Ev.ifn (by decide) frame_bad
  · rw [if_neg (fun h => c1 h.1)]
    rw [Bool.not_eq_true] at c1
    rw [c1]
    exact Ev.ifn (by decide) frame_bad
end
theorem all2_of {l : List Int} (hl : TriL l) : l.all (fun x => decide (x ≤ 2)) = true := List.all_eq_true.2 fun x hx => by
  have := hl x hx
  unfold Tri at this
  exact decide_eq_true (by omega)
theorem frame_ok {a0 : Int} {l1 : List S41} {l2 : List S68} {l3 l4 l5 state inputs : List Int} (hv : Valid a0 l1 l2 l3 l4 l5) (h1 : In41 l1) (h2 : In68 l2) (h3 : InU32 l3) (h4 : InU32 l4) (h5 : InU32 l5) (hs : TriL state) (hi : TriL inputs) (ls : state.length = l1.length) (li : (inputs.length : Int) = a0) :
    Ev (fun k => inquestref07_Frame.f k a0 l1 l2 l3 l4 l5 state inputs) (runV (baseF state inputs) l2 l2.length, nextF (runV (baseF state inputs) l2 l2.length) l1, 0) := by
  have hp := hv.pos
  have hle := hv.le
  refine Ev.bind (mayr_ev hv h1 h2 h3 h4 h5) (Ev.ifp rfl (Ev.bind (fine_ev (m := (l1.length : Int)) (by omega)) ?_))
  rw [all2_of hs, Bool.true_and, beq_iff_eq.2 (show (state.length : Int) = (l1.length : Int) by omega)]
  refine Ev.ifp rfl (Ev.bind (fine_ev (m := a0) (by omega)) ?_)
  rw [all2_of hi, Bool.true_and, beq_iff_eq.2 li]
  exact frame_run hv h1 h2 hs hi ls li
end Go.Proofs.Yteiiodlgdbiimaa.F
end
section
namespace Go.Proofs.Yteiiodlgdbiimaa.F
open Go.RowKit Go.Shelf Go.Proofs.YteiiodlgdbiimaaW.PrintWords Go.Proofs.YteiiodlgdbiimaaW.PrintLast Go.Proofs.YteiiodlgdbiimaaW.PrintMore
set_option linter.unusedVariables false
set_option linter.unusedSimpArgs false
theorem lives24_is : inquestlaw24_lives.f 20 = some true := by kernel_rfl
theorem lives24_ev : Ev (fun k => inquestlaw24_lives.f k) true := Ev.of (fun k => inquestlaw24_lives.mono k) lives24_is
end Go.Proofs.Yteiiodlgdbiimaa.F
end
section
namespace Go.Proofs.Yteiiodlgdbiimaa.F
open Go.RowKit Go.Shelf Go.Proofs.YteiiodlgdbiimaaW.PrintWords Go.Proofs.YteiiodlgdbiimaaW.PrintLast Go.Proofs.YteiiodlgdbiimaaW.PrintMore
set_option linter.unusedVariables false
set_option linter.unusedSimpArgs false
def pickX (vars : List Int) (op : List Bool) (k : Nat) : Int := if 0 < (k : Int) ∧ (k : Int) < (op.length : Int) ∧ rdOf false op (k : Int) = true then 2 else rd vars (k : Int)
def pickF (vars : List Int) (op : List Bool) : Nat → List Int
  | 0 => []
  | k + 1 => pickF vars op k ++ [pickX vars op k]
theorem pick_len (vars : List Int) (op : List Bool) : ∀ k, (pickF vars op k).length = k
  | 0 => rfl
  | k + 1 => by unfold pickF; rw [List.length_append, pick_len vars op k]; rfl
theorem pick_at (vars : List Int) (op : List Bool) {v : Nat} : ∀ k, v < k → rd (pickF vars op k) (v : Int) = pickX vars op v
  | 0, h => absurd h (Nat.not_lt_zero _)
  | k + 1, h => by
    unfold pickF
    have hl := pick_len vars op k
    by_cases e : v = k
    · subst e
      have := rd_last' (l := pickF vars op v) (y := pickX vars op v)
      rw [hl] at this
      exact this
    · rw [rd_snoc' (by omega)]
      exact pick_at vars op k (by omega)
theorem pick_tri {vars : List Int} {op : List Bool} (h : TriL vars) : ∀ k, TriL (pickF vars op k)
  | 0, x, hx => nomatch hx
  | k + 1, x, hx => by
    unfold pickF at hx
    rcases List.mem_append.1 hx with hx | hx
    · exact pick_tri h k x hx
    · rw [List.mem_singleton.1 hx]
      unfold pickX
      split
      · exact .inr (.inr rfl)
      · exact rd_tri h _
section
variable {a0 : Int} {l1 : List S41} {l2 : List S68} {l3 l4 l5 state inputs : List Int} {op : List Bool}
theorem l2_9 {was next : List Int} (hn : was.length < 1000000) (hl : next.length = was.length) (h : ∀ i : Nat, i < was.length → le3 (rd was (i : Int)) (rd next (i : Int))) : ∀ (d i : Nat), was.length - i = d → i ≤ was.length → Ev (fun k => inquestlaw24_StrashWith.l2 k next was (was.length : Int) (i : Int)) true := by
  intro d
  induction d with
  | zero =>
    intro i hd hi
    obtain rfl : i = was.length := by omega
    refine Ev.step (fun k => ?_) (Ev.bind lives24_ev (Ev.now true))
    simp only [inquestlaw24_StrashWith.l2]
    rw [if_neg (by omega)]
  | succ d ih =>
    intro i hd hi
    have hx := h i (by omega)
    refine Ev.step (fun k => ?_) (ih (i + 1) (by omega) (by omega))
    simp only [inquestlaw24_StrashWith.l2]
    rw [if_pos (by omega), if_pos (by omega), if_pos (by omega), wrap_nat (by omega)]
    rcases hx with e | e
    · rw [if_pos e]
    · by_cases c : rd was (i : Int) = 2
      · rw [if_pos c]
      · rw [if_neg c, if_pos (by omega), if_pos e]
theorem l1_9 {V tw now next was : List Int} (hV : V.length < 1000000) (hT : TriL now) (ht : InU32 tw) (hl : tw.length = V.length) (h : ∀ v : Nat, v < V.length → le3 (rd V (v : Int)) (valP now (rd tw (v : Int)))) (hE : Ev (fun k => inquestlaw24_StrashWith.l2 k next was (was.length : Int) 0) true) :
    ∀ (d i : Nat), V.length - i = d → i ≤ V.length → Ev (fun k => inquestlaw24_StrashWith.l1 k V tw now next was (V.length : Int) (i : Int)) true := by
  intro d
  induction d with
  | zero =>
    intro i hd hi
    obtain rfl : i = V.length := by omega
    refine Ev.step (fun k => ?_) hE
    simp only [inquestlaw24_StrashWith.l1]
    rw [if_neg (by omega)]
  | succ d ih =>
    intro i hd hi
    have hx := h i (by omega)
    have hr := rd_u32 ht (i : Int)
    have hgo : Ev (fun k => (inquestref07_Value.f k now (rd tw (i : Int))).bind fun t905 => (if (i : Int) < (V.length : Int) then (if (rd V (i : Int)) = 2 then (inquestlaw24_StrashWith.l1 k V tw now next was (V.length : Int) ((i + 1 : Nat) : Int)) else (if t905 = (rd V (i : Int)) then (inquestlaw24_StrashWith.l1 k V tw now next was (V.length : Int) ((i + 1 : Nat) : Int)) else (some false))) else (none))) true := by
      refine Ev.bind (value_ev hT hr.1 hr.2) (Ev.ifp (by omega) ?_)
      by_cases c : rd V (i : Int) = 2
      · exact Ev.ifp c (ih (i + 1) (by omega) (by omega))
      · refine Ev.ifn c (Ev.ifp ?_ (ih (i + 1) (by omega) (by omega)))
        rcases hx with e | e
        · exact absurd e c
        · exact e
    refine Ev.step (fun k => ?_) hgo
    simp only [inquestlaw24_StrashWith.l1]
    rw [if_pos (by omega), if_pos (by omega), if_pos (by omega), wrap_nat (by omega)]
theorem rd_map {α : Type} {f : α → Int} {l : List α} {i : Nat} (h : i < l.length) : rd (l.map f) (i : Int) = f l[i] := by
  unfold rd
  rw [List.getD_eq_getElem?_getD, Int.toNat_natCast, List.getElem?_map, List.getElem?_eq_getElem h]
  rfl
theorem with9_run (hv : Valid a0 l1 l2 l3 l4 l5) (h1 : In41 l1) (h2 : In68 l2) (h3 : InU32 l3) (h4 : InU32 l4) (h5 : InU32 l5) (hm : mayB a0 l1 l2 l3 l4 l5 = true) (hs : TriL state) (hi : TriL inputs) (ls : state.length = l1.length) (li : (inputs.length : Int) = a0) :
    Ev (fun k => inquestlaw24_StrashWith.l0 k state inputs op (runV (baseF state inputs) l2 l2.length) ([] : List Int) ((runV (baseF state inputs) l2 l2.length).length : Int) 0 a0 l1 l2 l3 l4 l5) true := by
  have hp := hv.pos
  have hle := hv.le
  have hb := base_tri hs hi
  have hbl : (baseF state inputs).length = 1 + inputs.length + state.length := by unfold baseF; rw [List.length_cons, List.length_append]; omega
  have hvl := run_len (base := baseF state inputs) (l2 := l2) l2.length
  have hvt := run_tri (l2 := l2) hb l2.length
  have hb0 : rd (baseF state inputs) 0 = 0 := rfl
  have hV0 : rd (runV (baseF state inputs) l2 l2.length) 0 = 0 := now_zero hb (by omega) hb0
  have hF1 := frame_ok hv h1 h2 h3 h4 h5 hs hi ls li
  have hgood : ∀ is : List Int, TriL is → (is.length : Int) = 1 + a0 + (l1.length : Int) + (l2.length : Int) → (∀ v : Nat, v < is.length → rd is (v : Int) ≠ 2 → rd (runV (baseF state inputs) l2 l2.length) (v : Int) = rd is (v : Int)) → GoodW (1 + a0 + (l1.length : Int)) (baseF state inputs) (runV (baseF state inputs) l2 l2.length) (wasW a0 l1 l2 is).1 (wasW a0 l1 l2 is).2 is.length := fun is hti hil hc => by
    refine (good_run (F := 1 + a0 + (l1.length : Int)) (by omega) hb hb0 ⟨by omega, by omega⟩ h2 (by omega) hti hil (fun j hj => ?_) hc is.length (Nat.le_refl _)).1
    have e : rd_T68 l2 (j : Int) = l2[j] := rd68_at hj
    have hg := hv.gate j hj
    rw [e]
    omega
  generalize hVe : runV (baseF state inputs) l2 l2.length = V at hvl hvt hV0 hF1 hgood ⊢
  have hlast : Ev (fun k => (strash_With.f a0 l1 l2 l3 l4 l5 (pickF V op V.length)).bind fun bt869 => (if bt869.2.2.2.2.2.2.2 = 0 then (inquestlaw24_StrashWith.j1 k state inputs V bt869.2.2.2.2.2.2.1 ((bt869.2.2.2.2.2.2.1.length : Int) != (V.length : Int)) a0 l1 l2 l3 l4 l5 bt869.1 bt869.2.1 bt869.2.2.1 bt869.2.2.2.1 bt869.2.2.2.2.1 bt869.2.2.2.2.2.1) else (inquestlaw24_StrashWith.j1 k state inputs V bt869.2.2.2.2.2.2.1 true a0 l1 l2 l3 l4 l5 bt869.1 bt869.2.1 bt869.2.2.1 bt869.2.2.2.1 bt869.2.2.2.2.1 bt869.2.2.2.2.2.1))) true := by
    have hpl := pick_len V op V.length
    have hpt := pick_tri (op := op) hvt V.length
    have hpa : ∀ v : Nat, v < V.length → rd (pickF V op V.length) (v : Int) = pickX V op v := fun v hv => pick_at V op V.length hv
    generalize pickF V op V.length = is at hpl hpt hpa
    have his : ∀ i : Int, 0 ≤ rd is i ∧ rd is i ≤ 2 := fun i => by
      have := rd_tri hpt i
      unfold Tri at this
      omega
    have hil : (is.length : Int) = a0 + (l1.length : Int) + (l2.length : Int) + 1 := by omega
    have hrd0 : rd is 0 = 0 := by
      have := hpa 0 (by omega)
      unfold pickX at this
      rw [if_neg (fun h => by have := h.1; omega)] at this
      exact this.trans hV0
    have hG := hgood is hpt (by omega) (fun v hv hne => by
      have := hpa v (by omega)
      rw [this] at hne ⊢
      unfold pickX at hne ⊢
      split at hne
      · exact absurd rfl hne
      · rename_i hc
        rw [if_neg hc])
    obtain ⟨hS, hgl, k1, k2, k3, k4, k5, hv'⟩ := with_valid hv h1 h2 h3 h4 h5 his hil
    have hok : okIn l1 l2 = true := okIn_of h1 h2 (by omega) (by omega)
    have hu8 : u8s is = true := by
      unfold u8s
      rw [List.all_eq_true]
      intro x hx
      have := hpt x hx
      unfold Tri at this
      rw [Bool.and_eq_true, decide_eq_true_eq, decide_eq_true_eq]
      omega
    have hu8' : u8s (l1.map (·.f1)) = true := by
      unfold u8s
      rw [List.all_eq_true]
      intro x hx
      obtain ⟨g, hg, rfl⟩ := List.mem_map.1 hx
      have := h1 g hg
      rw [Bool.and_eq_true, decide_eq_true_eq, decide_eq_true_eq]
      omega
    have hall : is.all (fun x => decide (x ≤ 2)) = true := List.all_eq_true.2 fun x hx => by
      have := hpt x hx
      unfold Tri at this
      exact decide_eq_true (by omega)
    have hW : strash_With.f a0 l1 l2 l3 l4 l5 is = some (a0, latM (wasW a0 l1 l2 is).1 l1, (wasW a0 l1 l2 is).2, l3.map (litP (wasW a0 l1 l2 is).1), l4.map (litP (wasW a0 l1 l2 is).1), l5.map (litP (wasW a0 l1 l2 is).1), (wasW a0 l1 l2 is).1, 0) := by
      unfold strash_With.f
      rw [if_pos ⟨hok, u32s_of h3, u32s_of h4, u32s_of h5, hu8, hu8'⟩, if_pos ⟨hm, hil, hrd0, hall⟩]
      rfl
    refine Ev.bound hW (Ev.ifp rfl ?_)
    generalize wasW a0 l1 l2 is = s at hG hS hgl k1 k2 k3 k4 k5 hv' ⊢
    have hsl := hS.len
    have hne : ((s.1.length : Int) != (V.length : Int)) = false := by
      rw [bne_eq_false_iff_eq]
      omega
    have hll : (latM s.1 l1).length = l1.length := by unfold latM; rw [List.length_map]
    have hF2 := frame_ok hv' k1 k2 k3 k4 k5 hs hi (by omega) li
    have hnt := run_tri (l2 := s.2) hb s.2.length
    have hb1 : ((baseF state inputs).length : Int) = 1 + a0 + (l1.length : Int) := by omega
    have hend : Ev (fun k => inquestlaw24_StrashWith.j2 k V s.1 (runV (baseF state inputs) s.2 s.2.length) (nextF (runV (baseF state inputs) s.2 s.2.length) (latM s.1 l1)) (nextF V l1) (((nextF (runV (baseF state inputs) s.2 s.2.length) (latM s.1 l1)).length : Int) != ((nextF V l1).length : Int))) true := by
      have el : (nextF (runV (baseF state inputs) s.2 s.2.length) (latM s.1 l1)).length = (nextF V l1).length := by unfold nextF latM; rw [List.length_map, List.length_map, List.length_map]
      have el1 : (nextF V l1).length = l1.length := by unfold nextF; rw [List.length_map]
      have hb2 : (((nextF (runV (baseF state inputs) s.2 s.2.length) (latM s.1 l1)).length : Int) != ((nextF V l1).length : Int)) = false := by
        rw [bne_eq_false_iff_eq, el]
      rw [hb2]
      have hE2 := l2_9 (was := nextF V l1) (next := nextF (runV (baseF state inputs) s.2 s.2.length) (latM s.1 l1)) (by omega) el (fun i hi => by
        have hi' : i < l1.length := by omega
        have hx := h1 _ (List.getElem_mem hi')
        have hn := hv.next i hi'
        have q1 : rd (nextF V l1) (i : Int) = valP V l1[i].f0 := by unfold nextF; rw [rd_map hi']
        have q2 : rd (nextF (runV (baseF state inputs) s.2 s.2.length) (latM s.1 l1)) (i : Int) = valP (runV (baseF state inputs) s.2 s.2.length) (litP s.1 l1[i].f0) := by
          unfold nextF latM
          rw [List.map_map, rd_map hi']
          rfl
        rw [q1, q2]
        exact (hG.lit hb1 hb hvt (by omega) hx.1.1 hx.1.2 (by omega)).1) (nextF V l1).length 0 (by omega) (by omega)
      have hE1 := l1_9 (V := V) (tw := s.1) (now := runV (baseF state inputs) s.2 s.2.length) (next := nextF (runV (baseF state inputs) s.2 s.2.length) (latM s.1 l1)) (was := nextF V l1) (by omega) hnt hS.u32 (by omega) (fun v hv => hG.val v (by omega)) hE2 V.length 0 (by omega) (by omega)
      refine Ev.step (fun k => ?_) hE1
      simp only [inquestlaw24_StrashWith.j2]
      rw [if_neg (by decide)]
      rfl
    rw [hne]
    have hgo : Ev (fun k => (inquestref07_Frame.f k a0 (latM s.1 l1) s.2 (l3.map (litP s.1)) (l4.map (litP s.1)) (l5.map (litP s.1)) state inputs).bind fun bt890 => ((inquestref07_Frame.f k a0 l1 l2 l3 l4 l5 state inputs).bind fun bt897 => (if bt890.2.2 = 0 then (inquestlaw24_StrashWith.j2 k V s.1 bt890.1 bt890.2.1 bt897.2.1 ((bt890.2.1.length : Int) != (bt897.2.1.length : Int))) else (inquestlaw24_StrashWith.j2 k V s.1 bt890.1 bt890.2.1 bt897.2.1 true)))) true :=
      Ev.bind hF2 (Ev.bind hF1 (Ev.ifp rfl hend))
    refine Ev.step (fun k => ?_) hgo
    simp only [inquestlaw24_StrashWith.j1]
    rw [if_neg (by decide)]
  have key : ∀ (d i : Nat), V.length - i = d → i ≤ V.length → Ev (fun k => inquestlaw24_StrashWith.l0 k state inputs op V (pickF V op i) (V.length : Int) (i : Int) a0 l1 l2 l3 l4 l5) true := by
    intro d
    induction d with
    | zero =>
      intro i hd hi
      obtain rfl : i = V.length := by omega
      refine Ev.step (fun k => ?_) hlast
      simp only [inquestlaw24_StrashWith.l0]
      rw [if_neg (by omega)]
    | succ d ih =>
      intro i hd hi
      have hpl := pick_len V op i
      refine Ev.step (fun k => ?_) (ih (i + 1) (by omega) (by omega))
      simp only [inquestlaw24_StrashWith.l0]
      rw [if_pos (by omega), if_pos (by omega), if_pos (by omega), wrap_nat (by omega)]
      have esn : pickF V op (i + 1) = pickF V op i ++ [pickX V op i] := rfl
      rw [esn]
      unfold pickX
      have hlen : (pickF V op i).length < 140737488355328 := by omega
      by_cases c1 : (i : Int) > 0
      · rw [if_pos c1]
        by_cases c2 : (i : Int) < (op.length : Int)
        · rw [if_pos c2]
          by_cases c3 : rdOf false op (i : Int) = true
          · rw [if_pos c3, if_pos hlen, if_pos ⟨c1, c2, c3⟩]
          · rw [if_neg c3, if_pos hlen, if_neg (fun h => c3 h.2.2)]
        · rw [if_neg c2, if_pos hlen, if_neg (fun h => c2 h.2.1)]
      · rw [if_neg c1, if_pos hlen, if_neg (fun h => c1 h.1)]
  exact key V.length 0 (by omega) (by omega)
theorem with9_ev (ha : -9223372036854775808 ≤ a0 ∧ a0 < 9223372036854775808) (n3 : l3.length < 9223372036854775808) (n4 : l4.length < 9223372036854775808) (n5 : l5.length < 9223372036854775808) (ns : state.length < 9223372036854775808) (ni : inputs.length < 9223372036854775808)
    (h1 : In41 l1) (h2 : In68 l2) (h3 : InU32 l3) (h4 : InU32 l4) (h5 : InU32 l5) (hs : InU8 state) (hi : InU8 inputs) : Ev (fun k => inquestlaw24_StrashWith.f k a0 l1 l2 l3 l4 l5 state inputs op) true := by
  have hliv : Ev (fun k => (inquestlaw24_lives.f k).bind fun t846 => (some t846)) true := Ev.bind lives24_ev (Ev.now true)
  unfold inquestlaw24_StrashWith.f
  by_cases g1 : a0 > 300
  · exact Ev.bound (a := true) (by unfold inquestlaw24_great.f; rw [if_pos g1]) (Ev.ifp rfl hliv)
  by_cases g2 : (l1.length : Int) > 300
  · exact Ev.bound (a := true) (by unfold inquestlaw24_great.f; rw [if_neg g1, if_pos g2]) (Ev.ifp rfl hliv)
  by_cases g3 : (l2.length : Int) > 300
  · exact Ev.bound (a := true) (by unfold inquestlaw24_great.f; rw [if_neg g1, if_neg g2, if_pos g3]) (Ev.ifp rfl hliv)
  refine Ev.bound (by unfold inquestlaw24_great.f; rw [if_neg g1, if_neg g2, if_neg g3]) ?_
  generalize decide ((wrap64 ((wrap64 ((l3.length : Int) + (l4.length : Int))) + (l5.length : Int))) > 600) = b
  cases b
  · refine Ev.ifn (by decide) (Ev.bind (frame_all ha (by omega) (by omega) n3 n4 n5 ns ni h1 h2 h3 h4 h5 hs hi) ?_)
    by_cases hc : okF a0 l1 l2 l3 l4 l5 state inputs
    · rw [if_pos hc]
      refine Ev.ifp rfl ?_
      obtain ⟨hm, ⟨s1, s2⟩, ⟨i1, i2⟩⟩ := hc
      have hk : okIn l1 l2 = true := okIn_of h1 h2 (by omega) (by omega)
      exact with9_run (valid_of_may hk hm).1 h1 h2 h3 h4 h5 hm (tri_of hs s1) (tri_of hi i1) s2 i2
    · rw [if_neg hc]
      exact Ev.ifn (by decide) hliv
  · exact Ev.ifp rfl hliv
end
end Go.Proofs.Yteiiodlgdbiimaa.F
end
section
namespace Go.Proofs.Yteiiodlgdbiimaa.F
open Go.Joins Go.ChangeShapes Go.WideShapes Go.ChangeAt Go.Deep Go.RowKit Go.Proofs.YteiiodlgdbiimaaW.PrintWords Go.Proofs.YteiiodlgdbiimaaW.PrintLast Go.Proofs.YteiiodlgdbiimaaW.PrintMore
set_option linter.unusedVariables false
set_option linter.unusedSimpArgs false
theorem lt63 {n : Nat} (h : n ≤ 9223372036854775807) : n < 9223372036854775808 := by omega
theorem openBools {H : Type} {enc : TypeId × Value → H} {w : World} {base : Nat} {held : Bool} {fuel : Nat} {v : Value} {x : DataW H × List MemPlace} (h : DataW.trod enc Try.prog w base (fun _ => true) held fuel 33 [v] = some x) :
    ∃ (A : Option Addr) (c : Nat) (l : List Bool), v = .slice A l.length c ∧ l.length ≤ c ∧ Kd.C Kd.bool w A l.length l := by
  rcases open_bools Try.underlying33 Try.underlying4 (by kernel_rfl) h with ⟨hcs, _⟩ | ⟨a, len, cap, B, hcs, _, hl, hm, _, hcell⟩
  · injection hcs with e1 _
    exact ⟨none, 0, [], e1, Nat.le_refl _, ⟨rfl, by simp, fun h => absurd h (by simp)⟩⟩
  · injection hcs with e1 _
    have hlen : ((List.range len).map B).length = len := by rw [List.length_map, List.length_range]
    refine ⟨some a, cap, (List.range len).map B, by rw [hlen]; exact e1, by omega, ⟨rfl, by simp only [maxLen] at hm; omega, fun _ => ⟨a, rfl, fun j p hj => ⟨[.bool p], rfl, rfl, fun i u hu => ?_⟩⟩⟩⟩
    cases i with
    | zero =>
      cases hu
      obtain ⟨hj1, hj2⟩ := List.getElem?_eq_some_iff.1 hj
      rw [List.getElem_map, List.getElem_range] at hj2
      have := hcell j (by omega)
      rw [hj2] at this
      show w.cell? (a.add (j * 1 + 0)) = _
      rw [Nat.mul_one, Nat.add_zero]
      exact this
    | succ i => simp at hu
end Go.Proofs.Yteiiodlgdbiimaa.F
end
section
namespace Go.Proofs.Yteiiodlgdbiimaa.strashWith
open Go.ChangeShapes Go.WideShapes Go.ChangeAt Go.RowKit Go.Proofs.Yteiiodlgdbiimaa.F Go.Proofs.YteiiodlgdbiimaaW.PrintWords Go.Proofs.YteiiodlgdbiimaaW.PrintLast Go.Proofs.YteiiodlgdbiimaaW.PrintMore
set_option linter.unusedVariables false
theorem own : ownKnob Try.prog.godebug = none := by kernel_rfl
theorem laidOut : laidOutB Try.prog = true := by kernel_rfl
set_option maxRecDepth 100000 in
theorem lifted (os : Os) (started : os.Started) (H : Type) (enc : TypeId × Value → H) :
    ReturnsInHanded {} Try.checked os 9 .any (Rows.strashWithSpec.pre6 enc Try.prog Try.f9 Rows.strashWithRow.domain false) (Rows.strashWithSpec.post enc Try.prog Try.f9 false true false false) := by
  refine returnsInHanded_of_change_sized (C := Try.checked) own started (by kernel_rfl) Try.func9
    (ChangeSpec.witness6 (enc := enc) (C := Try.checked) false ⟨#[], #[.agg #[.int .i64 0, .slice none 0 0, .slice none 0 0, .slice none 0 0, .slice none 0 0, .slice none 0 0], .slice none 0 0, .slice none 0 0, .slice none 0 0], []⟩ 8 (by kernel_rfl) (by kernel_rfl) (by kernel_rfl) (by kernel_rfl)) ?_
  intro W base args ds gs before hval0 hW hcnd hsz0 _
  have hval : ∀ (j : Nat) t v, Try.f9.params[j]? = some t → args[j]? = some v → Value.okWide Try.prog W .any base t v := hval0
  have hW' := hW
  obtain ⟨p, q, hA0, hV, rfl, hfz, hnd⟩ := hW
  have hA : DataW.TrodAll enc Try.prog W 0 (fun _ => true) true Try.f9.params.toList args.toList ds p := hA0
  rw [Try.params9] at hA hval
  obtain ⟨v0, vs0, d0, ds0, p0, q0, hargs, rfl, rfl, h0, r0⟩ := trodAll_cons hA
  obtain ⟨v1, vs1, d1, ds1, p1, q1, rfl, rfl, rfl, h1, r1⟩ := trodAll_cons r0
  obtain ⟨v2, vs2, d2, ds2, p2, q2, rfl, rfl, rfl, h2, r2⟩ := trodAll_cons r1
  obtain ⟨v3, vs3, d3, ds3, p3, q3, rfl, rfl, rfl, h3, r3⟩ := trodAll_cons r2
  obtain ⟨rfl, rfl, rfl⟩ := trodAll_nil r3
  obtain rfl : args = #[v0, v1, v2, v3] := by cases args; simp_all
  obtain ⟨rfl, rfl⟩ := trodVars_none hV
  have k0 := h0
  have lt0 : ∀ x ∈ p0, x.block < W.heap.size := by obtain ⟨m, hm⟩ := k0; exact DataW.trod_lt m _ _ _ hm
  obtain ⟨a0_0, A0_1, c0_1, l0_1, A0_2, c0_2, l0_2, A0_3, c0_3, l0_3, A0_4, c0_4, l0_4, A0_5, c0_5, l0_5, rfl, w0, ⟨hc0_1, hr0_1, w0_1⟩, ⟨hc0_2, hr0_2, w0_2⟩, ⟨hc0_3, hr0_3, w0_3⟩, ⟨hc0_4, hr0_4, w0_4⟩, ⟨hc0_5, hr0_5, w0_5⟩⟩ := openCirc (hval 0 26 v0 rfl rfl) h0
  have k1 := h1
  have lt1 : ∀ x ∈ p1, x.block < W.heap.size := by obtain ⟨m, hm⟩ := k1; exact DataW.trod_lt m _ _ _ hm
  obtain ⟨A1, c1, l1, rfl, hc1, hr1, w1⟩ : ∃ (A : Option Addr) (c : Nat) (l : List Int), v1 = .slice A l.length c ∧ l.length ≤ c ∧ Kd.C (Kd.int .u8) W A l.length l ∧ InU8 l := by
    obtain ⟨A, n_, c, rfl⟩ := okWide_slice Try.underlying28 (hval 1 28 v1 rfl rfl)
    obtain ⟨fuel, hf⟩ := h1
    exact openB hf
  have k2 := h2
  have lt2 : ∀ x ∈ p2, x.block < W.heap.size := by obtain ⟨m, hm⟩ := k2; exact DataW.trod_lt m _ _ _ hm
  obtain ⟨A2, c2, l2, rfl, hc2, hr2, w2⟩ : ∃ (A : Option Addr) (c : Nat) (l : List Int), v2 = .slice A l.length c ∧ l.length ≤ c ∧ Kd.C (Kd.int .u8) W A l.length l ∧ InU8 l := by
    obtain ⟨A, n_, c, rfl⟩ := okWide_slice Try.underlying28 (hval 2 28 v2 rfl rfl)
    obtain ⟨fuel, hf⟩ := h2
    exact openB hf
  have k3 := h3
  have lt3 : ∀ x ∈ p3, x.block < W.heap.size := by obtain ⟨m, hm⟩ := k3; exact DataW.trod_lt m _ _ _ hm
  obtain ⟨A3, c3, l3, rfl, hc3, hr3⟩ : ∃ (A : Option Addr) (c : Nat) (l : List Bool), v3 = .slice A l.length c ∧ l.length ≤ c ∧ Kd.C Kd.bool W A l.length l := by
    obtain ⟨A, n_, c, rfl⟩ := okWide_slice Try.underlying33 (hval 3 33 v3 rfl rfl)
    obtain ⟨fuel, hf⟩ := h3
    exact openBools hf
  clear hA0 hval0 hsz0
  obtain ⟨k, hpure⟩ := Ev.rounds (with9_ev (op := l3) w0 (lt63 hr0_3.2.1) (lt63 hr0_4.2.1) (lt63 hr0_5.2.1) (lt63 hr1.2.1) (lt63 hr2.2.1) w0_1 w0_2 w0_3 w0_4 w0_5 w1 w2)
  refine (inquestlaw24_StrashWith.calls k a0_0 A0_1 c0_1 l0_1 A0_2 c0_2 l0_2 A0_3 c0_3 l0_3 A0_4 c0_4 l0_4 A0_5 c0_5 l0_5 A1 c1 l1 A2 c2 l2 A3 c3 l3 true ⟨rfl⟩ W hr0_1 hc0_1 hr0_2 hc0_2 hr0_3 hc0_3 hr0_4 hc0_4 hr0_5 hc0_5 hr1 hc1 hr2 hc2 hr3 hc3 hpure).mono fun e W' ⟨he, bel⟩ => ?_
  subst he
  exact ⟨_, rfl, _, _, _, [], _, [], hW', trodAll_mk1 (shut_bool Try.underlying4 _), (trodAll_cons_mk (Below.trod laidOut (by kernel_rfl) (of_decide_eq_true (by kernel_rfl)) k0 bel lt0) (trodAll_cons_mk (Below.trod laidOut (by kernel_rfl) (of_decide_eq_true (by kernel_rfl)) k1 bel lt1) (trodAll_cons_mk (Below.trod laidOut (by kernel_rfl) (of_decide_eq_true (by kernel_rfl)) k2 bel lt2) (trodAll_cons_mk (Below.trod laidOut (by kernel_rfl) (of_decide_eq_true (by kernel_rfl)) k3 bel lt3) trodAll_mk0)))), rfl, bel.frame _, fun h => by cases h⟩
theorem closed : joinedFacts Try.pinned.checked.prog 9 Try.f9 Rows.strashWithSpec Rows.strashWithRow = true := by
  unfold joinedFacts
  rw [may_enter, lifts_no, make_is]
  kernel_rfl
theorem over : Rows.strashWithRow.holds Try.pinned (OpenSpec.ofChange Rows.strashWithSpec) :=
  OpenClaim.holds_of_wide 9 Try.f9 rfl rfl rfl rfl rfl rfl rfl ⟨rfl, rfl, rfl, rfl, rfl⟩ rfl rfl rfl rfl rfl (by kernel_rfl) Try.func9 closed
    (of_decide_eq_true (by kernel_rfl)) (by unfold Func.isWrapper; first | (rw [if_pos (by decide +kernel)]; kernel_rfl) | (rw [if_neg (by decide +kernel)]; exact ⟨rfl, rfl⟩))
    (fun os started H enc _ => lifted os started H enc)
theorem proved : Rows.StrashWithSaid := over
#print axioms proved
end Go.Proofs.Yteiiodlgdbiimaa.strashWith
namespace Go.Proofs.Yteiiodlgdbiimaa
theorem strashWith_holds : Rows.StrashWithSaid := strashWith.proved
end Go.Proofs.Yteiiodlgdbiimaa
end
