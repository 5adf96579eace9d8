/- The law StrashSmall: whatever the input, the function returns true, and the input reads as it did (its last text). -/
import Derived.Below
import Derived.ChangeOld
import Derived.OpenShut
import Derived.ProofKit
import Derived.ShutString
import Derived.SizedLaws
import Derived.Test.YteiiodlgdbiimaaRows
import Derived.WalkKit
import Derived.Test.YteiiodlgdbiimaaSk
section
namespace Go.Proofs.Yteiiodlgdbiimaa.F
open Go.RowKit Go.Shelf Go.Proofs.YteiiodlgdbiimaaW.PrintWords Go.Proofs.YteiiodlgdbiimaaW.PrintLast Go.Proofs.YteiiodlgdbiimaaW.PrintMore
set_option linter.unusedVariables false
set_option linter.unusedSimpArgs false
theorem lives24_is : inquestlaw24_lives.f 20 = some true := by kernel_rfl
theorem lives24_ev : Ev (fun k => inquestlaw24_lives.f k) true := Ev.of (fun k => inquestlaw24_lives.mono k) lives24_is
end Go.Proofs.Yteiiodlgdbiimaa.F
end
section
namespace Go.Proofs.Yteiiodlgdbiimaa.F
open Go.RowKit Go.Proofs.YteiiodlgdbiimaaW.PrintWords Go.Proofs.YteiiodlgdbiimaaW.PrintLast Go.Proofs.YteiiodlgdbiimaaW.PrintMore
attribute [local go_sem] max2_int min2_int max_two min_two max_three min_three max_four min_four
set_option linter.unusedVariables false
set_option linter.unusedSimpArgs false
def inquestlaw24_great.f (a0_0 : Int) (l0_1 : List (S41)) (l0_2 : List (S68)) (l0_3 : List Int) (l0_4 : List Int) (l0_5 : List Int) : Option (Bool) := if a0_0 > 300 then (some true) else (if (l0_1.length : Int) > 300 then (some true) else (if (l0_2.length : Int) > 300 then (some true) else (some (decide ((wrap64 ((wrap64 ((l0_3.length : Int) + (l0_4.length : Int))) + (l0_5.length : Int))) > 600)))))
set_option maxHeartbeats 8000000 in
set_option maxRecDepth 100000 in
theorem inquestlaw24_great.calls (a0_0 : Int) (A0_1 : Option Addr) (c0_1 : Nat) (l0_1 : List (S41)) (A0_2 : Option Addr) (c0_2 : Nat) (l0_2 : List (S68)) (A0_3 : Option Addr) (c0_3 : Nat) (l0_3 : List Int) (A0_4 : Option Addr) (c0_4 : Nat) (l0_4 : List Int) (A0_5 : Option Addr) (c0_5 : Nat) (l0_5 : List Int) (r : Bool) (w : World) (hr0_1 : Kd.C k41 w A0_1 l0_1.length l0_1) (hc0_1 : l0_1.length ≤ c0_1) (hr0_2 : Kd.C k68 w A0_2 l0_2.length l0_2) (hc0_2 : l0_2.length ≤ c0_2) (hr0_3 : Kd.C (Kd.int .u32) w A0_3 l0_3.length l0_3) (hc0_3 : l0_3.length ≤ c0_3) (hr0_4 : Kd.C (Kd.int .u32) w A0_4 l0_4.length l0_4) (hc0_4 : l0_4.length ≤ c0_4) (hr0_5 : Kd.C (Kd.int .u32) w A0_5 l0_5.length l0_5) (hc0_5 : l0_5.length ≤ c0_5) (h : inquestlaw24_great.f a0_0 l0_1 l0_2 l0_3 l0_4 l0_5 = some r) :
  Calls Try.prog 36 #[.agg #[.int .i64 a0_0, .slice A0_1 l0_1.length c0_1, .slice A0_2 l0_2.length c0_2, .slice A0_3 l0_3.length c0_3, .slice A0_4 l0_4.length c0_4, .slice A0_5 l0_5.length c0_5]] w fun e w' => e = .returned (.bool r) ∧ Below w.heap.size w w' := by
 have hu26 := Try.underlying26
 have HR0_1 := Aside0.mk hr0_1
 have HC0_1 := Aside0.mk hc0_1
 clear hr0_1 hc0_1
 have HR0_2 := Aside0.mk hr0_2
 have HC0_2 := Aside0.mk hc0_2
 clear hr0_2 hc0_2
 have HR0_3 := Aside0.mk hr0_3
 have HC0_3 := Aside0.mk hc0_3
 clear hr0_3 hc0_3
 have HR0_4 := Aside0.mk hr0_4
 have HC0_4 := Aside0.mk hc0_4
 clear hr0_4 hc0_4
 have HR0_5 := Aside0.mk hr0_5
 have HC0_5 := Aside0.mk hc0_5
 clear hr0_5 hc0_5
 have HB := Aside0.mk (Below.refl w.heap.size w)
 have H : (if a0_0 > 300 then (some true) else (if (l0_1.length : Int) > 300 then (some true) else (if (l0_2.length : Int) > 300 then (some true) else (some (decide ((wrap64 ((wrap64 ((l0_3.length : Int) + (l0_4.length : Int))) + (l0_5.length : Int))) > 600)))))) = some r := h
 clear h
 by_cases c2 : a0_0 > 300
 ·
  rw [if_pos c2] at H
  have c2b0 : decide (300 < a0_0) = true := decide_eq_true c2
  clear c2
  obtain rfl := Option.some.inj H
  go_enter Try.func36, Try.ntmps36
  go_wp2_with (first | ((with_reducible refine gate_dst (N := 1) rfl ?_); (try (refine gate_guard (by rfl) ?_; dsimp only)); refine box_event ?hg (N := 1) ?hd (cs := #[.int .i64 a0_0, .slice A0_1 l0_1.length c0_1, .slice A0_2 l0_2.length c0_2, .slice A0_3 l0_3.length c0_3, .slice A0_4 l0_4.length c0_4, .slice A0_5 l0_5.length c0_5]) (t := 26) ?hr ?_; (case hd => rfl); (case hg => rfl); (case hr => first | (go_simp; done) | (go_simp; rfl)); intro gb303 hg w3 hbox hb; have n0_ := Aside0.mk (below_step (by repeat (first | (with_reducible first | exact HB.out | apply below_alloc | apply pw_below_drewN | apply below_drew1) | exact HB.out)) hb); have n1_ := Aside0.mk (hbox); have n2_ := Aside0.mk ((by rw [hg]; exact (below_size (by repeat (first | (with_reducible first | exact HB.out | apply below_alloc | apply pw_below_drewN | apply below_drew1) | exact HB.out))) : w.heap.size ≤ gb303)); have n3_ := Aside0.mk ((by rw [hg]; exact (below_size (by repeat (first | (with_reducible first | exact HB.out | apply below_alloc | apply pw_below_drewN | apply below_drew1) | exact HB.out))) : w.heap.size ≤ gb303)); clear HB; have HB := n0_; have BK303 := n1_; have GW303 := n2_; have GE303 := n3_; clear n0_ n1_ n2_ n3_; clear hb hbox hg; have hcz4_0 : w3.cell? ⟨gb303, 0, none⟩ = some (.int .i64 a0_0) := (blk_cell BK303.out 0).trans rfl; have hcz4_1 : w3.cell? ⟨gb303, 1, none⟩ = some (.slice A0_1 l0_1.length c0_1) := (blk_cell BK303.out 1).trans rfl; have hcz4_2 : w3.cell? ⟨gb303, 2, none⟩ = some (.slice A0_2 l0_2.length c0_2) := (blk_cell BK303.out 2).trans rfl; have hcz4_3 : w3.cell? ⟨gb303, 3, none⟩ = some (.slice A0_3 l0_3.length c0_3) := (blk_cell BK303.out 3).trans rfl; have hcz4_4 : w3.cell? ⟨gb303, 4, none⟩ = some (.slice A0_4 l0_4.length c0_4) := (blk_cell BK303.out 4).trans rfl; have hcz4_5 : w3.cell? ⟨gb303, 5, none⟩ = some (.slice A0_5 l0_5.length c0_5) := (blk_cell BK303.out 5).trans rfl; have hfz4_0 := blk_frozen BK303.out 0; have hfz4_1 := blk_frozen BK303.out 1; have hfz4_2 := blk_frozen BK303.out 2; have hfz4_3 := blk_frozen BK303.out 3; have hfz4_4 := blk_frozen BK303.out 4; have hfz4_5 := blk_frozen BK303.out 5))
  go_ret
  exact ⟨by first | rfl | (simp [errW_none, errW_some] <;> rfl) | (simp [*, errW_none, errW_some] <;> rfl), by repeat (first | (with_reducible first | exact HB.out | apply below_alloc | apply pw_below_drewN | apply below_drew1 | refine below_set ?_ GE303.out) | exact HB.out)⟩
 ·
  rw [if_neg c2] at H
  have c2b0 : decide (300 < a0_0) = false := decide_eq_false c2
  clear c2
  by_cases c5 : (l0_1.length : Int) > 300
  ·
   rw [if_pos c5] at H
   have c5b0 : decide (300 < (l0_1.length : Int)) = true := decide_eq_true c5
   have c5b1 : decide (300 < l0_1.length) = true := decide_eq_true (by omega)
   clear c5
   obtain rfl := Option.some.inj H
   go_enter Try.func36, Try.ntmps36
   go_wp2_with (first | ((with_reducible refine gate_dst (N := 1) rfl ?_); (try (refine gate_guard (by rfl) ?_; dsimp only)); refine box_event ?hg (N := 1) ?hd (cs := #[.int .i64 a0_0, .slice A0_1 l0_1.length c0_1, .slice A0_2 l0_2.length c0_2, .slice A0_3 l0_3.length c0_3, .slice A0_4 l0_4.length c0_4, .slice A0_5 l0_5.length c0_5]) (t := 26) ?hr ?_; (case hd => rfl); (case hg => rfl); (case hr => first | (go_simp; done) | (go_simp; rfl)); intro gb303 hg w6 hbox hb; have n0_ := Aside0.mk (below_step (by repeat (first | (with_reducible first | exact HB.out | apply below_alloc | apply pw_below_drewN | apply below_drew1) | exact HB.out)) hb); have n1_ := Aside0.mk (hbox); have n2_ := Aside0.mk ((by rw [hg]; exact (below_size (by repeat (first | (with_reducible first | exact HB.out | apply below_alloc | apply pw_below_drewN | apply below_drew1) | exact HB.out))) : w.heap.size ≤ gb303)); have n3_ := Aside0.mk ((by rw [hg]; exact (below_size (by repeat (first | (with_reducible first | exact HB.out | apply below_alloc | apply pw_below_drewN | apply below_drew1) | exact HB.out))) : w.heap.size ≤ gb303)); clear HB; have HB := n0_; have BK303 := n1_; have GW303 := n2_; have GE303 := n3_; clear n0_ n1_ n2_ n3_; clear hb hbox hg; have hcz7_0 : w6.cell? ⟨gb303, 0, none⟩ = some (.int .i64 a0_0) := (blk_cell BK303.out 0).trans rfl; have hcz7_1 : w6.cell? ⟨gb303, 1, none⟩ = some (.slice A0_1 l0_1.length c0_1) := (blk_cell BK303.out 1).trans rfl; have hcz7_2 : w6.cell? ⟨gb303, 2, none⟩ = some (.slice A0_2 l0_2.length c0_2) := (blk_cell BK303.out 2).trans rfl; have hcz7_3 : w6.cell? ⟨gb303, 3, none⟩ = some (.slice A0_3 l0_3.length c0_3) := (blk_cell BK303.out 3).trans rfl; have hcz7_4 : w6.cell? ⟨gb303, 4, none⟩ = some (.slice A0_4 l0_4.length c0_4) := (blk_cell BK303.out 4).trans rfl; have hcz7_5 : w6.cell? ⟨gb303, 5, none⟩ = some (.slice A0_5 l0_5.length c0_5) := (blk_cell BK303.out 5).trans rfl; have hfz7_0 := blk_frozen BK303.out 0; have hfz7_1 := blk_frozen BK303.out 1; have hfz7_2 := blk_frozen BK303.out 2; have hfz7_3 := blk_frozen BK303.out 3; have hfz7_4 := blk_frozen BK303.out 4; have hfz7_5 := blk_frozen BK303.out 5))
   go_ret
   exact ⟨by first | rfl | (simp [errW_none, errW_some] <;> rfl) | (simp [*, errW_none, errW_some] <;> rfl), by repeat (first | (with_reducible first | exact HB.out | apply below_alloc | apply pw_below_drewN | apply below_drew1 | refine below_set ?_ GE303.out) | exact HB.out)⟩
  ·
   rw [if_neg c5] at H
   have c5b0 : decide (300 < (l0_1.length : Int)) = false := decide_eq_false c5
   have c5b1 : decide (300 < l0_1.length) = false := decide_eq_false (by omega)
   clear c5
   by_cases c8 : (l0_2.length : Int) > 300
   ·
    rw [if_pos c8] at H
    have c8b0 : decide (300 < (l0_2.length : Int)) = true := decide_eq_true c8
    have c8b1 : decide (300 < l0_2.length) = true := decide_eq_true (by omega)
    clear c8
    obtain rfl := Option.some.inj H
    go_enter Try.func36, Try.ntmps36
    go_wp2_with (first | ((with_reducible refine gate_dst (N := 1) rfl ?_); (try (refine gate_guard (by rfl) ?_; dsimp only)); refine box_event ?hg (N := 1) ?hd (cs := #[.int .i64 a0_0, .slice A0_1 l0_1.length c0_1, .slice A0_2 l0_2.length c0_2, .slice A0_3 l0_3.length c0_3, .slice A0_4 l0_4.length c0_4, .slice A0_5 l0_5.length c0_5]) (t := 26) ?hr ?_; (case hd => rfl); (case hg => rfl); (case hr => first | (go_simp; done) | (go_simp; rfl)); intro gb303 hg w9 hbox hb; have n0_ := Aside0.mk (below_step (by repeat (first | (with_reducible first | exact HB.out | apply below_alloc | apply pw_below_drewN | apply below_drew1) | exact HB.out)) hb); have n1_ := Aside0.mk (hbox); have n2_ := Aside0.mk ((by rw [hg]; exact (below_size (by repeat (first | (with_reducible first | exact HB.out | apply below_alloc | apply pw_below_drewN | apply below_drew1) | exact HB.out))) : w.heap.size ≤ gb303)); have n3_ := Aside0.mk ((by rw [hg]; exact (below_size (by repeat (first | (with_reducible first | exact HB.out | apply below_alloc | apply pw_below_drewN | apply below_drew1) | exact HB.out))) : w.heap.size ≤ gb303)); clear HB; have HB := n0_; have BK303 := n1_; have GW303 := n2_; have GE303 := n3_; clear n0_ n1_ n2_ n3_; clear hb hbox hg; have hcz10_0 : w9.cell? ⟨gb303, 0, none⟩ = some (.int .i64 a0_0) := (blk_cell BK303.out 0).trans rfl; have hcz10_1 : w9.cell? ⟨gb303, 1, none⟩ = some (.slice A0_1 l0_1.length c0_1) := (blk_cell BK303.out 1).trans rfl; have hcz10_2 : w9.cell? ⟨gb303, 2, none⟩ = some (.slice A0_2 l0_2.length c0_2) := (blk_cell BK303.out 2).trans rfl; have hcz10_3 : w9.cell? ⟨gb303, 3, none⟩ = some (.slice A0_3 l0_3.length c0_3) := (blk_cell BK303.out 3).trans rfl; have hcz10_4 : w9.cell? ⟨gb303, 4, none⟩ = some (.slice A0_4 l0_4.length c0_4) := (blk_cell BK303.out 4).trans rfl; have hcz10_5 : w9.cell? ⟨gb303, 5, none⟩ = some (.slice A0_5 l0_5.length c0_5) := (blk_cell BK303.out 5).trans rfl; have hfz10_0 := blk_frozen BK303.out 0; have hfz10_1 := blk_frozen BK303.out 1; have hfz10_2 := blk_frozen BK303.out 2; have hfz10_3 := blk_frozen BK303.out 3; have hfz10_4 := blk_frozen BK303.out 4; have hfz10_5 := blk_frozen BK303.out 5))
    go_ret
    exact ⟨by first | rfl | (simp [errW_none, errW_some] <;> rfl) | (simp [*, errW_none, errW_some] <;> rfl), by repeat (first | (with_reducible first | exact HB.out | apply below_alloc | apply pw_below_drewN | apply below_drew1 | refine below_set ?_ GE303.out) | exact HB.out)⟩
   ·
    rw [if_neg c8] at H
    have c8b0 : decide (300 < (l0_2.length : Int)) = false := decide_eq_false c8
    have c8b1 : decide (300 < l0_2.length) = false := decide_eq_false (by omega)
    clear c8
    obtain rfl := Option.some.inj H
    go_enter Try.func36, Try.ntmps36
    go_wp2_with (first | ((with_reducible refine gate_dst (N := 1) rfl ?_); (try (refine gate_guard (by rfl) ?_; dsimp only)); refine box_event ?hg (N := 1) ?hd (cs := #[.int .i64 a0_0, .slice A0_1 l0_1.length c0_1, .slice A0_2 l0_2.length c0_2, .slice A0_3 l0_3.length c0_3, .slice A0_4 l0_4.length c0_4, .slice A0_5 l0_5.length c0_5]) (t := 26) ?hr ?_; (case hd => rfl); (case hg => rfl); (case hr => first | (go_simp; done) | (go_simp; rfl)); intro gb303 hg w11 hbox hb; have n0_ := Aside0.mk (below_step (by repeat (first | (with_reducible first | exact HB.out | apply below_alloc | apply pw_below_drewN | apply below_drew1) | exact HB.out)) hb); have n1_ := Aside0.mk (hbox); have n2_ := Aside0.mk ((by rw [hg]; exact (below_size (by repeat (first | (with_reducible first | exact HB.out | apply below_alloc | apply pw_below_drewN | apply below_drew1) | exact HB.out))) : w.heap.size ≤ gb303)); have n3_ := Aside0.mk ((by rw [hg]; exact (below_size (by repeat (first | (with_reducible first | exact HB.out | apply below_alloc | apply pw_below_drewN | apply below_drew1) | exact HB.out))) : w.heap.size ≤ gb303)); clear HB; have HB := n0_; have BK303 := n1_; have GW303 := n2_; have GE303 := n3_; clear n0_ n1_ n2_ n3_; clear hb hbox hg; have hcz12_0 : w11.cell? ⟨gb303, 0, none⟩ = some (.int .i64 a0_0) := (blk_cell BK303.out 0).trans rfl; have hcz12_1 : w11.cell? ⟨gb303, 1, none⟩ = some (.slice A0_1 l0_1.length c0_1) := (blk_cell BK303.out 1).trans rfl; have hcz12_2 : w11.cell? ⟨gb303, 2, none⟩ = some (.slice A0_2 l0_2.length c0_2) := (blk_cell BK303.out 2).trans rfl; have hcz12_3 : w11.cell? ⟨gb303, 3, none⟩ = some (.slice A0_3 l0_3.length c0_3) := (blk_cell BK303.out 3).trans rfl; have hcz12_4 : w11.cell? ⟨gb303, 4, none⟩ = some (.slice A0_4 l0_4.length c0_4) := (blk_cell BK303.out 4).trans rfl; have hcz12_5 : w11.cell? ⟨gb303, 5, none⟩ = some (.slice A0_5 l0_5.length c0_5) := (blk_cell BK303.out 5).trans rfl; have hfz12_0 := blk_frozen BK303.out 0; have hfz12_1 := blk_frozen BK303.out 1; have hfz12_2 := blk_frozen BK303.out 2; have hfz12_3 := blk_frozen BK303.out 3; have hfz12_4 := blk_frozen BK303.out 4; have hfz12_5 := blk_frozen BK303.out 5))
    go_ret
    exact ⟨by first | rfl | (simp [errW_none, errW_some] <;> rfl) | (simp [*, errW_none, errW_some] <;> rfl), by repeat (first | (with_reducible first | exact HB.out | apply below_alloc | apply pw_below_drewN | apply below_drew1 | refine below_set ?_ GE303.out) | exact HB.out)⟩
end Go.Proofs.Yteiiodlgdbiimaa.F
end
section
namespace Go.Proofs.Yteiiodlgdbiimaa.F
open Go.RowKit Go.Shelf Go.ChangeMaps Go.MapKept Go.Proofs.YteiiodlgdbiimaaW.PrintWords Go.Proofs.YteiiodlgdbiimaaW.PrintLast Go.Proofs.YteiiodlgdbiimaaW.PrintMore
set_option linter.unusedVariables false
set_option linter.unusedSimpArgs false
theorem lookT_new {gs : List S68} {w : World} {mb : Nat} {a b : Int} (hm : w.heap[mb]? = some (.map ((entT gs).toArray.push ⟨keyG a b, .int .i64 0, gs.length⟩) (gs.length + 1))) (hg : ∀ g ∈ gs, Gate32 g) (ha : 0 ≤ a ∧ a < 4294967296) (hb : 0 ≤ b ∧ b < 4294967296) (hn : ∀ g ∈ gs, ¬ (g.f0 = a ∧ g.f1 = b)) :
    (Instr.lookup 66 (.map (some mb)) (.agg #[.int .u32 a, .int .u32 b]) false).run Try.prog w = .ok (.int .i64 0) w := by
  obtain ⟨l, hl⟩ := key_isG ha hb
  have hk : ∀ e ∈ (entT gs ++ [⟨keyG a b, .int .i64 0, gs.length⟩] : List MapEntry), ∃ l, keyOf Try.prog 68 e.key = some l := fun e he => by
    rcases List.mem_append.1 he with he | he
    · exact keysT hg e he
    · rw [List.mem_singleton.1 he]
      exact ⟨l, hl⟩
  have h1 : ∃ j, (Instr.findKey 68 (keyG a b) (entT gs ++ [⟨keyG a b, .int .i64 0, gs.length⟩])).run Try.prog w = .ok (some (j, .int .i64 0)) w := by
    rcases klaw68.find w hl _ hk with ⟨_, h2⟩ | ⟨j, e, hr, h2, h3⟩
    · exact absurd rfl (h2 ⟨keyG a b, .int .i64 0, gs.length⟩ (List.mem_append_right _ (List.mem_singleton.2 rfl)))
    · refine ⟨j, ?_⟩
      by_cases hj : j < (entT gs).length
      · rw [List.getElem?_append_left hj] at h2
        obtain ⟨g, hg1, rfl⟩ := entT_at h2
        obtain ⟨e1, e2⟩ := keyG_inj h3
        exact absurd ⟨e1, e2⟩ (hn g (List.mem_of_getElem? hg1))
      · rw [List.getElem?_append_right (by omega)] at h2
        have : e = ⟨keyG a b, .int .i64 0, gs.length⟩ := by
          have := List.mem_of_getElem? h2
          exact List.mem_singleton.1 this
        rw [hr, this]
  obtain ⟨j, h1⟩ := h1
  have e : ((entT gs).toArray.push ⟨keyG a b, .int .i64 0, gs.length⟩).toList = entT gs ++ [⟨keyG a b, .int .i64 0, gs.length⟩] := by simp
  generalize (entT gs).toArray.push ⟨keyG a b, .int .i64 0, gs.length⟩ = es at hm e
  rw [← e] at h1
  unfold keyG at hl h1
  simp [Instr.lookup, run_underlying Try.underlying66, MapKept.run_getObj_map hm, klaw68.check w _ hl, h1, Result.andThen]
theorem entT_next {gs : List S68} {k : Nat} (h : k < gs.length) : (entT (gs.take (k + 1))).toArray = (entT (gs.take k)).toArray.push ⟨keyG gs[k].f0 gs[k].f1, .int .i64 1, k⟩ := by
  rw [take_next h, entT_snoc, List.length_take, Nat.min_eq_left (Nat.le_of_lt h)]
  simp
theorem great_is {a0 : Int} {l1 : List S41} {l2 : List S68} {l3 l4 l5 : List Int} : ∃ b, inquestlaw24_great.f a0 l1 l2 l3 l4 l5 = some b ∧ (b = false → a0 ≤ 300 ∧ l1.length ≤ 300 ∧ l2.length ≤ 300) := by
  unfold inquestlaw24_great.f
  by_cases g1 : a0 > 300
  · exact ⟨true, by rw [if_pos g1], fun h => nomatch h⟩
  by_cases g2 : (l1.length : Int) > 300
  · exact ⟨true, by rw [if_neg g1, if_pos g2], fun h => nomatch h⟩
  by_cases g3 : (l2.length : Int) > 300
  · exact ⟨true, by rw [if_neg g1, if_neg g2, if_pos g3], fun h => nomatch h⟩
  exact ⟨_, by rw [if_neg g1, if_neg g2, if_neg g3], fun _ => ⟨by omega, by omega, by omega⟩⟩
set_option maxHeartbeats 8000000 in
set_option maxRecDepth 100000 in
theorem law7_great (a0 : Int) (A1 : Option Addr) (c1 : Nat) (l1 : List S41) (A2 : Option Addr) (c2 : Nat) (l2 : List S68) (A3 : Option Addr) (c3 : Nat) (l3 : List Int) (A4 : Option Addr) (c4 : Nat) (l4 : List Int) (A5 : Option Addr) (c5 : Nat) (l5 : List Int) (w : World) (hr1 : Kd.C k41 w A1 l1.length l1) (hc1 : l1.length ≤ c1) (hr2 : Kd.C k68 w A2 l2.length l2) (hc2 : l2.length ≤ c2) (hr3 : Kd.C (Kd.int .u32) w A3 l3.length l3) (hc3 : l3.length ≤ c3) (hr4 : Kd.C (Kd.int .u32) w A4 l4.length l4) (hc4 : l4.length ≤ c4) (hr5 : Kd.C (Kd.int .u32) w A5 l5.length l5) (hc5 : l5.length ≤ c5) (hg : inquestlaw24_great.f a0 l1 l2 l3 l4 l5 = some true) : Calls Try.prog 7 #[.agg #[.int .i64 a0, .slice A1 l1.length c1, .slice A2 l2.length c2, .slice A3 l3.length c3, .slice A4 l4.length c4, .slice A5 l5.length c5]] w fun e w' => e = .returned (.bool true) ∧ Below w.heap.size w w' := by
  have hu26 := Try.underlying26
  obtain ⟨kl, hkl⟩ := Ev.rounds lives24_ev
  have HLV := Aside0.mk hkl
  clear hkl
  have HGR := Aside0.mk (fun W (h : MayAt a0 A1 c1 l1 A2 c2 l2 A3 c3 l3 A4 c4 l4 A5 c5 l5 w.heap.size w W) => inquestlaw24_great.calls a0 A1 c1 l1 A2 c2 l2 A3 c3 l3 A4 c4 l4 A5 c5 l5 true W h.h1 hc1 h.h2 hc2 h.h3 hc3 h.h4 hc4 h.h5 hc5 hg)
  have H0 := Aside0.mk (fun W (hb : Below w.heap.size w W) (hk : W.heap[w.heap.size]? = some (.cells #[.int .i64 a0, .slice A1 l1.length c1, .slice A2 l2.length c2, .slice A3 l3.length c3, .slice A4 l4.length c4, .slice A5 l5.length c5] 26 (0, 0))) => (⟨hb, hk, Kd.C_below hr1 hb, Kd.C_below hr2 hb, Kd.C_below hr3 hb, Kd.C_below hr4 hb, Kd.C_below hr5 hb⟩ : MayAt a0 A1 c1 l1 A2 c2 l2 A3 c3 l3 A4 c4 l4 A5 c5 l5 w.heap.size w W))
  clear hr1 hr2 hr3 hr4 hr5 hc1 hc2 hc3 hc4 hc5 hg
  go_enter Try.func7, Try.ntmps7
  go_wp2_with (first | ((with_reducible refine gate_dst (N := 1) rfl ?_); (try (refine gate_guard (by rfl) ?_; dsimp only)); refine box_event ?hg (N := 1) ?hd (cs := #[.int .i64 a0, .slice A1 l1.length c1, .slice A2 l2.length c2, .slice A3 l3.length c3, .slice A4 l4.length c4, .slice A5 l5.length c5]) (t := 26) ?hr ?_; (case hd => rfl); (case hg => rfl); (case hr => first | (go_simp; done) | (go_simp; rfl)); intro g1 hg_ w1 bk1 hb1; subst hg_; have HM1 := Aside0.mk (H0.out _ hb1 bk1); clear hb1 bk1; have z0 : w1.cell? ⟨w.heap.size, 0, none⟩ = some (.int .i64 a0) := (blk_cell HM1.out.blk 0).trans rfl; have z1 : w1.cell? ⟨w.heap.size, 1, none⟩ = some (.slice A1 l1.length c1) := (blk_cell HM1.out.blk 1).trans rfl; have z2 : w1.cell? ⟨w.heap.size, 2, none⟩ = some (.slice A2 l2.length c2) := (blk_cell HM1.out.blk 2).trans rfl; have z3 : w1.cell? ⟨w.heap.size, 3, none⟩ = some (.slice A3 l3.length c3) := (blk_cell HM1.out.blk 3).trans rfl; have z4 : w1.cell? ⟨w.heap.size, 4, none⟩ = some (.slice A4 l4.length c4) := (blk_cell HM1.out.blk 4).trans rfl; have z5 : w1.cell? ⟨w.heap.size, 5, none⟩ = some (.slice A5 l5.length c5) := (blk_cell HM1.out.blk 5).trans rfl) | (go_at_call 36; refine (HGR.out _ HM1.out).mono ?_; rintro e w2 ⟨rfl, hb2⟩; have HM2 := Aside0.mk (HM1.out.step hb2); clear hb2; clear z0 z1 z2 z3 z4 z5; have z0 : w2.cell? ⟨w.heap.size, 0, none⟩ = some (.int .i64 a0) := (blk_cell HM2.out.blk 0).trans rfl; have z1 : w2.cell? ⟨w.heap.size, 1, none⟩ = some (.slice A1 l1.length c1) := (blk_cell HM2.out.blk 1).trans rfl; have z2 : w2.cell? ⟨w.heap.size, 2, none⟩ = some (.slice A2 l2.length c2) := (blk_cell HM2.out.blk 2).trans rfl; have z3 : w2.cell? ⟨w.heap.size, 3, none⟩ = some (.slice A3 l3.length c3) := (blk_cell HM2.out.blk 3).trans rfl; have z4 : w2.cell? ⟨w.heap.size, 4, none⟩ = some (.slice A4 l4.length c4) := (blk_cell HM2.out.blk 4).trans rfl; have z5 : w2.cell? ⟨w.heap.size, 5, none⟩ = some (.slice A5 l5.length c5) := (blk_cell HM2.out.blk 5).trans rfl) | (go_at_call 37; refine (inquestlaw24_lives.calls kl true _ HLV.out).mono ?_; rintro e w3 ⟨rfl, hb3⟩))
  go_ret
  exact ⟨rfl, below_step HM2.out.below hb3⟩
set_option maxHeartbeats 8000000 in
set_option maxRecDepth 100000 in
theorem law7_no (a0 : Int) (A1 : Option Addr) (c1 : Nat) (l1 : List S41) (A2 : Option Addr) (c2 : Nat) (l2 : List S68) (A3 : Option Addr) (c3 : Nat) (l3 : List Int) (A4 : Option Addr) (c4 : Nat) (l4 : List Int) (A5 : Option Addr) (c5 : Nat) (l5 : List Int) (w : World) (hr1 : Kd.C k41 w A1 l1.length l1) (hc1 : l1.length ≤ c1) (hr2 : Kd.C k68 w A2 l2.length l2) (hc2 : l2.length ≤ c2) (hr3 : Kd.C (Kd.int .u32) w A3 l3.length l3) (hc3 : l3.length ≤ c3) (hr4 : Kd.C (Kd.int .u32) w A4 l4.length l4) (hc4 : l4.length ≤ c4) (hr5 : Kd.C (Kd.int .u32) w A5 l5.length l5) (hc5 : l5.length ≤ c5) (hg : inquestlaw24_great.f a0 l1 l2 l3 l4 l5 = some false) (km ks : Nat) (hmay : inquestref03_May.f km a0 l1 l2 l3 l4 l5 = some false) (m1 : List S41) (m2 : List S68) (m3 m4 m5 tl : List Int) (hS : strash_Small.f a0 l1 l2 l3 l4 l5 = some (0, m1, m2, m3, m4, m5, tl, 2)) (hsame : inquestref03_Same.f ks 0 m1 m2 m3 m4 m5 0 [] [] [] [] [] = some true) :
  Calls Try.prog 7 #[.agg #[.int .i64 a0, .slice A1 l1.length c1, .slice A2 l2.length c2, .slice A3 l3.length c3, .slice A4 l4.length c4, .slice A5 l5.length c5]] w fun e w' => e = .returned (.bool true) ∧ Below w.heap.size w w' := by
 have hu26 := Try.underlying26
 obtain ⟨kl, hkl⟩ := Ev.rounds lives24_ev
 have HLV := Aside0.mk hkl
 clear hkl
 have HGR := Aside0.mk (fun W (h : MayAt a0 A1 c1 l1 A2 c2 l2 A3 c3 l3 A4 c4 l4 A5 c5 l5 w.heap.size w W) => inquestlaw24_great.calls a0 A1 c1 l1 A2 c2 l2 A3 c3 l3 A4 c4 l4 A5 c5 l5 false W h.h1 hc1 h.h2 hc2 h.h3 hc3 h.h4 hc4 h.h5 hc5 hg)
 have HMR := Aside0.mk (fun W (h : MayAt a0 A1 c1 l1 A2 c2 l2 A3 c3 l3 A4 c4 l4 A5 c5 l5 w.heap.size w W) => inquestref03_May.calls km a0 A1 c1 l1 A2 c2 l2 A3 c3 l3 A4 c4 l4 A5 c5 l5 false W h.h1 hc1 h.h2 hc2 h.h3 hc3 h.h4 hc4 h.h5 hc5 hmay)
 have HSM := Aside0.mk (fun W (h : MayAt a0 A1 c1 l1 A2 c2 l2 A3 c3 l3 A4 c4 l4 A5 c5 l5 w.heap.size w W) => strash_Small.calls a0 A1 c1 l1 A2 c2 l2 A3 c3 l3 A4 c4 l4 A5 c5 l5 0 m1 m2 m3 m4 m5 tl 2 W h.h1 hc1 h.h2 hc2 h.h3 hc3 h.h4 hc4 h.h5 hc5 hS)
 have H0 := Aside0.mk (fun W (hb : Below w.heap.size w W) (hk : W.heap[w.heap.size]? = some (.cells #[.int .i64 a0, .slice A1 l1.length c1, .slice A2 l2.length c2, .slice A3 l3.length c3, .slice A4 l4.length c4, .slice A5 l5.length c5] 26 (0, 0))) => (⟨hb, hk, Kd.C_below hr1 hb, Kd.C_below hr2 hb, Kd.C_below hr3 hb, Kd.C_below hr4 hb, Kd.C_below hr5 hb⟩ : MayAt a0 A1 c1 l1 A2 c2 l2 A3 c3 l3 A4 c4 l4 A5 c5 l5 w.heap.size w W))
 have HSS := Aside0.mk hsame
 clear hr1 hr2 hr3 hr4 hr5 hc1 hc2 hc3 hc4 hc5 hg hmay hS hsame
 go_enter Try.func7, Try.ntmps7
 go_wp2_with (first | ((with_reducible refine gate_dst (N := 1) rfl ?_); (try (refine gate_guard (by rfl) ?_; dsimp only)); refine box_event ?hg (N := 1) ?hd (cs := #[.int .i64 a0, .slice A1 l1.length c1, .slice A2 l2.length c2, .slice A3 l3.length c3, .slice A4 l4.length c4, .slice A5 l5.length c5]) (t := 26) ?hr ?_; (case hd => rfl); (case hg => rfl); (case hr => first | (go_simp; done) | (go_simp; rfl)); intro g1 hg_ w1 bk1 hb1; subst hg_; have HM1 := Aside0.mk (H0.out _ hb1 bk1); clear hb1 bk1; have z0 : w1.cell? ⟨w.heap.size, 0, none⟩ = some (.int .i64 a0) := (blk_cell HM1.out.blk 0).trans rfl; have z1 : w1.cell? ⟨w.heap.size, 1, none⟩ = some (.slice A1 l1.length c1) := (blk_cell HM1.out.blk 1).trans rfl; have z2 : w1.cell? ⟨w.heap.size, 2, none⟩ = some (.slice A2 l2.length c2) := (blk_cell HM1.out.blk 2).trans rfl; have z3 : w1.cell? ⟨w.heap.size, 3, none⟩ = some (.slice A3 l3.length c3) := (blk_cell HM1.out.blk 3).trans rfl; have z4 : w1.cell? ⟨w.heap.size, 4, none⟩ = some (.slice A4 l4.length c4) := (blk_cell HM1.out.blk 4).trans rfl; have z5 : w1.cell? ⟨w.heap.size, 5, none⟩ = some (.slice A5 l5.length c5) := (blk_cell HM1.out.blk 5).trans rfl) | (go_at_call 36; refine (HGR.out _ HM1.out).mono ?_; rintro e w2 ⟨rfl, hb2⟩; have HM2 := Aside0.mk (HM1.out.step hb2); clear hb2; clear z0 z1 z2 z3 z4 z5; have z0 : w2.cell? ⟨w.heap.size, 0, none⟩ = some (.int .i64 a0) := (blk_cell HM2.out.blk 0).trans rfl; have z1 : w2.cell? ⟨w.heap.size, 1, none⟩ = some (.slice A1 l1.length c1) := (blk_cell HM2.out.blk 1).trans rfl; have z2 : w2.cell? ⟨w.heap.size, 2, none⟩ = some (.slice A2 l2.length c2) := (blk_cell HM2.out.blk 2).trans rfl; have z3 : w2.cell? ⟨w.heap.size, 3, none⟩ = some (.slice A3 l3.length c3) := (blk_cell HM2.out.blk 3).trans rfl; have z4 : w2.cell? ⟨w.heap.size, 4, none⟩ = some (.slice A4 l4.length c4) := (blk_cell HM2.out.blk 4).trans rfl; have z5 : w2.cell? ⟨w.heap.size, 5, none⟩ = some (.slice A5 l5.length c5) := (blk_cell HM2.out.blk 5).trans rfl) | (go_at_call 40; refine (HSM.out _ HM2.out).mono ?_; rintro e w3 ⟨v1, v2, v3, v4, v5, v6, rfl, q1, q2, q3, q4, q5, q6, hbA⟩; obtain ⟨B1, d1, eq_, lx1, kx1⟩ := Kd.R_reads q1; subst eq_; clear q1; obtain ⟨B2, d2, eq_, lx2, kx2⟩ := Kd.R_reads q2; subst eq_; clear q2; obtain ⟨B3, d3, eq_, lx3, kx3⟩ := Kd.R_reads q3; subst eq_; clear q3; obtain ⟨B4, d4, eq_, lx4, kx4⟩ := Kd.R_reads q4; subst eq_; clear q4; obtain ⟨B5, d5, eq_, lx5, kx5⟩ := Kd.R_reads q5; subst eq_; clear q5; obtain ⟨B6, d6, eq_, lx6, kx6⟩ := Kd.R_reads q6; subst eq_; clear q6; have LEx := Aside0.mk (And.intro lx1 (And.intro lx2 (And.intro lx3 (And.intro lx4 lx5)))); have KXx := Aside0.mk (And.intro kx1 (And.intro kx2 (And.intro kx3 (And.intro kx4 (And.intro kx5 kx6))))); clear lx1 lx2 lx3 lx4 lx5 kx1 kx2 kx3 kx4 kx5 kx6; have L6x := Aside0.mk lx6; clear lx6; have HBAx := Aside0.mk hbA; clear hbA; have HMqA := Aside0.mk (HM2.out.step HBAx.out); clear z0 z1 z2 z3 z4 z5; have z0 : w3.cell? ⟨w.heap.size, 0, none⟩ = some (.int .i64 a0) := (blk_cell HMqA.out.blk 0).trans rfl; have z1 : w3.cell? ⟨w.heap.size, 1, none⟩ = some (.slice A1 l1.length c1) := (blk_cell HMqA.out.blk 1).trans rfl; have z2 : w3.cell? ⟨w.heap.size, 2, none⟩ = some (.slice A2 l2.length c2) := (blk_cell HMqA.out.blk 2).trans rfl; have z3 : w3.cell? ⟨w.heap.size, 3, none⟩ = some (.slice A3 l3.length c3) := (blk_cell HMqA.out.blk 3).trans rfl; have z4 : w3.cell? ⟨w.heap.size, 4, none⟩ = some (.slice A4 l4.length c4) := (blk_cell HMqA.out.blk 4).trans rfl; have z5 : w3.cell? ⟨w.heap.size, 5, none⟩ = some (.slice A5 l5.length c5) := (blk_cell HMqA.out.blk 5).trans rfl) | ((with_reducible refine gate_dst (N := 3) rfl ?_); (try (refine gate_guard (by rfl) ?_; dsimp only)); refine box_event ?hg (N := 3) ?hd (cs := #[.int .i64 0, .slice none 0 0, .slice none 0 0, .slice none 0 0, .slice none 0 0, .slice none 0 0]) (t := 26) ?hr ?_; (case hd => rfl); (case hg => rfl); (case hr => first | (go_simp; done) | (go_simp; rfl)); intro g3 hg_ w4 bkB hbB; have GEx := Aside0.mk (show w3.heap.size ≤ g3 from by rw [hg_]; exact Nat.le_refl _); clear hg_; have HBBx := Aside0.mk hbB; have KBx := Aside0.mk bkB; clear hbB bkB) | ((with_reducible refine gate_store (t := 26) (p := .tmp 3) (x := .tmp 19) rfl ?_); refine skip_event (W' := ((((((w4.setCell ⟨g3, 0, none⟩ (.int .i64 0)).setCell ⟨g3, 1, none⟩ (.slice B1 m1.length d1)).setCell ⟨g3, 2, none⟩ (.slice B2 m2.length d2)).setCell ⟨g3, 3, none⟩ (.slice B3 m3.length d3)).setCell ⟨g3, 4, none⟩ (.slice B4 m4.length d4)).setCell ⟨g3, 5, none⟩ (.slice B5 m5.length d5))) ?hn ?hs ?hr ?_; (case hn => rfl); (case hs => rfl); (case hr => exact run_store26 rfl rfl rfl KBx.out); intro w5 hw_; have HBCx := Aside0.mk (show Below w3.heap.size w3 w5 from by rw [hw_]; exact ((((((HBBx.out.setCell (p := ⟨g3, 0, none⟩) GEx.out (.int .i64 0)).setCell (p := ⟨g3, 1, none⟩) GEx.out (.slice B1 m1.length d1)).setCell (p := ⟨g3, 2, none⟩) GEx.out (.slice B2 m2.length d2)).setCell (p := ⟨g3, 3, none⟩) GEx.out (.slice B3 m3.length d3)).setCell (p := ⟨g3, 4, none⟩) GEx.out (.slice B4 m4.length d4)).setCell (p := ⟨g3, 5, none⟩) GEx.out (.slice B5 m5.length d5))); have KCx := Aside0.mk (show w5.heap[g3]? = some (.cells #[.int .i64 0, .slice B1 m1.length d1, .slice B2 m2.length d2, .slice B3 m3.length d3, .slice B4 m4.length d4, .slice B5 m5.length d5] 26 (0, 0)) from by rw [hw_]; simpa using blk_set (blk_set (blk_set (blk_set (blk_set (blk_set (KBx.out) 0 (.int .i64 0)) 1 (.slice B1 m1.length d1)) 2 (.slice B2 m2.length d2)) 3 (.slice B3 m3.length d3)) 4 (.slice B4 m4.length d4)) 5 (.slice B5 m5.length d5)); clear hw_; have HMqC := Aside0.mk (HMqA.out.step HBCx.out); have HX5 := Aside0.mk (show MayAt 0 B1 d1 m1 B2 d2 m2 B3 d3 m3 B4 d4 m4 B5 d5 m5 g3 w w5 from ⟨below_step HMqA.out.below HBCx.out, KCx.out, Kd.C_below KXx.out.1 HBCx.out, Kd.C_below KXx.out.2.1 HBCx.out, Kd.C_below KXx.out.2.2.1 HBCx.out, Kd.C_below KXx.out.2.2.2.1 HBCx.out, Kd.C_below KXx.out.2.2.2.2.1 HBCx.out⟩); have TOx := Aside0.mk (Kd.C_below KXx.out.2.2.2.2.2 HBCx.out); clear GEx HBBx KBx KCx KXx; clear z0 z1 z2 z3 z4 z5; have z0 : w5.cell? ⟨w.heap.size, 0, none⟩ = some (.int .i64 a0) := (blk_cell HMqC.out.blk 0).trans rfl; have z1 : w5.cell? ⟨w.heap.size, 1, none⟩ = some (.slice A1 l1.length c1) := (blk_cell HMqC.out.blk 1).trans rfl; have z2 : w5.cell? ⟨w.heap.size, 2, none⟩ = some (.slice A2 l2.length c2) := (blk_cell HMqC.out.blk 2).trans rfl; have z3 : w5.cell? ⟨w.heap.size, 3, none⟩ = some (.slice A3 l3.length c3) := (blk_cell HMqC.out.blk 3).trans rfl; have z4 : w5.cell? ⟨w.heap.size, 4, none⟩ = some (.slice A4 l4.length c4) := (blk_cell HMqC.out.blk 4).trans rfl; have z5 : w5.cell? ⟨w.heap.size, 5, none⟩ = some (.slice A5 l5.length c5) := (blk_cell HMqC.out.blk 5).trans rfl; have y0 : w5.cell? ⟨g3, 0, none⟩ = some (.int .i64 0) := (blk_cell HX5.out.blk 0).trans rfl; have y1 : w5.cell? ⟨g3, 1, none⟩ = some (.slice B1 m1.length d1) := (blk_cell HX5.out.blk 1).trans rfl; have y2 : w5.cell? ⟨g3, 2, none⟩ = some (.slice B2 m2.length d2) := (blk_cell HX5.out.blk 2).trans rfl; have y3 : w5.cell? ⟨g3, 3, none⟩ = some (.slice B3 m3.length d3) := (blk_cell HX5.out.blk 3).trans rfl; have y4 : w5.cell? ⟨g3, 4, none⟩ = some (.slice B4 m4.length d4) := (blk_cell HX5.out.blk 4).trans rfl; have y5 : w5.cell? ⟨g3, 5, none⟩ = some (.slice B5 m5.length d5) := (blk_cell HX5.out.blk 5).trans rfl) | (go_at_call 26; refine (HMR.out _ HMqC.out).mono ?_; rintro e w6 ⟨rfl, hb6⟩; have HM6 := Aside0.mk (HMqC.out.step hb6); have HX6 := Aside0.mk (HX5.out.step hb6); clear hb6; clear z0 z1 z2 z3 z4 z5; clear y0 y1 y2 y3 y4 y5; have z0 : w6.cell? ⟨w.heap.size, 0, none⟩ = some (.int .i64 a0) := (blk_cell HM6.out.blk 0).trans rfl; have z1 : w6.cell? ⟨w.heap.size, 1, none⟩ = some (.slice A1 l1.length c1) := (blk_cell HM6.out.blk 1).trans rfl; have z2 : w6.cell? ⟨w.heap.size, 2, none⟩ = some (.slice A2 l2.length c2) := (blk_cell HM6.out.blk 2).trans rfl; have z3 : w6.cell? ⟨w.heap.size, 3, none⟩ = some (.slice A3 l3.length c3) := (blk_cell HM6.out.blk 3).trans rfl; have z4 : w6.cell? ⟨w.heap.size, 4, none⟩ = some (.slice A4 l4.length c4) := (blk_cell HM6.out.blk 4).trans rfl; have z5 : w6.cell? ⟨w.heap.size, 5, none⟩ = some (.slice A5 l5.length c5) := (blk_cell HM6.out.blk 5).trans rfl; have y0 : w6.cell? ⟨g3, 0, none⟩ = some (.int .i64 0) := (blk_cell HX6.out.blk 0).trans rfl; have y1 : w6.cell? ⟨g3, 1, none⟩ = some (.slice B1 m1.length d1) := (blk_cell HX6.out.blk 1).trans rfl; have y2 : w6.cell? ⟨g3, 2, none⟩ = some (.slice B2 m2.length d2) := (blk_cell HX6.out.blk 2).trans rfl; have y3 : w6.cell? ⟨g3, 3, none⟩ = some (.slice B3 m3.length d3) := (blk_cell HX6.out.blk 3).trans rfl; have y4 : w6.cell? ⟨g3, 4, none⟩ = some (.slice B4 m4.length d4) := (blk_cell HX6.out.blk 4).trans rfl; have y5 : w6.cell? ⟨g3, 5, none⟩ = some (.slice B5 m5.length d5) := (blk_cell HX6.out.blk 5).trans rfl) | (go_at_call 34; refine (inquestref03_Same.calls ks 0 B1 d1 m1 B2 d2 m2 B3 d3 m3 B4 d4 m4 B5 d5 m5 0 none 0 [] none 0 [] none 0 [] none 0 [] none 0 [] true _ HX6.out.h1 LEx.out.1 HX6.out.h2 LEx.out.2.1 HX6.out.h3 LEx.out.2.2.1 HX6.out.h4 LEx.out.2.2.2.1 HX6.out.h5 LEx.out.2.2.2.2 ⟨rfl, by simp, fun h => absurd h (by simp)⟩ (Nat.le_refl _) ⟨rfl, by simp, fun h => absurd h (by simp)⟩ (Nat.le_refl _) ⟨rfl, by simp, fun h => absurd h (by simp)⟩ (Nat.le_refl _) ⟨rfl, by simp, fun h => absurd h (by simp)⟩ (Nat.le_refl _) ⟨rfl, by simp, fun h => absurd h (by simp)⟩ (Nat.le_refl _) HSS.out).mono ?_; rintro e w7 ⟨rfl, hb7⟩; have HM7 := Aside0.mk (HM6.out.step hb7); clear hb7) | (go_at_call 37; refine (inquestlaw24_lives.calls kl true _ HLV.out).mono ?_; rintro e w8 ⟨rfl, hb8⟩))
 go_ret
 exact ⟨rfl, below_step HM7.out.below hb8⟩
set_option maxHeartbeats 16000000 in
set_option maxRecDepth 100000 in
theorem law7_main (a0 : Int) (A1 : Option Addr) (c1 : Nat) (l1 : List S41) (A2 : Option Addr) (c2 : Nat) (l2 : List S68) (A3 : Option Addr) (c3 : Nat) (l3 : List Int) (A4 : Option Addr) (c4 : Nat) (l4 : List Int) (A5 : Option Addr) (c5 : Nat) (l5 : List Int) (w : World) (hr1 : Kd.C k41 w A1 l1.length l1) (hc1 : l1.length ≤ c1) (hr2 : Kd.C k68 w A2 l2.length l2) (hc2 : l2.length ≤ c2) (hr3 : Kd.C (Kd.int .u32) w A3 l3.length l3) (hc3 : l3.length ≤ c3) (hr4 : Kd.C (Kd.int .u32) w A4 l4.length l4) (hc4 : l4.length ≤ c4) (hr5 : Kd.C (Kd.int .u32) w A5 l5.length l5) (hc5 : l5.length ≤ c5) (hg : inquestlaw24_great.f a0 l1 l2 l3 l4 l5 = some false) (km ks : Nat) (hmay : inquestref03_May.f km a0 l1 l2 l3 l4 l5 = some true) (m1 : List S41) (m2 : List S68) (m3 m4 m5 tl tl2 : List Int) (hS : strash_Small.f a0 l1 l2 l3 l4 l5 = some (a0, m1, m2, m3, m4, m5, tl, 0)) (hS2 : strash_Small.f a0 m1 m2 m3 m4 m5 = some (a0, m1, m2, m3, m4, m5, tl2, 0)) (hsame : inquestref03_Same.f ks a0 m1 m2 m3 m4 m5 a0 m1 m2 m3 m4 m5 = some true)
  (hok : ∀ g ∈ m2, Gate32 g) (hap : Apart68 m2) (hni : ∀ (j : Nat) (g : S68), m2[j]? = some g → Nice g) (hl1 : m1.length = l1.length) (hl2 : m2.length ≤ l2.length) (hn2 : m2.length ≤ 16384) (ht : ∀ v : Nat, v < tl2.length → rd tl2 (v : Int) = 2 * (v : Int)) (htn : tl2.length ≤ 20000) :
  Calls Try.prog 7 #[.agg #[.int .i64 a0, .slice A1 l1.length c1, .slice A2 l2.length c2, .slice A3 l3.length c3, .slice A4 l4.length c4, .slice A5 l5.length c5]] w fun e w' => e = .returned (.bool true) ∧ Below w.heap.size w w' := by
 have hu26 := Try.underlying26
 have hu68 := Try.underlying68
 obtain ⟨kl, hkl⟩ := Ev.rounds lives24_ev
 have HLV := Aside0.mk hkl
 clear hkl
 have HGR := Aside0.mk (fun W (h : MayAt a0 A1 c1 l1 A2 c2 l2 A3 c3 l3 A4 c4 l4 A5 c5 l5 w.heap.size w W) => inquestlaw24_great.calls a0 A1 c1 l1 A2 c2 l2 A3 c3 l3 A4 c4 l4 A5 c5 l5 false W h.h1 hc1 h.h2 hc2 h.h3 hc3 h.h4 hc4 h.h5 hc5 hg)
 have HMR := Aside0.mk (fun W (h : MayAt a0 A1 c1 l1 A2 c2 l2 A3 c3 l3 A4 c4 l4 A5 c5 l5 w.heap.size w W) => inquestref03_May.calls km a0 A1 c1 l1 A2 c2 l2 A3 c3 l3 A4 c4 l4 A5 c5 l5 true W h.h1 hc1 h.h2 hc2 h.h3 hc3 h.h4 hc4 h.h5 hc5 hmay)
 have HSM := Aside0.mk (fun W (h : MayAt a0 A1 c1 l1 A2 c2 l2 A3 c3 l3 A4 c4 l4 A5 c5 l5 w.heap.size w W) => strash_Small.calls a0 A1 c1 l1 A2 c2 l2 A3 c3 l3 A4 c4 l4 A5 c5 l5 a0 m1 m2 m3 m4 m5 tl 0 W h.h1 hc1 h.h2 hc2 h.h3 hc3 h.h4 hc4 h.h5 hc5 hS)
 have H0 := Aside0.mk (fun W (hb : Below w.heap.size w W) (hk : W.heap[w.heap.size]? = some (.cells #[.int .i64 a0, .slice A1 l1.length c1, .slice A2 l2.length c2, .slice A3 l3.length c3, .slice A4 l4.length c4, .slice A5 l5.length c5] 26 (0, 0))) => (⟨hb, hk, Kd.C_below hr1 hb, Kd.C_below hr2 hb, Kd.C_below hr3 hb, Kd.C_below hr4 hb, Kd.C_below hr5 hb⟩ : MayAt a0 A1 c1 l1 A2 c2 l2 A3 c3 l3 A4 c4 l4 A5 c5 l5 w.heap.size w W))
 have HSS := Aside0.mk hsame
 have HS2 := Aside0.mk hS2
 have HOK := Aside0.mk hok
 have HAP := Aside0.mk hap
 have HNICE := Aside0.mk hni
 have HL1 := Aside0.mk hl1
 have HL2 := Aside0.mk hl2
 have HT2 := Aside0.mk ht
 have HTN := Aside0.mk htn
 have HN2 := Aside0.mk hn2
 clear hr1 hr2 hr3 hr4 hr5 hc1 hc2 hc3 hc4 hc5 hg hmay hS hsame hS2 hok hap hni hl1 hl2 ht htn hn2
 go_enter Try.func7, Try.ntmps7
 go_wp2_with (first | ((with_reducible refine gate_dst (N := 1) rfl ?_); (try (refine gate_guard (by rfl) ?_; dsimp only)); refine box_event ?hg (N := 1) ?hd (cs := #[.int .i64 a0, .slice A1 l1.length c1, .slice A2 l2.length c2, .slice A3 l3.length c3, .slice A4 l4.length c4, .slice A5 l5.length c5]) (t := 26) ?hr ?_; (case hd => rfl); (case hg => rfl); (case hr => first | (go_simp; done) | (go_simp; rfl)); intro g1 hg_ w1 bk1 hb1; subst hg_; have HM1 := Aside0.mk (H0.out _ hb1 bk1); clear hb1 bk1; have z0 : w1.cell? ⟨w.heap.size, 0, none⟩ = some (.int .i64 a0) := (blk_cell HM1.out.blk 0).trans rfl; have z1 : w1.cell? ⟨w.heap.size, 1, none⟩ = some (.slice A1 l1.length c1) := (blk_cell HM1.out.blk 1).trans rfl; have z2 : w1.cell? ⟨w.heap.size, 2, none⟩ = some (.slice A2 l2.length c2) := (blk_cell HM1.out.blk 2).trans rfl; have z3 : w1.cell? ⟨w.heap.size, 3, none⟩ = some (.slice A3 l3.length c3) := (blk_cell HM1.out.blk 3).trans rfl; have z4 : w1.cell? ⟨w.heap.size, 4, none⟩ = some (.slice A4 l4.length c4) := (blk_cell HM1.out.blk 4).trans rfl; have z5 : w1.cell? ⟨w.heap.size, 5, none⟩ = some (.slice A5 l5.length c5) := (blk_cell HM1.out.blk 5).trans rfl) | (go_at_call 36; refine (HGR.out _ HM1.out).mono ?_; rintro e w2 ⟨rfl, hb2⟩; have HM2 := Aside0.mk (HM1.out.step hb2); clear hb2; clear z0 z1 z2 z3 z4 z5; have z0 : w2.cell? ⟨w.heap.size, 0, none⟩ = some (.int .i64 a0) := (blk_cell HM2.out.blk 0).trans rfl; have z1 : w2.cell? ⟨w.heap.size, 1, none⟩ = some (.slice A1 l1.length c1) := (blk_cell HM2.out.blk 1).trans rfl; have z2 : w2.cell? ⟨w.heap.size, 2, none⟩ = some (.slice A2 l2.length c2) := (blk_cell HM2.out.blk 2).trans rfl; have z3 : w2.cell? ⟨w.heap.size, 3, none⟩ = some (.slice A3 l3.length c3) := (blk_cell HM2.out.blk 3).trans rfl; have z4 : w2.cell? ⟨w.heap.size, 4, none⟩ = some (.slice A4 l4.length c4) := (blk_cell HM2.out.blk 4).trans rfl; have z5 : w2.cell? ⟨w.heap.size, 5, none⟩ = some (.slice A5 l5.length c5) := (blk_cell HM2.out.blk 5).trans rfl) | (go_at_call 40; refine (HSM.out _ HM2.out).mono ?_; rintro e w3 ⟨v1, v2, v3, v4, v5, v6, rfl, q1, q2, q3, q4, q5, q6, hbA⟩; obtain ⟨B1, d1, eq_, lx1, kx1⟩ := Kd.R_reads q1; subst eq_; clear q1; obtain ⟨B2, d2, eq_, lx2, kx2⟩ := Kd.R_reads q2; subst eq_; clear q2; obtain ⟨B3, d3, eq_, lx3, kx3⟩ := Kd.R_reads q3; subst eq_; clear q3; obtain ⟨B4, d4, eq_, lx4, kx4⟩ := Kd.R_reads q4; subst eq_; clear q4; obtain ⟨B5, d5, eq_, lx5, kx5⟩ := Kd.R_reads q5; subst eq_; clear q5; obtain ⟨B6, d6, eq_, lx6, kx6⟩ := Kd.R_reads q6; subst eq_; clear q6; have LEx := Aside0.mk (And.intro lx1 (And.intro lx2 (And.intro lx3 (And.intro lx4 lx5)))); have KXx := Aside0.mk (And.intro kx1 (And.intro kx2 (And.intro kx3 (And.intro kx4 (And.intro kx5 kx6))))); clear lx1 lx2 lx3 lx4 lx5 kx1 kx2 kx3 kx4 kx5 kx6; have L6x := Aside0.mk lx6; clear lx6; have HBAx := Aside0.mk hbA; clear hbA; have HMqA := Aside0.mk (HM2.out.step HBAx.out); clear z0 z1 z2 z3 z4 z5; have z0 : w3.cell? ⟨w.heap.size, 0, none⟩ = some (.int .i64 a0) := (blk_cell HMqA.out.blk 0).trans rfl; have z1 : w3.cell? ⟨w.heap.size, 1, none⟩ = some (.slice A1 l1.length c1) := (blk_cell HMqA.out.blk 1).trans rfl; have z2 : w3.cell? ⟨w.heap.size, 2, none⟩ = some (.slice A2 l2.length c2) := (blk_cell HMqA.out.blk 2).trans rfl; have z3 : w3.cell? ⟨w.heap.size, 3, none⟩ = some (.slice A3 l3.length c3) := (blk_cell HMqA.out.blk 3).trans rfl; have z4 : w3.cell? ⟨w.heap.size, 4, none⟩ = some (.slice A4 l4.length c4) := (blk_cell HMqA.out.blk 4).trans rfl; have z5 : w3.cell? ⟨w.heap.size, 5, none⟩ = some (.slice A5 l5.length c5) := (blk_cell HMqA.out.blk 5).trans rfl) | ((with_reducible refine gate_dst (N := 3) rfl ?_); (try (refine gate_guard (by rfl) ?_; dsimp only)); refine box_event ?hg (N := 3) ?hd (cs := #[.int .i64 0, .slice none 0 0, .slice none 0 0, .slice none 0 0, .slice none 0 0, .slice none 0 0]) (t := 26) ?hr ?_; (case hd => rfl); (case hg => rfl); (case hr => first | (go_simp; done) | (go_simp; rfl)); intro g3 hg_ w4 bkB hbB; have GEx := Aside0.mk (show w3.heap.size ≤ g3 from by rw [hg_]; exact Nat.le_refl _); clear hg_; have HBBx := Aside0.mk hbB; have KBx := Aside0.mk bkB; clear hbB bkB) | ((with_reducible refine gate_store (t := 26) (p := .tmp 3) (x := .tmp 19) rfl ?_); refine skip_event (W' := ((((((w4.setCell ⟨g3, 0, none⟩ (.int .i64 a0)).setCell ⟨g3, 1, none⟩ (.slice B1 m1.length d1)).setCell ⟨g3, 2, none⟩ (.slice B2 m2.length d2)).setCell ⟨g3, 3, none⟩ (.slice B3 m3.length d3)).setCell ⟨g3, 4, none⟩ (.slice B4 m4.length d4)).setCell ⟨g3, 5, none⟩ (.slice B5 m5.length d5))) ?hn ?hs ?hr ?_; (case hn => rfl); (case hs => rfl); (case hr => exact run_store26 rfl rfl rfl KBx.out); intro w5 hw_; have HBCx := Aside0.mk (show Below w3.heap.size w3 w5 from by rw [hw_]; exact ((((((HBBx.out.setCell (p := ⟨g3, 0, none⟩) GEx.out (.int .i64 a0)).setCell (p := ⟨g3, 1, none⟩) GEx.out (.slice B1 m1.length d1)).setCell (p := ⟨g3, 2, none⟩) GEx.out (.slice B2 m2.length d2)).setCell (p := ⟨g3, 3, none⟩) GEx.out (.slice B3 m3.length d3)).setCell (p := ⟨g3, 4, none⟩) GEx.out (.slice B4 m4.length d4)).setCell (p := ⟨g3, 5, none⟩) GEx.out (.slice B5 m5.length d5))); have KCx := Aside0.mk (show w5.heap[g3]? = some (.cells #[.int .i64 a0, .slice B1 m1.length d1, .slice B2 m2.length d2, .slice B3 m3.length d3, .slice B4 m4.length d4, .slice B5 m5.length d5] 26 (0, 0)) from by rw [hw_]; simpa using blk_set (blk_set (blk_set (blk_set (blk_set (blk_set (KBx.out) 0 (.int .i64 a0)) 1 (.slice B1 m1.length d1)) 2 (.slice B2 m2.length d2)) 3 (.slice B3 m3.length d3)) 4 (.slice B4 m4.length d4)) 5 (.slice B5 m5.length d5)); clear hw_; have HMqC := Aside0.mk (HMqA.out.step HBCx.out); have HX5 := Aside0.mk (show MayAt a0 B1 d1 m1 B2 d2 m2 B3 d3 m3 B4 d4 m4 B5 d5 m5 g3 w w5 from ⟨below_step HMqA.out.below HBCx.out, KCx.out, Kd.C_below KXx.out.1 HBCx.out, Kd.C_below KXx.out.2.1 HBCx.out, Kd.C_below KXx.out.2.2.1 HBCx.out, Kd.C_below KXx.out.2.2.2.1 HBCx.out, Kd.C_below KXx.out.2.2.2.2.1 HBCx.out⟩); have TOx := Aside0.mk (Kd.C_below KXx.out.2.2.2.2.2 HBCx.out); clear GEx HBBx KBx KCx KXx; clear z0 z1 z2 z3 z4 z5; have z0 : w5.cell? ⟨w.heap.size, 0, none⟩ = some (.int .i64 a0) := (blk_cell HMqC.out.blk 0).trans rfl; have z1 : w5.cell? ⟨w.heap.size, 1, none⟩ = some (.slice A1 l1.length c1) := (blk_cell HMqC.out.blk 1).trans rfl; have z2 : w5.cell? ⟨w.heap.size, 2, none⟩ = some (.slice A2 l2.length c2) := (blk_cell HMqC.out.blk 2).trans rfl; have z3 : w5.cell? ⟨w.heap.size, 3, none⟩ = some (.slice A3 l3.length c3) := (blk_cell HMqC.out.blk 3).trans rfl; have z4 : w5.cell? ⟨w.heap.size, 4, none⟩ = some (.slice A4 l4.length c4) := (blk_cell HMqC.out.blk 4).trans rfl; have z5 : w5.cell? ⟨w.heap.size, 5, none⟩ = some (.slice A5 l5.length c5) := (blk_cell HMqC.out.blk 5).trans rfl; have y0 : w5.cell? ⟨g3, 0, none⟩ = some (.int .i64 a0) := (blk_cell HX5.out.blk 0).trans rfl; have y1 : w5.cell? ⟨g3, 1, none⟩ = some (.slice B1 m1.length d1) := (blk_cell HX5.out.blk 1).trans rfl; have y2 : w5.cell? ⟨g3, 2, none⟩ = some (.slice B2 m2.length d2) := (blk_cell HX5.out.blk 2).trans rfl; have y3 : w5.cell? ⟨g3, 3, none⟩ = some (.slice B3 m3.length d3) := (blk_cell HX5.out.blk 3).trans rfl; have y4 : w5.cell? ⟨g3, 4, none⟩ = some (.slice B4 m4.length d4) := (blk_cell HX5.out.blk 4).trans rfl; have y5 : w5.cell? ⟨g3, 5, none⟩ = some (.slice B5 m5.length d5) := (blk_cell HX5.out.blk 5).trans rfl) | (go_at_call 26; refine (HMR.out _ HMqC.out).mono ?_; rintro e w6 ⟨rfl, hb6⟩; have HM6 := Aside0.mk (HMqC.out.step hb6); have HX6 := Aside0.mk (HX5.out.step hb6); clear hb6; clear z0 z1 z2 z3 z4 z5; clear y0 y1 y2 y3 y4 y5; have z0 : w6.cell? ⟨w.heap.size, 0, none⟩ = some (.int .i64 a0) := (blk_cell HM6.out.blk 0).trans rfl; have z1 : w6.cell? ⟨w.heap.size, 1, none⟩ = some (.slice A1 l1.length c1) := (blk_cell HM6.out.blk 1).trans rfl; have z2 : w6.cell? ⟨w.heap.size, 2, none⟩ = some (.slice A2 l2.length c2) := (blk_cell HM6.out.blk 2).trans rfl; have z3 : w6.cell? ⟨w.heap.size, 3, none⟩ = some (.slice A3 l3.length c3) := (blk_cell HM6.out.blk 3).trans rfl; have z4 : w6.cell? ⟨w.heap.size, 4, none⟩ = some (.slice A4 l4.length c4) := (blk_cell HM6.out.blk 4).trans rfl; have z5 : w6.cell? ⟨w.heap.size, 5, none⟩ = some (.slice A5 l5.length c5) := (blk_cell HM6.out.blk 5).trans rfl; have y0 : w6.cell? ⟨g3, 0, none⟩ = some (.int .i64 a0) := (blk_cell HX6.out.blk 0).trans rfl; have y1 : w6.cell? ⟨g3, 1, none⟩ = some (.slice B1 m1.length d1) := (blk_cell HX6.out.blk 1).trans rfl; have y2 : w6.cell? ⟨g3, 2, none⟩ = some (.slice B2 m2.length d2) := (blk_cell HX6.out.blk 2).trans rfl; have y3 : w6.cell? ⟨g3, 3, none⟩ = some (.slice B3 m3.length d3) := (blk_cell HX6.out.blk 3).trans rfl; have y4 : w6.cell? ⟨g3, 4, none⟩ = some (.slice B4 m4.length d4) := (blk_cell HX6.out.blk 4).trans rfl; have y5 : w6.cell? ⟨g3, 5, none⟩ = some (.slice B5 m5.length d5) := (blk_cell HX6.out.blk 5).trans rfl) | ((with_reducible refine gate_dst (N := 35) rfl ?_); refine map_event ?hg (N := 35) ?hd ?hr ?_; (case hd => rfl); (case hg => rfl); (case hr => first | (go_simp; done) | (go_simp; rfl)); intro mb hm_ w7 bm hbm; have HM7 := Aside0.mk (HM6.out.step hbm); have HX7 := Aside0.mk (HX6.out.step hbm); have MB := Aside0.mk (show w6.heap.size ≤ mb from by rw [hm_]; exact Nat.le_refl _); have KM7 := Aside0.mk bm; have HB7 := Aside0.mk hbm; clear hm_ bm hbm; clear z0 z1 z2 z3 z4 z5; clear y0 y1 y2 y3 y4 y5; have z0 : w7.cell? ⟨w.heap.size, 0, none⟩ = some (.int .i64 a0) := (blk_cell HM7.out.blk 0).trans rfl; have z1 : w7.cell? ⟨w.heap.size, 1, none⟩ = some (.slice A1 l1.length c1) := (blk_cell HM7.out.blk 1).trans rfl; have z2 : w7.cell? ⟨w.heap.size, 2, none⟩ = some (.slice A2 l2.length c2) := (blk_cell HM7.out.blk 2).trans rfl; have z3 : w7.cell? ⟨w.heap.size, 3, none⟩ = some (.slice A3 l3.length c3) := (blk_cell HM7.out.blk 3).trans rfl; have z4 : w7.cell? ⟨w.heap.size, 4, none⟩ = some (.slice A4 l4.length c4) := (blk_cell HM7.out.blk 4).trans rfl; have z5 : w7.cell? ⟨w.heap.size, 5, none⟩ = some (.slice A5 l5.length c5) := (blk_cell HM7.out.blk 5).trans rfl; have y0 : w7.cell? ⟨g3, 0, none⟩ = some (.int .i64 a0) := (blk_cell HX7.out.blk 0).trans rfl; have y1 : w7.cell? ⟨g3, 1, none⟩ = some (.slice B1 m1.length d1) := (blk_cell HX7.out.blk 1).trans rfl; have y2 : w7.cell? ⟨g3, 2, none⟩ = some (.slice B2 m2.length d2) := (blk_cell HX7.out.blk 2).trans rfl; have y3 : w7.cell? ⟨g3, 3, none⟩ = some (.slice B3 m3.length d3) := (blk_cell HX7.out.blk 3).trans rfl; have y4 : w7.cell? ⟨g3, 4, none⟩ = some (.slice B4 m4.length d4) := (blk_cell HX7.out.blk 4).trans rfl; have y5 : w7.cell? ⟨g3, 5, none⟩ = some (.slice B5 m5.length d5) := (blk_cell HX7.out.blk 5).trans rfl))
 clear z0 z1 z2 z3 z4 z5 y0 y1 y2 y3 y4 y5
 go_loopg [39] m2.length (fun gg v39 wr => ∃ k : Nat, k ≤ m2.length ∧ m2.length - k ≤ gg ∧ v39 = .int .i64 k ∧ Aside0 (Below w6.heap.size w6 wr) ∧ Aside0 (wr.heap[mb]? = some (.map (entT (m2.take k)).toArray (m2.take k).length)))
 case atStart => exact ⟨0, by omega, by omega, rfl, HB7, ⟨KM7.out⟩⟩
 case round =>
  clear HM7 HX7 KM7 HB7
  obtain ⟨k, hk, hg, rfl, HB, KM⟩ := hrel
  by_cases hlt : k < m2.length
  ·
   have hltz : (k : Int) < (m2.length : Int) := by omega
   have M := HX6.out.step HB.out
   obtain ⟨ad2, e, q0, q1⟩ := at_T68 M.h2 (k : Int) (by omega) hltz
   cases e
   have ek : (k : Int).toNat = k := by omega
   rw [ek, rd68_at hlt] at q0 q1
   clear ek M
   have hlen : (m2.take k).length = k := by rw [List.length_take]; omega
   have HGK := Aside0.mk (HOK.out _ (List.getElem_mem hlt))
   have HNI := Aside0.mk (HNICE.out k _ (List.getElem?_eq_getElem hlt))
   have HGT := Aside0.mk (fun g (hg : g ∈ m2.take k) => HOK.out g (List.mem_of_mem_take hg))
   have HNO := Aside0.mk (show ∀ g ∈ m2.take k, ¬ (g.f0 = m2[k].f0 ∧ g.f1 = m2[k].f1) from fun g hg h => by
    obtain ⟨i, hi⟩ := List.getElem?_of_mem hg
    have hil := (List.getElem?_eq_some_iff.1 hi).1
    rw [List.length_take] at hil
    rw [List.getElem?_take, if_pos (by omega)] at hi
    have := HAP.out i k g m2[k] hi (List.getElem?_eq_getElem hlt) h.1 h.2
    omega)
   have HNX := Aside0.mk (entT_next hlt)
   have HGL := Aside0.mk (show (m2.take (k + 1)).length = (m2.take k).length + 1 from by rw [List.length_take, List.length_take]; omega)
   obtain ⟨y, hy⟩ : ∃ y, m2[k] = y := ⟨_, rfl⟩
   rw [hy] at q0 q1 HGK HNI HNX
   have HNO : Aside0 (∀ g ∈ m2.take k, ¬ (g.f0 = y.f0 ∧ g.f1 = y.f1)) := ⟨fun g hg h => HNO.out g hg (by rw [hy]; exact h)⟩
   obtain ⟨gs, hgs⟩ : ∃ gs, m2.take k = gs := ⟨_, rfl⟩
   rw [hgs] at KM HGT HNO HNX HGL hlen
   have HNX : Aside0 ((entT (m2.take (k + 1))).toArray = (entT gs).toArray.push ⟨keyG y.f0 y.f1, .int .i64 1, gs.length⟩) := ⟨by rw [HNX.out, hlen]⟩
   clear hgs hy hlen
   have s1 : decide (y.f1 < 2) = false := decide_eq_false (by have := HNI.out; unfold Nice at this; omega)
   have s2 : ((Int.tdiv y.f0 2) % 4294967296 == (Int.tdiv y.f1 2) % 4294967296) = false := beq_eq_false_iff_ne.mpr (by
    have h1 := HNI.out
    have h2 := HGK.out
    unfold Nice at h1
    unfold Gate32 at h2
    rw [half_u32 h2.1.1 h2.1.2, half_u32 h2.2.1 h2.2.2]
    omega)
   have s3 : (IntKind.u32.wrap (Int.tdiv y.f0 2) == IntKind.u32.wrap (Int.tdiv y.f1 2)) = false := by rw [u32_w, u32_w]; exact s2
   go_wp2_with (first | ((with_reducible refine gate_dst (N := 8) rfl ?_); refine box_event ?hg (N := 8) ?hd (cs := #[.int .u32 0, .int .u32 0]) (t := 68) ?hr ?_; (case hd => rfl); (case hg => rfl); (case hr => first | (go_simp; done) | (go_simp; rfl)); intro g8 hg_ wa_ bk_ hb_; have GE_ := Aside0.mk (Nat.le_of_eq hg_.symm); clear hg_; have HB_ := Aside0.mk hb_; have BK_ := Aside0.mk bk_; have qa_ : wa_.cell? ⟨g8, 0, none⟩ = some (.int .u32 0) := (blk_cell bk_ 0).trans rfl; have qb_ : wa_.cell? ⟨g8, 1, none⟩ = some (.int .u32 0) := (blk_cell bk_ 1).trans rfl; have fa_ := blk_frozen bk_ 0; have fb_ := blk_frozen bk_ 1; clear hb_ bk_) | ((with_reducible refine gate_store (t := 68) (p := .tmp 8) (x := .tmp 42) rfl ?_); refine skip_event (W' := (wa_.setCell ⟨g8, 0, none⟩ (.int .u32 y.f0)).setCell ⟨g8, 1, none⟩ (.int .u32 y.f1)) ?hn ?hs ?hr ?_; (case hn => rfl); (case hs => rfl); (case hr => first | (go_simp; done) | (go_simp; rfl)); intro w8 hw_; have BK8 := Aside0.mk (show w8.heap[g8]? = some (.cells #[.int .u32 y.f0, .int .u32 y.f1] 68 (0, 0)) from by rw [hw_]; exact blk_set2 BK_.out _ _); have HB8 := Aside0.mk (show Below wr.heap.size wr w8 from by rw [hw_]; exact below_set2 HB_.out GE_.out _ _); clear hw_ qa_ qb_ fa_ fb_ BK_ HB_ GE_; have qg8_0 : w8.cell? ⟨g8, 0, none⟩ = some (.int .u32 y.f0) := (blk_cell BK8.out 0).trans rfl; have qg8_1 : w8.cell? ⟨g8, 1, none⟩ = some (.int .u32 y.f1) := (blk_cell BK8.out 1).trans rfl; have KM8 := Aside0.mk (blk_below KM.out HB8.out); have hlk := lookT_none KM8.out HGT.out HGK.out.1 HGK.out.2 HNO.out))
   clear s1 s2 s3 hlk
   refine start_ (n := 7) (S := fun w' => w'.cell? ⟨g8, 0, none⟩ = some (.int .u32 y.f0) ∧ w'.cell? ⟨g8, 1, none⟩ = some (.int .u32 y.f1) ∧ (Instr.lookup 66 (.map (some mb)) (.agg #[.int .u32 y.f0, .int .u32 y.f1]) false).run Try.prog w' = .ok (.int .i64 0) w') (ds := [6]) #[false, false, false, false, false, false, false] (by kernel_rfl) rfl rfl ⟨(blk_cell BK8.out 0).trans rfl, (blk_cell BK8.out 1).trans rfl, lookT_none (blk_below KM8.out (below_drew1 (Below.refl w8.heap.size w8))) HGT.out HGK.out.1 HGK.out.2 HNO.out⟩ (fun hHeld => ?_)
   have HB9 := Aside0.mk (below_step (below_step HB.out HB8.out) (below_drew1 (Below.refl w8.heap.size w8)))
   have KM9 := Aside0.mk (blk_below KM8.out (below_drew1 (Below.refl w8.heap.size w8)))
   have BK9 := Aside0.mk (blk_below BK8.out (below_drew1 (Below.refl w8.heap.size w8)))
   clear HB HB8 KM KM8 BK8 q0 q1 qg8_0 qg8_1
   generalize w8.drew = w9 at HB9 KM9 BK9 hHeld ⊢
   refine pure_ (i := 0) (N := some 61) (v := ?_) (a' := ?_) #[true, false, false, false, false, false, false] rfl rfl (by kernel_rfl) (fun _ _ _ h => h) (Or.inl ⟨by rfl, ?_⟩) ?_ ?_
   rotate_left
   ·
    intro w'
    go_simp
    with_reducible rfl
   rotate_left
   ·
    simp only [Act.put, List.setIfInBounds_toArray, List.set_cons_zero, List.set_cons_succ]
    rfl
   refine take_ (i := 1) (N := some 62) (v := ?_) (a' := ?_) #[true, true, false, false, false, false, false] rfl rfl (by kernel_rfl) (fun _ _ _ h => h) (Or.inl ⟨by rfl, ?_⟩) hHeld ?_ ?_
   rotate_left
   ·
    rintro w' ⟨s0, s1, s2⟩
    go_simp
    with_reducible rfl
   rotate_left
   ·
    simp only [Act.put, List.setIfInBounds_toArray, List.set_cons_zero, List.set_cons_succ]
    rfl
   refine take_ (i := 2) (N := some 63) (v := ?_) (a' := ?_) #[true, true, true, false, false, false, false] rfl rfl (by kernel_rfl) (fun _ _ _ h => h) (Or.inl ⟨by rfl, ?_⟩) hHeld ?_ ?_
   rotate_left
   ·
    rintro w' ⟨s0, s1, s2⟩
    go_simp
    with_reducible rfl
   rotate_left
   ·
    simp only [Act.put, List.setIfInBounds_toArray, List.set_cons_zero, List.set_cons_succ]
    rfl
   refine pure_ (i := 3) (N := some 64) (v := ?_) (a' := ?_) #[true, true, true, true, false, false, false] rfl rfl (by kernel_rfl) (fun _ _ _ h => h) (Or.inl ⟨by rfl, ?_⟩) ?_ ?_
   rotate_left
   ·
    intro w'
    go_simp
    with_reducible rfl
   rotate_left
   ·
    simp only [Act.put, List.setIfInBounds_toArray, List.set_cons_zero, List.set_cons_succ]
    rfl
   obtain ⟨wA, hwA⟩ : ∃ wA, setBlock w9 mb (.map ((entT gs).toArray.push ⟨keyG y.f0 y.f1, .int .i64 0, gs.length⟩) (gs.length + 1)) = wA := ⟨_, rfl⟩
   have hme := mapT_entry KM9.out HGT.out HGK.out.1 HGK.out.2 HNO.out
   rw [hwA] at hme
   have HME := Aside0.mk hme
   have KMA := Aside0.mk (show wA.heap[mb]? = some (.map ((entT gs).toArray.push ⟨keyG y.f0 y.f1, .int .i64 0, gs.length⟩) (gs.length + 1)) from by rw [← hwA]; exact heap_setBlock_same KM9.out _)
   have BKA := Aside0.mk (show wA.heap[g8]? = some (.cells #[.int .u32 y.f0, .int .u32 y.f1] 68 (0, 0)) from by rw [← hwA]; exact (heap_setBlock_other KM9.out _ (fun e => by have := BK9.out; rw [e, KM9.out] at this; cases this)).trans BK9.out)
   have HBA := Aside0.mk (show Below w6.heap.size w6 wA from by rw [← hwA]; exact HB9.out.grown (setBlock_grown KM9.out) HB9.out.size (fun r e => by cases e; exact MB.out))
   clear hme hwA
   refine one_ (i := 4) (N := some 65) #[true, true, true, true, true, false, false] rfl rfl (by kernel_rfl) (by decide) (fun K hK => ?_)
   refine value_ (w1 := wA) (v := .tuple #[.int .i64 0, .int .i64 gs.length]) (by rfl) rfl ?hrun ?_
   case hrun =>
    have hme := HME.out
    first | (go_simp; done) | (go_simp; rfl) | (go_simp; constructor <;> rfl)
   refine hK.out _ _ ⟨(blk_cell BKA.out 0).trans rfl, (blk_cell BKA.out 1).trans rfl, lookT_new KMA.out HGT.out HGK.out.1 HGK.out.2 HNO.out⟩ (fun hHeld => ?_)
   clear hK K
   refine norm_ (a' := ?_) ?_ ?_
   rotate_left
   ·
    show Act.put _ (some 65) _ = _
    simp only [Act.put, List.setIfInBounds_toArray, List.set_cons_zero, List.set_cons_succ]
    rfl
   refine pure_ (i := 5) (N := some 66) (v := ?_) (a' := ?_) #[true, true, true, true, true, true, false] rfl rfl (by kernel_rfl) (fun _ _ _ h => h) (Or.inl ⟨by rfl, ?_⟩) ?_ ?_
   rotate_left
   ·
    intro w'
    go_simp
    with_reducible rfl
   rotate_left
   ·
    simp only [Act.put, List.setIfInBounds_toArray, List.set_cons_zero, List.set_cons_succ]
    rfl
   obtain ⟨wB, hwB⟩ : ∃ wB, setBlock wA mb (.map ((entT gs).toArray.push ⟨keyG y.f0 y.f1, .int .i64 1, gs.length⟩) (gs.length + 1)) = wB := ⟨_, rfl⟩
   have hms := mapT_store (.int .i64 1) KMA.out
   rw [hwB] at hms
   have HMS := Aside0.mk hms
   have KMB := Aside0.mk (show wB.heap[mb]? = some (.map ((entT gs).toArray.push ⟨keyG y.f0 y.f1, .int .i64 1, gs.length⟩) (gs.length + 1)) from by rw [← hwB]; exact heap_setBlock_same KMA.out _)
   have HBB := Aside0.mk (show Below w6.heap.size w6 wB from by rw [← hwB]; exact HBA.out.grown (setBlock_grown KMA.out) HBA.out.size (fun r e => by cases e; exact MB.out))
   clear hms hwB hHeld
   refine last_ (i := 6) (N := none) #[true, true, true, true, true, true, true] rfl rfl (by kernel_rfl) (by decide) (fun K hK => ?_)
   refine skip_step (w1 := wB) (by rfl) rfl ?hrun ?_
   case hrun =>
    have hms := HMS.out
    have hw1 : IntKind.i64.wrap 1 = 1 := by kernel_rfl
    first | (go_simp; done) | (go_simp; rfl)
   refine hK.out _ _ ?_
   clear hK K
   refine done_ (by kernel_rfl) ?_
   clear HBA KMA BKA HME HMS HB9 KM9 BK9
   have hnb := HN2.out
   go_wp2
   go_roundg (m2.length - (k + 1))
   case measure => omega
   case rel => exact ⟨k + 1, by omega, by omega, by go_num, HBB, ⟨by rw [HNX.out, HGL.out]; exact KMB.out⟩⟩
  ·
   have hltz : ¬ (k : Int) < (m2.length : Int) := by omega
   have HMr := Aside0.mk (HM6.out.step HB.out)
   have HXr := Aside0.mk (HX6.out.step HB.out)
   have f1 : decide ((l2.length : Int) < (m2.length : Int)) = false := decide_eq_false (by have := HL2.out; omega)
   have f2 : decide (l2.length < m2.length) = false := decide_eq_false (by have := HL2.out; omega)
   have f3 : ((m1.length : Int) != (l1.length : Int)) = false := bne_eq_false_iff_eq.mpr (by have := HL1.out; omega)
   have f4 : (m1.length != l1.length) = false := bne_eq_false_iff_eq.mpr HL1.out
   clear HB KM hk hg
   have z0 : wr.cell? ⟨w.heap.size, 0, none⟩ = some (.int .i64 a0) := (blk_cell HMr.out.blk 0).trans rfl; have z1 : wr.cell? ⟨w.heap.size, 1, none⟩ = some (.slice A1 l1.length c1) := (blk_cell HMr.out.blk 1).trans rfl; have z2 : wr.cell? ⟨w.heap.size, 2, none⟩ = some (.slice A2 l2.length c2) := (blk_cell HMr.out.blk 2).trans rfl; have z3 : wr.cell? ⟨w.heap.size, 3, none⟩ = some (.slice A3 l3.length c3) := (blk_cell HMr.out.blk 3).trans rfl; have z4 : wr.cell? ⟨w.heap.size, 4, none⟩ = some (.slice A4 l4.length c4) := (blk_cell HMr.out.blk 4).trans rfl; have z5 : wr.cell? ⟨w.heap.size, 5, none⟩ = some (.slice A5 l5.length c5) := (blk_cell HMr.out.blk 5).trans rfl
   have y0 : wr.cell? ⟨g3, 0, none⟩ = some (.int .i64 a0) := (blk_cell HXr.out.blk 0).trans rfl; have y1 : wr.cell? ⟨g3, 1, none⟩ = some (.slice B1 m1.length d1) := (blk_cell HXr.out.blk 1).trans rfl; have y2 : wr.cell? ⟨g3, 2, none⟩ = some (.slice B2 m2.length d2) := (blk_cell HXr.out.blk 2).trans rfl; have y3 : wr.cell? ⟨g3, 3, none⟩ = some (.slice B3 m3.length d3) := (blk_cell HXr.out.blk 3).trans rfl; have y4 : wr.cell? ⟨g3, 4, none⟩ = some (.slice B4 m4.length d4) := (blk_cell HXr.out.blk 4).trans rfl; have y5 : wr.cell? ⟨g3, 5, none⟩ = some (.slice B5 m5.length d5) := (blk_cell HXr.out.blk 5).trans rfl
   go_wp2_with (first | (go_at_call 40; refine (strash_Small.calls a0 B1 d1 m1 B2 d2 m2 B3 d3 m3 B4 d4 m4 B5 d5 m5 a0 m1 m2 m3 m4 m5 tl2 0 _ HXr.out.h1 LEx.out.1 HXr.out.h2 LEx.out.2.1 HXr.out.h3 LEx.out.2.2.1 HXr.out.h4 LEx.out.2.2.2.1 HXr.out.h5 LEx.out.2.2.2.2 HS2.out).mono ?_; rintro e wa ⟨v1, v2, v3, v4, v5, v6, rfl, q1, q2, q3, q4, q5, q6, hbA⟩; obtain ⟨E1, e1, eq_, ly1, ky1⟩ := Kd.R_reads q1; subst eq_; clear q1; obtain ⟨E2, e2, eq_, ly2, ky2⟩ := Kd.R_reads q2; subst eq_; clear q2; obtain ⟨E3, e3, eq_, ly3, ky3⟩ := Kd.R_reads q3; subst eq_; clear q3; obtain ⟨E4, e4, eq_, ly4, ky4⟩ := Kd.R_reads q4; subst eq_; clear q4; obtain ⟨E5, e5, eq_, ly5, ky5⟩ := Kd.R_reads q5; subst eq_; clear q5; obtain ⟨E6, e6, eq_, ly6, ky6⟩ := Kd.R_reads q6; subst eq_; clear q6; have LEy := Aside0.mk (And.intro ly1 (And.intro ly2 (And.intro ly3 (And.intro ly4 ly5)))); have KXy := Aside0.mk (And.intro ky1 (And.intro ky2 (And.intro ky3 (And.intro ky4 (And.intro ky5 ky6))))); clear ly1 ly2 ly3 ly4 ly5 ky1 ky2 ky3 ky4 ky5 ky6; have L6y := Aside0.mk ly6; clear ly6; have HBAy := Aside0.mk hbA; clear hbA; have HMsA := Aside0.mk (HMr.out.step HBAy.out); have HXsA := Aside0.mk (HXr.out.step HBAy.out); clear z0 z1 z2 z3 z4 z5; clear y0 y1 y2 y3 y4 y5) | ((with_reducible refine gate_dst (N := 9) rfl ?_); (try (refine gate_guard (by rfl) ?_; dsimp only)); refine box_event ?hg (N := 9) ?hd (cs := #[.int .i64 0, .slice none 0 0, .slice none 0 0, .slice none 0 0, .slice none 0 0, .slice none 0 0]) (t := 26) ?hr ?_; (case hd => rfl); (case hg => rfl); (case hr => first | (go_simp; done) | (go_simp; rfl)); intro g9 hg_ wb bkB hbB; have GEy := Aside0.mk (show wa.heap.size ≤ g9 from by rw [hg_]; exact Nat.le_refl _); clear hg_; have HBBy := Aside0.mk hbB; have KBy := Aside0.mk bkB; clear hbB bkB) | ((with_reducible refine gate_store (t := 26) (p := .tmp 9) (x := .tmp 71) rfl ?_); refine skip_event (W' := ((((((wb.setCell ⟨g9, 0, none⟩ (.int .i64 a0)).setCell ⟨g9, 1, none⟩ (.slice E1 m1.length e1)).setCell ⟨g9, 2, none⟩ (.slice E2 m2.length e2)).setCell ⟨g9, 3, none⟩ (.slice E3 m3.length e3)).setCell ⟨g9, 4, none⟩ (.slice E4 m4.length e4)).setCell ⟨g9, 5, none⟩ (.slice E5 m5.length e5))) ?hn ?hs ?hr ?_; (case hn => rfl); (case hs => rfl); (case hr => exact run_store26 rfl rfl rfl KBy.out); intro wc hw_; have HBCy := Aside0.mk (show Below wa.heap.size wa wc from by rw [hw_]; exact ((((((HBBy.out.setCell (p := ⟨g9, 0, none⟩) GEy.out (.int .i64 a0)).setCell (p := ⟨g9, 1, none⟩) GEy.out (.slice E1 m1.length e1)).setCell (p := ⟨g9, 2, none⟩) GEy.out (.slice E2 m2.length e2)).setCell (p := ⟨g9, 3, none⟩) GEy.out (.slice E3 m3.length e3)).setCell (p := ⟨g9, 4, none⟩) GEy.out (.slice E4 m4.length e4)).setCell (p := ⟨g9, 5, none⟩) GEy.out (.slice E5 m5.length e5))); have KCy := Aside0.mk (show wc.heap[g9]? = some (.cells #[.int .i64 a0, .slice E1 m1.length e1, .slice E2 m2.length e2, .slice E3 m3.length e3, .slice E4 m4.length e4, .slice E5 m5.length e5] 26 (0, 0)) from by rw [hw_]; simpa using blk_set (blk_set (blk_set (blk_set (blk_set (blk_set (KBy.out) 0 (.int .i64 a0)) 1 (.slice E1 m1.length e1)) 2 (.slice E2 m2.length e2)) 3 (.slice E3 m3.length e3)) 4 (.slice E4 m4.length e4)) 5 (.slice E5 m5.length e5)); clear hw_; have HMsC := Aside0.mk (HMsA.out.step HBCy.out); have HXsC := Aside0.mk (HXsA.out.step HBCy.out); have HY := Aside0.mk (show MayAt a0 E1 e1 m1 E2 e2 m2 E3 e3 m3 E4 e4 m4 E5 e5 m5 g9 w wc from ⟨below_step HMsA.out.below HBCy.out, KCy.out, Kd.C_below KXy.out.1 HBCy.out, Kd.C_below KXy.out.2.1 HBCy.out, Kd.C_below KXy.out.2.2.1 HBCy.out, Kd.C_below KXy.out.2.2.2.1 HBCy.out, Kd.C_below KXy.out.2.2.2.2.1 HBCy.out⟩); have TOy := Aside0.mk (Kd.C_below KXy.out.2.2.2.2.2 HBCy.out); clear GEy HBBy KBy KCy KXy; have z0 : wc.cell? ⟨w.heap.size, 0, none⟩ = some (.int .i64 a0) := (blk_cell HMsC.out.blk 0).trans rfl; have z1 : wc.cell? ⟨w.heap.size, 1, none⟩ = some (.slice A1 l1.length c1) := (blk_cell HMsC.out.blk 1).trans rfl; have z2 : wc.cell? ⟨w.heap.size, 2, none⟩ = some (.slice A2 l2.length c2) := (blk_cell HMsC.out.blk 2).trans rfl; have z3 : wc.cell? ⟨w.heap.size, 3, none⟩ = some (.slice A3 l3.length c3) := (blk_cell HMsC.out.blk 3).trans rfl; have z4 : wc.cell? ⟨w.heap.size, 4, none⟩ = some (.slice A4 l4.length c4) := (blk_cell HMsC.out.blk 4).trans rfl; have z5 : wc.cell? ⟨w.heap.size, 5, none⟩ = some (.slice A5 l5.length c5) := (blk_cell HMsC.out.blk 5).trans rfl; have y0 : wc.cell? ⟨g3, 0, none⟩ = some (.int .i64 a0) := (blk_cell HXsC.out.blk 0).trans rfl; have y1 : wc.cell? ⟨g3, 1, none⟩ = some (.slice B1 m1.length d1) := (blk_cell HXsC.out.blk 1).trans rfl; have y2 : wc.cell? ⟨g3, 2, none⟩ = some (.slice B2 m2.length d2) := (blk_cell HXsC.out.blk 2).trans rfl; have y3 : wc.cell? ⟨g3, 3, none⟩ = some (.slice B3 m3.length d3) := (blk_cell HXsC.out.blk 3).trans rfl; have y4 : wc.cell? ⟨g3, 4, none⟩ = some (.slice B4 m4.length d4) := (blk_cell HXsC.out.blk 4).trans rfl; have y5 : wc.cell? ⟨g3, 5, none⟩ = some (.slice B5 m5.length d5) := (blk_cell HXsC.out.blk 5).trans rfl; have x0 : wc.cell? ⟨g9, 0, none⟩ = some (.int .i64 a0) := (blk_cell HY.out.blk 0).trans rfl; have x1 : wc.cell? ⟨g9, 1, none⟩ = some (.slice E1 m1.length e1) := (blk_cell HY.out.blk 1).trans rfl; have x2 : wc.cell? ⟨g9, 2, none⟩ = some (.slice E2 m2.length e2) := (blk_cell HY.out.blk 2).trans rfl; have x3 : wc.cell? ⟨g9, 3, none⟩ = some (.slice E3 m3.length e3) := (blk_cell HY.out.blk 3).trans rfl; have x4 : wc.cell? ⟨g9, 4, none⟩ = some (.slice E4 m4.length e4) := (blk_cell HY.out.blk 4).trans rfl; have x5 : wc.cell? ⟨g9, 5, none⟩ = some (.slice E5 m5.length e5) := (blk_cell HY.out.blk 5).trans rfl) | (go_at_call 34; refine (inquestref03_Same.calls ks a0 B1 d1 m1 B2 d2 m2 B3 d3 m3 B4 d4 m4 B5 d5 m5 a0 E1 e1 m1 E2 e2 m2 E3 e3 m3 E4 e4 m4 E5 e5 m5 true _ HXsC.out.h1 LEx.out.1 HXsC.out.h2 LEx.out.2.1 HXsC.out.h3 LEx.out.2.2.1 HXsC.out.h4 LEx.out.2.2.2.1 HXsC.out.h5 LEx.out.2.2.2.2 HY.out.h1 LEy.out.1 HY.out.h2 LEy.out.2.1 HY.out.h3 LEy.out.2.2.1 HY.out.h4 LEy.out.2.2.2.1 HY.out.h5 LEy.out.2.2.2.2 HSS.out).mono ?_; rintro e wd ⟨rfl, hbd⟩; have HMt := Aside0.mk (HMsC.out.step hbd); have HXt := Aside0.mk (HXsC.out.step hbd); have HTO := Aside0.mk (Kd.C_below TOy.out hbd); clear hbd; clear z0 z1 z2 z3 z4 z5; clear y0 y1 y2 y3 y4 y5; clear x0 x1 x2 x3 x4 x5; have z0 : wd.cell? ⟨w.heap.size, 0, none⟩ = some (.int .i64 a0) := (blk_cell HMt.out.blk 0).trans rfl; have z1 : wd.cell? ⟨w.heap.size, 1, none⟩ = some (.slice A1 l1.length c1) := (blk_cell HMt.out.blk 1).trans rfl; have z2 : wd.cell? ⟨w.heap.size, 2, none⟩ = some (.slice A2 l2.length c2) := (blk_cell HMt.out.blk 2).trans rfl; have z3 : wd.cell? ⟨w.heap.size, 3, none⟩ = some (.slice A3 l3.length c3) := (blk_cell HMt.out.blk 3).trans rfl; have z4 : wd.cell? ⟨w.heap.size, 4, none⟩ = some (.slice A4 l4.length c4) := (blk_cell HMt.out.blk 4).trans rfl; have z5 : wd.cell? ⟨w.heap.size, 5, none⟩ = some (.slice A5 l5.length c5) := (blk_cell HMt.out.blk 5).trans rfl; have y0 : wd.cell? ⟨g3, 0, none⟩ = some (.int .i64 a0) := (blk_cell HXt.out.blk 0).trans rfl; have y1 : wd.cell? ⟨g3, 1, none⟩ = some (.slice B1 m1.length d1) := (blk_cell HXt.out.blk 1).trans rfl; have y2 : wd.cell? ⟨g3, 2, none⟩ = some (.slice B2 m2.length d2) := (blk_cell HXt.out.blk 2).trans rfl; have y3 : wd.cell? ⟨g3, 3, none⟩ = some (.slice B3 m3.length d3) := (blk_cell HXt.out.blk 3).trans rfl; have y4 : wd.cell? ⟨g3, 4, none⟩ = some (.slice B4 m4.length d4) := (blk_cell HXt.out.blk 4).trans rfl; have y5 : wd.cell? ⟨g3, 5, none⟩ = some (.slice B5 m5.length d5) := (blk_cell HXt.out.blk 5).trans rfl))
   clear z0 z1 z2 z3 z4 z5 y0 y1 y2 y3 y4 y5 f1 f2 f3 f4
   go_loopg [109] tl2.length (fun gg v109 wr => ∃ k : Nat, k ≤ tl2.length ∧ tl2.length - k ≤ gg ∧ v109 = .int .i64 k ∧ Aside0 (Below w.heap.size w wr) ∧ Aside0 (Kd.C (Kd.int .u32) wr E6 tl2.length tl2))
   case atStart => exact ⟨0, by omega, by omega, rfl, ⟨HMt.out.below⟩, HTO⟩
   case round =>
    clear HMt HXt HTO
    obtain ⟨k, hk, hg, rfl, HB, HTO⟩ := hrel
    by_cases hlt : k < tl2.length
    ·
     have hltz : (k : Int) < (tl2.length : Int) := by omega
     obtain ⟨ad6, e, xq⟩ := Kd.at_int HTO.out (k : Int) (by omega) hltz
     cases e
     have ek : (k : Int).toNat = k := by omega
     rw [ek, HT2.out k hlt] at xq
     clear ek
     have e1 : wrap64 (2 * (k : Int)) = 2 * (k : Int) := wrap64_id (by omega) (by have := HTN.out; omega)
     have e2 : IntKind.u32.wrap (2 * (k : Int)) = 2 * (k : Int) := u32_id (by omega) (by have := HTN.out; omega)
     have e3 : IntKind.i64.wrap (2 * (k : Int)) = 2 * (k : Int) := IntWalk.i64_in _ (by have := HTN.out; omega)
     go_wp2_with fail
     clear e1 e2 e3
     have hnb := HTN.out
     go_roundg (tl2.length - (k + 1))
     case measure => omega
     case rel => exact ⟨k + 1, by omega, by omega, (by rw [show wrap64 ((k : Int) + 1) = ((k + 1 : Nat) : Int) from wrap_nat (by omega)]), HB, HTO⟩
    ·
     have hltz : ¬ (k : Int) < (tl2.length : Int) := by omega
     go_wp2_with (first | (go_at_call 37; refine (inquestlaw24_lives.calls kl true _ HLV.out).mono ?_; rintro e wz ⟨rfl, hbz⟩))
     go_ret
     exact ⟨rfl, below_step HB.out hbz⟩
end Go.Proofs.Yteiiodlgdbiimaa.F
end
section
namespace Go.Proofs.Yteiiodlgdbiimaa.F
open Go.RowKit Go.Shelf Go.Proofs.YteiiodlgdbiimaaW.PrintWords Go.Proofs.YteiiodlgdbiimaaW.PrintLast Go.Proofs.YteiiodlgdbiimaaW.PrintMore
set_option linter.unusedVariables false
set_option linter.unusedSimpArgs false
theorem law7 (a0 : Int) (A1 : Option Addr) (c1 : Nat) (l1 : List S41) (A2 : Option Addr) (c2 : Nat) (l2 : List S68) (A3 : Option Addr) (c3 : Nat) (l3 : List Int) (A4 : Option Addr) (c4 : Nat) (l4 : List Int) (A5 : Option Addr) (c5 : Nat) (l5 : List Int) (w : World) (hr1 : Kd.C k41 w A1 l1.length l1) (hc1 : l1.length ≤ c1) (hr2 : Kd.C k68 w A2 l2.length l2) (hc2 : l2.length ≤ c2) (hr3 : Kd.C (Kd.int .u32) w A3 l3.length l3) (hc3 : l3.length ≤ c3) (hr4 : Kd.C (Kd.int .u32) w A4 l4.length l4) (hc4 : l4.length ≤ c4) (hr5 : Kd.C (Kd.int .u32) w A5 l5.length l5) (hc5 : l5.length ≤ c5)
    (ha : -9223372036854775808 ≤ a0 ∧ a0 < 9223372036854775808) (h1 : In41 l1) (h2 : In68 l2) (h3 : InU32 l3) (h4 : InU32 l4) (h5 : InU32 l5) :
    Calls Try.prog 7 #[.agg #[.int .i64 a0, .slice A1 l1.length c1, .slice A2 l2.length c2, .slice A3 l3.length c3, .slice A4 l4.length c4, .slice A5 l5.length c5]] w fun e w' => e = .returned (.bool true) ∧ Below w.heap.size w w' := by
  have n3 := hr3.2.1
  have n4 := hr4.2.1
  have n5 := hr5.2.1
  obtain ⟨b, hg, hgb⟩ := great_is (a0 := a0) (l1 := l1) (l2 := l2) (l3 := l3) (l4 := l4) (l5 := l5)
  cases b with
  | true => exact law7_great a0 A1 c1 l1 A2 c2 l2 A3 c3 l3 A4 c4 l4 A5 c5 l5 w hr1 hc1 hr2 hc2 hr3 hc3 hr4 hc4 hr5 hc5 hg
  | false =>
  obtain ⟨g1, g2, g3⟩ := hgb rfl
  obtain ⟨km, hkm⟩ := Ev.rounds (mayr_all ha (by omega) (by omega) (by omega) (by omega) (by omega) h1 h2 h3 h4 h5)
  by_cases hm : mayB a0 l1 l2 l3 l4 l5 = true
  case neg =>
    rw [Bool.not_eq_true] at hm
    rw [hm] at hkm
    obtain ⟨ks, hks⟩ := Ev.rounds (same_ev (a0 := 0) (l1 := []) (l2 := []) (l3 := []) (l4 := []) (l5 := []) (by decide) (by decide))
    exact law7_no a0 A1 c1 l1 A2 c2 l2 A3 c3 l3 A4 c4 l4 A5 c5 l5 w hr1 hc1 hr2 hc2 hr3 hc3 hr4 hc4 hr5 hc5 hg km ks hkm [] [] [] [] [] [] (small_no hm) hks
  rw [hm] at hkm
  have hok : okIn l1 l2 = true := okIn_of h1 h2 (by omega) (by omega)
  obtain ⟨hv, _⟩ := valid_of_may hok hm
  have hp := hv.pos
  have hle := hv.le
  have hS := small_ok h1 h2 h3 h4 h5 (by omega) (by omega) hm
  obtain ⟨n, hn⟩ : ∃ n : Nat, n = a0.toNat + l1.length + l2.length + 1 := ⟨_, rfl⟩
  have hbl := blank_len n
  have hwv := with_valid hv h1 h2 h3 h4 h5 (fun i => by have := rd_tri (blank_tri n) i; unfold Tri at this; omega) (show ((blankL n).length : Int) = a0 + (l1.length : Int) + (l2.length : Int) + 1 by rw [hbl]; omega)
  unfold smallW at hS
  rw [← hn] at hS
  generalize wasW a0 l1 l2 (blankL n) = s at hS hwv
  obtain ⟨hSh, hgl, k1, k2, k3, k4, k5, hv'⟩ := hwv
  have hle' := hv'.le
  have hll : (latM s.1 l1).length = l1.length := by unfold latM; rw [List.length_map]
  have hcl : ∀ l : List Int, InU32 l → (∀ x ∈ l, wrap64 (x / 2) ≤ a0 + ((latM s.1 l1).length : Int) + (s.2.length : Int)) → ∀ x ∈ l, x / 2 < ((a0.toNat + (latM s.1 l1).length + s.2.length + 1 : Nat) : Int) := fun l hl h x hx => by
    have q1 := hl x hx
    have q2 := h x hx
    rw [wrap64_id (by omega) (by omega)] at q2
    omega
  have hmay' : mayB a0 (latM s.1 l1) s.2 (l3.map (litP s.1)) (l4.map (litP s.1)) (l5.map (litP s.1)) = true := by
    have e1 := mayr_ev hv' k1 k2 k3 k4 k5
    have e2 := mayr_all (a0 := a0) ha (by omega) (by omega) (by rw [List.length_map]; omega) (by rw [List.length_map]; omega) (by rw [List.length_map]; omega) k1 k2 k3 k4 k5
    obtain ⟨K1, h1⟩ := e1
    obtain ⟨K2, h2⟩ := e2
    have := (h1 (K1 + K2) (by omega)).symm.trans (h2 (K1 + K2) (by omega))
    exact (Option.some.inj this).symm
  have hS2 := small_ok k1 k2 k3 k4 k5 (by omega) (by omega) hmay'
  rw [again_small hp (by omega) (fun j g hj => by have := hSh.nice j g hj; rw [hll]; exact ⟨this.1, by have := this.2; omega⟩) hSh.ap] at hS2
  dsimp only at hS2
  have hkk : a0.toNat + (latM s.1 l1).length + s.2.length + 1 ≤ 100000 := by omega
  rw [map_self hkk k3 (hcl _ k3 hv'.outs.2), map_self hkk k4 (hcl _ k4 hv'.bads.2), map_self hkk k5 (hcl _ k5 hv'.cons.2), lat_self hkk k1 (fun g hg => by
    obtain ⟨i, hi, rfl⟩ := List.mem_iff_getElem.1 hg
    have := hv'.next i hi
    omega)] at hS2
  obtain ⟨ks, hks⟩ := Ev.rounds (same_ev (a0 := a0) (l1 := latM s.1 l1) (l2 := s.2) (l3 := l3.map (litP s.1)) (l4 := l4.map (litP s.1)) (l5 := l5.map (litP s.1)) (by omega) (by omega))
  refine law7_main a0 A1 c1 l1 A2 c2 l2 A3 c3 l3 A4 c4 l4 A5 c5 l5 w hr1 hc1 hr2 hc2 hr3 hc3 hr4 hc4 hr5 hc5 hg km ks hkm _ _ _ _ _ _ _ hS hS2 hks (fun g hg => k2 g hg) hSh.ap (fun j g hj => (hSh.nice j g hj).1) hll hgl (by omega) (fun v hv => ?_) ?_
  · rw [self_len] at hv
    exact self_rd hv
  · rw [self_len]
    omega
end Go.Proofs.Yteiiodlgdbiimaa.F
end
section
namespace Go.Proofs.Yteiiodlgdbiimaa.strashSmall
open Go.ChangeShapes Go.WideShapes Go.ChangeAt Go.RowKit Go.Proofs.Yteiiodlgdbiimaa.F Go.Proofs.YteiiodlgdbiimaaW.PrintWords Go.Proofs.YteiiodlgdbiimaaW.PrintLast Go.Proofs.YteiiodlgdbiimaaW.PrintMore
set_option linter.unusedVariables false
theorem own : ownKnob Try.prog.godebug = none := by kernel_rfl
theorem laidOut : laidOutB Try.prog = true := by kernel_rfl
set_option maxRecDepth 100000 in
theorem lifted (os : Os) (started : os.Started) (H : Type) (enc : TypeId × Value → H) :
    ReturnsInHanded {} Try.checked os 7 .any (Rows.strashSmallSpec.pre6 enc Try.prog Try.f7 Rows.strashSmallRow.domain false) (Rows.strashSmallSpec.post enc Try.prog Try.f7 false true false false) := by
  refine returnsInHanded_of_change_sized (C := Try.checked) own started (by kernel_rfl) Try.func7
    (ChangeSpec.witness6 (enc := enc) (C := Try.checked) false ⟨#[], #[.agg #[.int .i64 0, .slice none 0 0, .slice none 0 0, .slice none 0 0, .slice none 0 0, .slice none 0 0]], []⟩ 8 (by kernel_rfl) (by kernel_rfl) (by kernel_rfl) (by kernel_rfl)) ?_
  intro W base args ds gs before hval0 hW hcnd hsz0 _
  have hval : ∀ (j : Nat) t v, Try.f7.params[j]? = some t → args[j]? = some v → Value.okWide Try.prog W .any base t v := hval0
  have hW' := hW
  obtain ⟨p, q, hA0, hV, rfl, hfz, hnd⟩ := hW
  have hA : DataW.TrodAll enc Try.prog W 0 (fun _ => true) true Try.f7.params.toList args.toList ds p := hA0
  rw [Try.params7] at hA hval
  obtain ⟨v0, vs0, d0, ds0, p0, q0, hargs, rfl, rfl, h0, r0⟩ := trodAll_cons hA
  obtain ⟨rfl, rfl, rfl⟩ := trodAll_nil r0
  obtain rfl : args = #[v0] := by cases args; simp_all
  obtain ⟨rfl, rfl⟩ := trodVars_none hV
  have k0 := h0
  have lt0 : ∀ x ∈ p0, x.block < W.heap.size := by obtain ⟨m, hm⟩ := k0; exact DataW.trod_lt m _ _ _ hm
  obtain ⟨a0_0, A0_1, c0_1, l0_1, A0_2, c0_2, l0_2, A0_3, c0_3, l0_3, A0_4, c0_4, l0_4, A0_5, c0_5, l0_5, rfl, w0, ⟨hc0_1, hr0_1, w0_1⟩, ⟨hc0_2, hr0_2, w0_2⟩, ⟨hc0_3, hr0_3, w0_3⟩, ⟨hc0_4, hr0_4, w0_4⟩, ⟨hc0_5, hr0_5, w0_5⟩⟩ := openCirc (hval 0 26 v0 rfl rfl) h0
  clear hA0 hval0 hsz0
  refine (law7 a0_0 A0_1 c0_1 l0_1 A0_2 c0_2 l0_2 A0_3 c0_3 l0_3 A0_4 c0_4 l0_4 A0_5 c0_5 l0_5 W hr0_1 hc0_1 hr0_2 hc0_2 hr0_3 hc0_3 hr0_4 hc0_4 hr0_5 hc0_5 w0 w0_1 w0_2 w0_3 w0_4 w0_5).mono fun e W' ⟨he, bel⟩ => ?_
  subst he
  exact ⟨_, rfl, _, _, _, [], _, [], hW', trodAll_mk1 (shut_bool Try.underlying4 _), (trodAll_cons_mk (Below.trod laidOut (by kernel_rfl) (of_decide_eq_true (by kernel_rfl)) k0 bel lt0) trodAll_mk0), rfl, bel.frame _, fun h => by cases h⟩
theorem closed : joinedFacts Try.pinned.checked.prog 7 Try.f7 Rows.strashSmallSpec Rows.strashSmallRow = true := by
  unfold joinedFacts
  rw [may_enter, lifts_no, make_is]
  kernel_rfl
theorem over : Rows.strashSmallRow.holds Try.pinned (OpenSpec.ofChange Rows.strashSmallSpec) :=
  OpenClaim.holds_of_wide 7 Try.f7 rfl rfl rfl rfl rfl rfl rfl ⟨rfl, rfl, rfl, rfl, rfl⟩ rfl rfl rfl rfl rfl (by kernel_rfl) Try.func7 closed
    (of_decide_eq_true (by kernel_rfl)) (by unfold Func.isWrapper; first | (rw [if_pos (by decide +kernel)]; kernel_rfl) | (rw [if_neg (by decide +kernel)]; exact ⟨rfl, rfl⟩))
    (fun os started H enc _ => lifted os started H enc)
theorem proved : Rows.StrashSmallSaid := over
#print axioms proved
end Go.Proofs.Yteiiodlgdbiimaa.strashSmall
namespace Go.Proofs.Yteiiodlgdbiimaa
theorem strashSmall_holds : Rows.StrashSmallSaid := strashSmall.proved
end Go.Proofs.Yteiiodlgdbiimaa
end
