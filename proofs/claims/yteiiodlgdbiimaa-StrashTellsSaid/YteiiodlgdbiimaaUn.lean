/- What the proof of the law StrashTells needs, part 14: the walks of the functions that it reaches, and the plain words on what these compute. -/
import Derived.Test.YteiiodlgdbiimaaUm
section
namespace Go.Proofs.Yteiiodlgdbiimaa.F
open Go.RowKit Go.Shelf Go.Proofs.YteiiodlgdbiimaaW.PrintWords Go.Proofs.YteiiodlgdbiimaaW.PrintLast Go.Proofs.YteiiodlgdbiimaaW.PrintMore
set_option linter.unusedVariables false
set_option linter.unusedSimpArgs false
theorem numbers_ev : ∀ (xs : List Int), Ev (fun k => inquestref00_Numbers.l0 k xs xs) true
  | [] => by
    refine Ev.step (f := fun _ => some true) (fun k => ?_) (Ev.now true)
    simp only [inquestref00_Numbers.l0]
    rw [if_neg (by simp)]
  | x :: t => by
    refine Ev.step (fun k => ?_) (numbers_ev t)
    simp only [inquestref00_Numbers.l0]
    rw [if_pos (by rw [List.length_cons]; omega), if_pos (by rw [List.length_cons]; omega), if_pos (by rw [List.length_cons]; omega), if_pos trivial, if_pos (by rw [List.length_cons]; omega), if_pos (by rw [List.length_cons]; omega)]
    rfl
theorem numbersf_ev (xs : List Int) : Ev (fun k => inquestref00_Numbers.f k xs xs) true := by
  unfold inquestref00_Numbers.f
  exact Ev.ifp rfl (numbers_ev xs)
section
variable {a0 : Int} {l1 : List S41} {l2 : List S68} {l3 l4 l5 : List Int}
theorem same_ev (n1 : l1.length < 9223372036854775807) (n2 : l2.length < 9223372036854775807) : Ev (fun k => inquestref03_Same.f k a0 l1 l2 l3 l4 l5 a0 l1 l2 l3 l4 l5) true := by
  have hend : Ev (fun k => (inquestref00_Numbers.f k l3 l3).bind fun t258 => (if t258 = true then ((inquestref00_Numbers.f k l4 l4).bind fun t259 => (if t259 = true then ((inquestref00_Numbers.f k l5 l5).bind fun t260 => (some t260)) else (some false))) else (some false))) true :=
    Ev.bind (numbersf_ev l3) (Ev.ifp rfl (Ev.bind (numbersf_ev l4) (Ev.ifp rfl (Ev.bind (numbersf_ev l5) (Ev.now true)))))
  have key2 : ∀ (d i : Nat), l2.length - i = d → i ≤ l2.length → Ev (fun k => inquestref03_Same.l1 k (i : Int) a0 l1 l2 l3 l4 l5 a0 l1 l2 l3 l4 l5) true := by
    intro d
    induction d with
    | zero =>
      intro i hd hi
      refine Ev.step (fun k => ?_) hend
      simp only [inquestref03_Same.l1]
      rw [if_neg (by omega)]
    | succ d ih =>
      intro i hd hi
      refine Ev.step (fun k => ?_) (ih (i + 1) (by omega) (by omega))
      simp only [inquestref03_Same.l1]
      rw [if_pos (by omega), if_pos (by omega), if_pos (by omega), if_neg (by simp), wrap_nat' (by omega)]
  have key1 : ∀ (d i : Nat), l1.length - i = d → i ≤ l1.length → Ev (fun k => inquestref03_Same.l0 k (i : Int) a0 l1 l2 l3 l4 l5 a0 l1 l2 l3 l4 l5) true := by
    intro d
    induction d with
    | zero =>
      intro i hd hi
      refine Ev.step (fun k => ?_) (key2 l2.length 0 (by omega) (by omega))
      simp only [inquestref03_Same.l0]
      rw [if_neg (by omega)]
      rfl
    | succ d ih =>
      intro i hd hi
      refine Ev.step (fun k => ?_) (ih (i + 1) (by omega) (by omega))
      simp only [inquestref03_Same.l0]
      rw [if_pos (by omega), if_pos (by omega), if_pos (by omega), if_neg (by simp), wrap_nat' (by omega)]
  unfold inquestref03_Same.f
  refine Ev.ifp rfl (Ev.ifp rfl ?_)
  have e : ((l2.length : Int) != (l2.length : Int)) = false := by simp
  rw [e]
  refine Ev.step (fun k => ?_) (key1 l1.length 0 (by omega) (by omega))
  simp only [inquestref03_Same.j0]
  rw [if_neg (by decide)]
  rfl
end
end Go.Proofs.Yteiiodlgdbiimaa.F
end
section
namespace Go.Proofs.Yteiiodlgdbiimaa.F
open Go.RowKit Go.Proofs.YteiiodlgdbiimaaW.PrintWords Go.Proofs.YteiiodlgdbiimaaW.PrintLast Go.Proofs.YteiiodlgdbiimaaW.PrintMore
attribute [local go_sem] max2_int min2_int max_two min_two max_three min_three max_four min_four
set_option linter.unusedVariables false
set_option linter.unusedSimpArgs false
def inquestref00_Lent.f (l0 : List Int) : Option (List Int) := (some (([7, 6, 5, 4, 3, 2, 1] : List Int) : List Int)).bind fun y387 => (if ([] : List Int).length + l0.length < 140737488355328 then ((some (([] : List Int) ++ l0 : List Int)).bind fun y390 => (if y390.length + y387.length < 140737488355328 then ((some (y390 ++ y387 : List Int)).bind fun y393 => (if 0 ≤ (l0.length : Int) then (if (l0.length : Int) ≤ (y393.length : Int) then (some (y393.take ((l0.length : Int) : Int).toNat)) else (none)) else (none))) else (none))) else (none))
end Go.Proofs.Yteiiodlgdbiimaa.F
end
section
namespace Go.Proofs.Yteiiodlgdbiimaa.F
open Go.RowKit Go.Proofs.YteiiodlgdbiimaaW.PrintWords Go.Proofs.YteiiodlgdbiimaaW.PrintLast Go.Proofs.YteiiodlgdbiimaaW.PrintMore
attribute [local go_sem] max2_int min2_int max_two min_two max_three min_three max_four min_four
set_option linter.unusedVariables false
set_option linter.unusedSimpArgs false
def inquestref00_Bytes.f (l0 : List Int) (l1 : List Int) : Option (Bool) := some ((strOfNums l0).toList == (strOfNums l1).toList)
set_option maxHeartbeats 8000000 in
set_option maxRecDepth 100000 in
theorem inquestref00_Bytes.calls (A0 : Option Addr) (c0 : Nat) (l0 : List Int) (A1 : Option Addr) (c1 : Nat) (l1 : List Int) (r : Bool) (w : World) (hr0 : Kd.C (Kd.int .u8) w A0 l0.length l0) (hc0 : l0.length ≤ c0) (hr1 : Kd.C (Kd.int .u8) w A1 l1.length l1) (hc1 : l1.length ≤ c1) (h : inquestref00_Bytes.f l0 l1 = some r) :
    Calls Try.prog 67 #[.slice A0 l0.length c0, .slice A1 l1.length c1] w fun e w' => e = .returned (.bool r) ∧ Drawn0 w w' := by
  have HR0 := Aside0.mk hr0
  have HC0 := Aside0.mk hc0
  clear hr0 hc0
  have HR1 := Aside0.mk hr1
  have HC1 := Aside0.mk hc1
  clear hr1 hc1
  have H : (some ((strOfNums l0).toList == (strOfNums l1).toList)) = some r := h
  clear h
  obtain rfl := Option.some.inj H
  have hcv3 := Kd.C_string (P := Try.prog) (A := A0) (c := c0) Try.underlying28 Try.underlying5 Try.underlying9 HR0.out
  have hcv4 := Kd.C_string (P := Try.prog) (A := A1) (c := c1) Try.underlying28 Try.underlying5 Try.underlying9 HR1.out
  go_enter Try.func67, Try.ntmps67
  go_wp2
  go_ret
  exact ⟨by first | rfl | (simp; done) | (simp [*]; done), by repeat (first | exact Drawn0.refl _ | apply Drawn0.step)⟩
end Go.Proofs.Yteiiodlgdbiimaa.F
end
section
namespace Go.Proofs.Yteiiodlgdbiimaa.F
open Go.RowKit Go.Shelf Go.Proofs.YteiiodlgdbiimaaW.PrintWords Go.Proofs.YteiiodlgdbiimaaW.PrintLast Go.Proofs.YteiiodlgdbiimaaW.PrintMore
set_option linter.unusedVariables false
set_option linter.unusedSimpArgs false
attribute [local go_sem] max2_int min2_int max_two min_two max_three min_three max_four min_four
def room7 : List Int := [7, 6, 5, 4, 3, 2, 1]
set_option maxHeartbeats 8000000 in
set_option maxRecDepth 100000 in
theorem lent39 (A0 : Option Addr) (c0 : Nat) (l0 : List Int) (r : List Int) (w : World) (hr0 : Kd.C (Kd.int .u8) w A0 l0.length l0) (hc0 : l0.length ≤ c0) (h : inquestref00_Lent.f l0 = some r) :
  Calls Try.prog 39 #[.slice A0 l0.length c0] w fun e w' => ∃ (g cap : Nat), e = .returned (.slice (some ⟨g, 0, none⟩) l0.length cap) ∧ Kd.R (Kd.int .u8) 5 w' w.heap.size (fun _ => True) (.slice (some ⟨g, 0, none⟩) (l0.length + 7) cap) (l0 ++ room7) ∧ Below w.heap.size w w' := by
 have HR0 := Aside0.mk hr0
 have HC0 := Aside0.mk hc0
 clear hr0 hc0
 have HB := Aside0.mk (Below.refl w.heap.size w)
 have H : ((some (([7, 6, 5, 4, 3, 2, 1] : List Int) : List Int)).bind fun y387 => (if ([] : List Int).length + l0.length < 140737488355328 then ((some (([] : List Int) ++ l0 : List Int)).bind fun y390 => (if y390.length + y387.length < 140737488355328 then ((some (y390 ++ y387 : List Int)).bind fun y393 => (if 0 ≤ (l0.length : Int) then (if (l0.length : Int) ≤ (y393.length : Int) then (some (y393.take ((l0.length : Int) : Int).toNat)) else (none)) else (none))) else (none))) else (none))) = some r := h
 clear h
 obtain ⟨y387, hy387⟩ : ∃ y_ : List Int, y_ = (([7, 6, 5, 4, 3, 2, 1] : List Int)) := ⟨_, rfl⟩
 replace H : (if ([] : List Int).length + l0.length < 140737488355328 then ((some (([] : List Int) ++ l0 : List Int)).bind fun y390 => (if y390.length + y387.length < 140737488355328 then ((some (y390 ++ y387 : List Int)).bind fun y393 => (if 0 ≤ (l0.length : Int) then (if (l0.length : Int) ≤ (y393.length : Int) then (some (y393.take ((l0.length : Int) : Int).toNat)) else (none)) else (none))) else (none))) else (none)) = some r := by first | (rw [hy387]; with_reducible exact H) | (have H2_ := (Option.bind_some _ _).symm.trans H; rw [hy387]; with_reducible exact H2_) | (have H2_ := (Option.bind_some _ _).symm.trans H; with_reducible exact H2_) | with_reducible exact H | (rw [hy387]; exact H) | exact H
 have Ny387 := Aside0.mk hy387
 clear hy387
 by_cases c2 : ([] : List Int).length + l0.length < 140737488355328
 ·
  rw [if_pos c2] at H
  have LMc2 := Aside0.mk c2
  clear c2
  obtain ⟨y390, hy390⟩ : ∃ y_ : List Int, y_ = (([] : List Int) ++ l0) := ⟨_, rfl⟩
  replace H : (if y390.length + y387.length < 140737488355328 then ((some (y390 ++ y387 : List Int)).bind fun y393 => (if 0 ≤ (l0.length : Int) then (if (l0.length : Int) ≤ (y393.length : Int) then (some (y393.take ((l0.length : Int) : Int).toNat)) else (none)) else (none))) else (none)) = some r := by first | (rw [hy390]; with_reducible exact H) | (have H2_ := (Option.bind_some _ _).symm.trans H; rw [hy390]; with_reducible exact H2_) | (have H2_ := (Option.bind_some _ _).symm.trans H; with_reducible exact H2_) | with_reducible exact H | (rw [hy390]; exact H) | exact H
  have Ny390 := Aside0.mk hy390
  clear hy390
  by_cases c3 : y390.length + y387.length < 140737488355328
  ·
   rw [if_pos c3] at H
   have LMc3 := Aside0.mk c3
   clear c3
   obtain ⟨y393, hy393⟩ : ∃ y_ : List Int, y_ = (y390 ++ y387) := ⟨_, rfl⟩
   replace H : (if 0 ≤ (l0.length : Int) then (if (l0.length : Int) ≤ (y393.length : Int) then (some (y393.take ((l0.length : Int) : Int).toNat)) else (none)) else (none)) = some r := by first | (rw [hy393]; with_reducible exact H) | (have H2_ := (Option.bind_some _ _).symm.trans H; rw [hy393]; with_reducible exact H2_) | (have H2_ := (Option.bind_some _ _).symm.trans H; with_reducible exact H2_) | with_reducible exact H | (rw [hy393]; exact H) | exact H
   have Ny393 := Aside0.mk hy393
   clear hy393
   by_cases c4 : 0 ≤ (l0.length : Int)
   ·
    rw [if_pos c4] at H
    have c4b0 := eq_true c4
    have c4b1 : decide (0 ≤ (l0.length : Int)) = true := decide_eq_true c4
    clear c4
    by_cases c5 : (l0.length : Int) ≤ (y393.length : Int)
    ·
     rw [if_pos c5] at H
     have c5b0 := eq_true c5
     have c5b1 : decide ((l0.length : Int) ≤ (y393.length : Int)) = true := decide_eq_true c5
     clear c5
     obtain ⟨y396, hy396⟩ : ∃ y_ : List Int, y_ = (y393.take ((l0.length : Int) : Int).toNat) := ⟨_, rfl⟩
     replace H : (some y396) = some r := by first | (rw [hy396]; with_reducible exact H) | (have H2_ := (Option.bind_some _ _).symm.trans H; rw [hy396]; with_reducible exact H2_) | (have H2_ := (Option.bind_some _ _).symm.trans H; with_reducible exact H2_) | with_reducible exact H | (rw [hy396]; exact H) | exact H
     have Ny396 := Aside0.mk hy396
     clear hy396
     obtain rfl := Option.some.inj H
     go_enter Try.func39, Try.ntmps39
     go_wp2_with (first | ((with_reducible refine gate_dst (N := 5) rfl ?_); refine Kd.R_lit (Kd.int .u8) _ 5 ?hg (N := 5) ?hd (xs := ([7, 6, 5, 4, 3, 2, 1] : List Int)) (inner := [.int .u8 7, .int .u8 6, .int .u8 5, .int .u8 4, .int .u8 3, .int .u8 2, .int .u8 1]) (ok := fun _ => True) (okp := fun _ => True) ?hr ?hp (fun _ hk => hk) trivial (Below.refl _ _) (Nat.le_refl _) (by simp) ?_; (case hd => rfl); (case hg => rfl); (case hr => first | (go_simp; done) | (go_simp; rfl)); (case hp => exact (Reps.one (show Kd.M (Kd.int .u8) _ _ _ 7 [.int .u8 7] from rfl) (Reps.one (show Kd.M (Kd.int .u8) _ _ _ 6 [.int .u8 6] from rfl) (Reps.one (show Kd.M (Kd.int .u8) _ _ _ 5 [.int .u8 5] from rfl) (Reps.one (show Kd.M (Kd.int .u8) _ _ _ 4 [.int .u8 4] from rfl) (Reps.one (show Kd.M (Kd.int .u8) _ _ _ 3 [.int .u8 3] from rfl) (Reps.one (show Kd.M (Kd.int .u8) _ _ _ 2 [.int .u8 2] from rfl) (Reps.one (show Kd.M (Kd.int .u8) _ _ _ 1 [.int .u8 1] from rfl) (Reps.none _ _))))))))); intro v388 w6 ho7 hb hg_ hnew_; clear hg_ hnew_; (first | rw [← Ny387.out] at ho7 | (simp only [Int.reduceToNat] at ho7; rw [← Ny387.out] at ho7)); have n0_ := Aside0.mk (Kd.R_lower ho7 (below_size (by repeat (first | (with_reducible first | exact HB.out | apply below_alloc | apply pw_below_drewN | apply below_drew1) | exact HB.out)))); have n1_ := Aside0.mk (below_step (by repeat (first | (with_reducible first | exact HB.out | apply below_alloc | apply pw_below_drewN | apply below_drew1) | exact HB.out)) hb); clear HB; have HO389 := n0_; have HB := n1_; clear n0_ n1_; clear hb ho7) | ((with_reducible refine gate_builtin (b := .append) (xs := #[.tmp 6, .tmp 7]) rfl ?_); at_builtin; refine Kd.R_append_rows (Kd.int .u8) (w0 := w) w.heap.size rfl (.tmp 6) (.tmp 7) 28 5 (.int .u8 0) 1 rfl Try.underlying28 info5 rfl (by decide) (by omega) (.slice none 0 0) ([] : List Int) l0 _ _ _ (fun k_ => some k_ ≠ (v388 : Value).ownBlock) (fun _ => False) rfl rfl ?aO ?aR (fun _ _ h => h) (fun _ h => h.elim) ?aF ?aB ?aS ?aL ?_; (case aR => repeat (first | exact (Kd.C_below HR0.out HB.out) | (with_reducible refine Kd.C_alloc ?_ _) | (with_reducible refine Kd.C_drewN ?_ _) | (with_reducible refine Kd.C_drew ?_))); (case aB => exact (by repeat (first | (with_reducible first | exact HB.out | apply below_alloc | apply pw_below_drewN | apply below_drew1) | exact HB.out))); (case aF => exact (fun k_ hk => Kd.fresh' (Kd.R_lt (by (with_reducible repeat (first | apply Kd.R_alloc | apply Kd.R_drewN | apply Kd.R_drew)); exact HO389.out)) k_ hk)); (case aO => exact ((Kd.R_nil _ _ _ _ (fun k_ => some k_ ≠ (v388 : Value).ownBlock)))); (case aS => exact (below_size (by repeat (first | (with_reducible first | exact HB.out | apply below_alloc | apply pw_below_drewN | apply below_drew1) | exact HB.out)))); (case aL => have := LMc2.out; omega); intro v391 w8 ho hb hg hat; rw [← Ny390.out] at ho; have n0_ := Aside0.mk (Kd.R_after (Kd.R_apart_nil (by (with_reducible repeat (first | apply Kd.R_alloc | apply Kd.R_drewN | apply Kd.R_drew)); exact HO389.out)) hg hat); have n1_ := Aside0.mk (hb); have n2_ := Aside0.mk (ho); clear HO389; clear HB; have HO389 := n0_; have HB := n1_; have HO392 := n2_; clear n0_ n1_ n2_; clear ho hb hg hat; obtain ⟨Ao10, co10, eo10⟩ := Kd.R_slice HO389.out; subst eo10) | ((with_reducible refine gate_builtin (b := .append) (xs := #[.tmp 9, .tmp 10]) rfl ?_); at_builtin; refine Kd.R_append_rows (Kd.int .u8) (w0 := w) w.heap.size rfl (.tmp 9) (.tmp 10) 28 5 (.int .u8 0) 1 rfl Try.underlying28 info5 rfl (by decide) (by omega) v391 y390 y387 _ _ _ (fun k_ => some k_ ≠ (.slice Ao10 y387.length co10 : Value).ownBlock) (fun _ => False) rfl rfl ?aO ?aR (fun _ _ h => h) (fun _ h => h.elim) ?aF ?aB ?aS ?aL ?_; (case aR => repeat (first | exact (Kd.R_reads' HO389.out).2.2 | (with_reducible refine Kd.C_alloc ?_ _) | (with_reducible refine Kd.C_drewN ?_ _) | (with_reducible refine Kd.C_drew ?_))); (case aB => exact (by repeat (first | (with_reducible first | exact HB.out | apply below_alloc | apply pw_below_drewN | apply below_drew1) | exact HB.out))); (case aF => exact (fun k_ hk => Kd.fresh' (Kd.R_lt (by (with_reducible repeat (first | apply Kd.R_alloc | apply Kd.R_drewN | apply Kd.R_drew)); exact HO389.out)) k_ hk)); (case aO => exact (by (with_reducible repeat (first | apply Kd.R_alloc | apply Kd.R_drewN | apply Kd.R_drew)); exact HO392.out)); (case aS => exact (below_size (by repeat (first | (with_reducible first | exact HB.out | apply below_alloc | apply pw_below_drewN | apply below_drew1) | exact HB.out)))); (case aL => have := LMc3.out; omega); intro v394 w9 ho hb hg hat; rw [← Ny393.out] at ho; have n0_ := Aside0.mk (Kd.R_after (ok := (fun _ => True)) (by (with_reducible repeat (first | apply Kd.R_alloc | apply Kd.R_drewN | apply Kd.R_drew)); exact HO389.out) hg hat); have n1_ := Aside0.mk (hb); have n2_ := Aside0.mk (ho); clear HO389; clear HB; clear HO392; have HO389 := n0_; have HB := n1_; have HO395 := n2_; clear n0_ n1_ n2_; clear ho hb hg hat; obtain ⟨Ao11, co11, eo11⟩ := Kd.R_slice HO395.out; subst eo11; have q12 : ((l0.length : Int) : Int) ≤ ((y393.length : Int) : Int) := of_decide_eq_true (by first | (with_reducible assumption) | assumption); obtain ⟨i012, hi012, _, hsz12, _⟩ := info_parts info5; have hcut12 := cut_to (P := Try.prog) 28 5 .i64 Try.underlying28 hi012 Ao11 y393.length co11 (l0.length : Int) (of_decide_eq_true (by first | (with_reducible assumption) | assumption)) q12 (Kd.R_reads' HO395.out).2.1; have hr12 := Kd.R_take (m := ((l0.length : Int) : Int).toNat) HO395.out (by omega); have hy12 : y396.length = ((l0.length : Int) : Int).toNat := (by rw [Ny396.out, List.length_take]; omega); rw [← Ny396.out] at hr12; rw [← hy12] at hr12 hcut12; have HOK := HO395; clear hy12 hi012 hsz12 HO395; have HO398 := Aside0.mk hr12; clear hr12; replace q12 := eq_true q12))
     go_ret
     have hy : y393 = l0 ++ room7 := by rw [Ny393.out, Ny390.out, Ny387.out]; rfl
     have hyl : y393.length = l0.length + 7 := by rw [hy, List.length_append]; rfl
     have hq : y396.length = l0.length := by rw [Ny396.out, List.length_take, hyl, Int.toNat_natCast]; omega
     have hok := HOK.out
     rw [hyl] at hok
     obtain ⟨g_, cap_, e_, _⟩ := Kd.R_form hok (by omega)
     rw [hyl] at e_
     cases e_
     refine ⟨g_, co11, by rw [hq]; rfl, ?_, HB.out⟩
     rw [← hy]
     exact Kd.R_mono hok (fun _ _ => trivial)
    ·
     rw [if_neg c5] at H
     exact absurd H (by simp)
   ·
    rw [if_neg c4] at H
    exact absurd H (by simp)
  ·
   rw [if_neg c3] at H
   exact absurd H (by simp)
 ·
  rw [if_neg c2] at H
  exact absurd H (by simp)
theorem cut_cap (t e : TypeId) (kh : IntKind) {i : TypeInfo} (ht : Try.prog.underlying t = some (.slice e)) (hi : Try.prog.info? e = some i) (A : Option Addr) (n c : Nat) (j : Int) (h0 : 0 ≤ j) (hm : j ≤ c) :
    ∀ W : World, (Instr.slice t (.slice A n c) none (some (.int kh j)) none).run Try.prog W = .ok (.slice A j.toNat c) W := by
  intro W
  have hel : Try.prog.elem t = e := by simp [Program.elem, ht]
  have hu : Try.prog.underlying t = some (.slice (Try.prog.elem t)) := by rw [hel]; exact ht
  have ha : (A.map fun x => x.add 0) = A := by cases A <;> simp [Addr.add]
  rw [run_slice_h W t A n c hu kh j h0 (by omega), hel]
  simp [sizeOf, typeInfo, hi, sliced, Result.andThen, ha]
theorem lent_is {l : List Int} (h : l.length ≤ 100000) : inquestref00_Lent.f l = some ((l ++ room7).take l.length) := by
  unfold inquestref00_Lent.f
  rw [Option.bind_some, if_pos (by simp; omega), Option.bind_some, if_pos (by simp; omega), Option.bind_some, if_pos (by omega), if_pos (by simp; omega)]
  rfl
theorem bytes_self (l : List Int) : inquestref00_Bytes.f l l = some true := by unfold inquestref00_Bytes.f; simp
theorem room_at {l : List Int} {i : Nat} (h1 : 1 ≤ i) (h7 : i ≤ 7) : rd (l ++ room7) ((l.length : Int) + 7 - (i : Int)) = (i : Int) := by
  have e : ((l.length : Int) + 7 - (i : Int)).toNat = l.length + (7 - i) := by omega
  unfold rd
  rw [e, List.getD_eq_getElem?_getD, List.getElem?_append_right (by omega), Nat.add_sub_cancel_left]
  match i, h1, h7 with
  | 1, _, _ => rfl
  | 2, _, _ => rfl
  | 3, _, _ => rfl
  | 4, _, _ => rfl
  | 5, _, _ => rfl
  | 6, _, _ => rfl
  | 7, _, _ => rfl
set_option maxHeartbeats 8000000 in
set_option maxRecDepth 100000 in
theorem back47 (g cap : Nat) (A : Option Addr) (c : Nat) (l : List Int) (base : Nat) (w : World) (hR : Kd.R (Kd.int .u8) 5 w base (fun _ => True) (.slice (some ⟨g, 0, none⟩) (l.length + 7) cap) (l ++ room7)) (hC : Kd.C (Kd.int .u8) w A l.length l) (hc : l.length ≤ c) (hn : l.length ≤ 100000) :
    Calls Try.prog 47 #[.slice (some ⟨g, 0, none⟩) l.length cap, .slice A l.length c] w fun e w' => e = .returned (.bool true) ∧ Below w.heap.size w w' := by
  obtain ⟨hq1, hcap, hCR⟩ := Kd.R_reads' hR
  have hC0 : Kd.C (Kd.int .u8) w (some ⟨g, 0, none⟩) l.length l := by
    have h1 := Kd.R_take (m := l.length) hR (by rw [List.length_append]; omega)
    rw [List.take_left] at h1
    exact (Kd.R_reads' h1).2.2
  have hcm : cap ≤ maxLen := by
    obtain ⟨_, inner, ho, _⟩ := hR
    rcases ho.2 with ⟨e, _⟩ | ⟨g', cap', cur, e, _, _, _, hm, _⟩
    · cases e
    · simp only [Value.slice.injEq] at e
      rw [e.2.2]
      exact hm
  simp only [maxLen] at hcm
  obtain ⟨i05, hi05, _, _, _⟩ := info_parts info5
  have hcut := cut_cap 28 5 .i64 Try.underlying28 hi05 (some ⟨g, 0, none⟩) l.length cap ((l.length : Int) + 7) (by omega) (by omega)
  have et : ((l.length : Int) + 7).toNat = l.length + 7 := by omega
  rw [et] at hcut
  have HBY := Aside0.mk (fun W (hb : Below w.heap.size w W) => inquestref00_Bytes.calls (some ⟨g, 0, none⟩) cap l A c l true W (Kd.C_below hC0 hb) (by omega) (Kd.C_below hC hb) hc (bytes_self l))
  have HCR := Aside0.mk hCR
  have HCAP := Aside0.mk hcap
  have HN := Aside0.mk hn
  clear hR hC hC0 hc hCR hi05 hq1 et
  have e1 : IntKind.i64.wrap ((l.length : Int) + 7) = (l.length : Int) + 7 := IntWalk.i64_in _ (by omega)
  have e1' : wrap64 ((l.length : Int) + 7) = (l.length : Int) + 7 := wrap64_id (by omega) (by omega)
  have d1 : decide ((cap : Int) < (l.length : Int) + 7) = false := decide_eq_false (by omega)
  have d2 : decide (cap < l.length + 7) = false := decide_eq_false (by omega)
  clear hn hcap hcm
  go_enter Try.func47, Try.ntmps47
  go_wp2_with (first | (go_at_call 67; refine (HBY.out _ (Below.refl _ _)).mono ?_; rintro e w1 ⟨rfl, hd_⟩; have HB1 := Aside0.mk hd_.below; clear hd_))
  clear d1 d2
  go_loopg [6] 8 (fun gg v6 wr => ∃ i : Nat, 1 ≤ i ∧ i ≤ 8 ∧ 8 - i ≤ gg ∧ v6 = .int .i64 i ∧ Aside0 (Below w.heap.size w wr))
  case atStart => exact ⟨1, by omega, by omega, by omega, rfl, HB1⟩
  case round =>
    clear HB1
    obtain ⟨i, hi1, hi8, hg, rfl, HB⟩ := hrel
    have hn := HN.out
    by_cases hlt : i ≤ 7
    · have hltz : (i : Int) ≤ 7 := by omega
      obtain ⟨ad, e, xq⟩ := Kd.at_int (Kd.C_below HCR.out HB.out) ((l.length : Int) + 7 - (i : Int)) (by omega) (by rw [List.length_append]; show _ < ((l.length + 7 : Nat) : Int); omega)
      cases e
      rw [room_at hi1 hlt, show ((l.length : Int) + 7 - (i : Int)).toNat = l.length + 7 - i from by omega] at xq
      replace xq : wr.cell? ⟨g, l.length + 7 - i, none⟩ = some (.int .u8 (i : Int)) := by
        have e : (⟨g, 0, none⟩ : Addr).add (l.length + 7 - i) = ⟨g, l.length + 7 - i, none⟩ := by
          unfold Addr.add
          split
          · rename_i h0
            rw [h0]
          · simp
        rw [e] at xq
        exact xq
      have e2 : IntKind.i64.wrap ((l.length : Int) + 7 - (i : Int)) = (l.length : Int) + 7 - (i : Int) := IntWalk.i64_in _ (by omega)
      have e3 : wrap64 ((l.length : Int) + 7 - (i : Int)) = (l.length : Int) + 7 - (i : Int) := wrap64_id (by omega) (by omega)
      have b0 : 0 ≤ (l.length : Int) + 7 - (i : Int) := by omega
      have b1 : (l.length : Int) + 7 - (i : Int) < (l.length : Int) + 7 := by omega
      have e4 : IntKind.i64.wrap (i : Int) = (i : Int) := IntWalk.i64_in _ (by omega)
      go_wp2_with fail
      clear e1 e1' e2 e3 e4 b0 b1 hltz
      go_roundg (8 - (i + 1))
      case measure => omega
      case rel => exact ⟨i + 1, by omega, by omega, by omega, by go_num, HB⟩
    · have hltz : ¬ (i : Int) ≤ 7 := by omega
      go_wp2_with fail
      go_ret
      exact ⟨rfl, HB.out⟩
end Go.Proofs.Yteiiodlgdbiimaa.F
end
