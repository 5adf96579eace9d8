/- What the proof of the law StrashRuns needs, part 18: the walks of the functions that it reaches, and the plain words on what these compute. -/
import Derived.Test.YteiiodlgdbiimaaRq
section
namespace Go.Proofs.Yteiiodlgdbiimaa.F
open Go.RowKit Go.Shelf Go.Proofs.YteiiodlgdbiimaaW.PrintWords Go.Proofs.YteiiodlgdbiimaaW.PrintLast Go.Proofs.YteiiodlgdbiimaaW.PrintMore
set_option linter.unusedVariables false
set_option linter.unusedSimpArgs false
theorem lits_ev {l : List Int} {V : Int} (hu : InU32 l) (hl : l.length ≤ 1024) (hb : ∀ x ∈ l, wrap64 (x / 2) ≤ V) : Ev (fun k => inquestref03_lits.f k l V) true := by
  have key : ∀ (d i : Nat), l.length - i = d → i ≤ l.length → Ev (fun k => inquestref03_lits.l0 k l V (i : Int)) true := by
    intro d
    induction d with
    | zero =>
      intro i hd hi
      refine Ev.step (f := fun _ => some true) (fun k => ?_) (Ev.now true)
      simp only [inquestref03_lits.l0]
      rw [if_neg (by omega), decide_eq_true (by omega)]
    | succ d ih =>
      intro i hd hi
      have hlt : i < l.length := by omega
      have hx := hu _ (List.getElem_mem hlt)
      have hy := hb _ (List.getElem_mem hlt)
      rw [wrap64_id (by omega) (by omega)] at hy
      refine Ev.step (fun k => ?_) (ih (i + 1) (by omega) (by omega))
      simp only [inquestref03_lits.l0]
      rw [if_pos (by omega), if_pos (by omega), rd_at hlt, half_u32 hx.1 hx.2, if_neg (by omega), wrap_nat (by omega)]
  exact key l.length 0 (by omega) (by omega)
section
variable {a0 : Int} {l1 : List S41} {l2 : List S68} {l3 l4 l5 : List Int}
theorem mayr_ev (hv : Valid a0 l1 l2 l3 l4 l5) (h1 : In41 l1) (h2 : In68 l2) (h3 : InU32 l3) (h4 : InU32 l4) (h5 : InU32 l5) : Ev (fun k => inquestref03_May.f k a0 l1 l2 l3 l4 l5) true := by
  have hp := hv.pos
  have hle := hv.le
  obtain ⟨V, hV⟩ : ∃ V, a0 + (l1.length : Int) + (l2.length : Int) = V := ⟨_, rfl⟩
  have hend : Ev (fun k => (inquestref03_lits.f k l3 V).bind fun t166 => (if t166 = true then ((inquestref03_lits.f k l4 V).bind fun t167 => (if t167 = true then ((inquestref03_lits.f k l5 V).bind fun t168 => (some t168)) else (some false))) else (some false))) true := by
    refine Ev.bind (lits_ev h3 hv.outs.1 (by rw [← hV]; exact hv.outs.2)) (Ev.ifp rfl ?_)
    refine Ev.bind (lits_ev h4 hv.bads.1 (by rw [← hV]; exact hv.bads.2)) (Ev.ifp rfl ?_)
    exact Ev.bind (lits_ev h5 hv.cons.1 (by rw [← hV]; exact hv.cons.2)) (Ev.now true)
  have key2 : ∀ (d i : Nat), l2.length - i = d → i ≤ l2.length → Ev (fun k => inquestref03_May.l1 k V (i : Int) a0 l1 l2 l3 l4 l5) true := by
    intro d
    induction d with
    | zero =>
      intro i hd hi
      refine Ev.step (fun k => ?_) hend
      simp only [inquestref03_May.l1]
      rw [if_neg (by omega)]
    | succ d ih =>
      intro i hd hi
      have hlt : i < l2.length := by omega
      have hx := h2 _ (List.getElem_mem hlt)
      have hy := hv.gate i hlt
      refine Ev.step (fun k => ?_) (ih (i + 1) (by omega) (by omega))
      simp only [inquestref03_May.l1]
      rw [if_pos (by omega), if_pos (by omega), rd68_at hlt, half_u32 hx.1.1 hx.1.2, wrap64_id (x := a0 + (l1.length : Int)) (by omega) (by omega), wrap64_id (x := a0 + (l1.length : Int) + 1) (by omega) (by omega), wrap64_id (x := a0 + (l1.length : Int) + 1 + (i : Int)) (by omega) (by omega), if_neg (by omega), if_neg (by omega), wrap_nat (by omega)]
  have key1 : ∀ (d i : Nat), l1.length - i = d → i ≤ l1.length → Ev (fun k => inquestref03_May.l0 k V (i : Int) a0 l1 l2 l3 l4 l5) true := by
    intro d
    induction d with
    | zero =>
      intro i hd hi
      refine Ev.step (fun k => ?_) (key2 l2.length 0 (by omega) (by omega))
      simp only [inquestref03_May.l0]
      rw [if_neg (by omega)]
      rfl
    | succ d ih =>
      intro i hd hi
      have hlt : i < l1.length := by omega
      have hx := h1 _ (List.getElem_mem hlt)
      have hy := hv.next i hlt
      have hz := hv.reset i hlt
      refine Ev.step (fun k => ?_) (ih (i + 1) (by omega) (by omega))
      simp only [inquestref03_May.l0]
      rw [if_pos (by omega), if_pos (by omega), rd41_at hlt, half_u32 hx.1.1 hx.1.2, if_neg (by omega), if_neg (by omega), wrap_nat (by omega)]
  have hj : Ev (fun k => inquestref03_May.j0 k false a0 l1 l2 l3 l4 l5) true := by
    refine Ev.step (fun k => ?_) (key1 l1.length 0 (by omega) (by omega))
    simp only [inquestref03_May.j0]
    rw [if_neg (by decide), wrap64_id (x := a0 + (l1.length : Int)) (by omega) (by omega), wrap64_id (x := a0 + (l1.length : Int) + (l2.length : Int)) (by omega) (by omega), hV, if_neg (by omega)]
    rfl
  refine Ev.congr (fun k => ?_) hj
  unfold inquestref03_May.f
  rw [if_neg (by omega), if_neg (by omega), if_neg (by omega), decide_eq_false (by omega)]
end
end Go.Proofs.Yteiiodlgdbiimaa.F
end
section
namespace Go.Proofs.Yteiiodlgdbiimaa.F
open Go.RowKit Go.Shelf Go.Proofs.YteiiodlgdbiimaaW.PrintWords Go.Proofs.YteiiodlgdbiimaaW.PrintLast Go.Proofs.YteiiodlgdbiimaaW.PrintMore
set_option linter.unusedVariables false
set_option linter.unusedSimpArgs false
theorem wrap_nat' {i : Nat} (h : i + 1 < 9223372036854775808) : wrap64 ((i : Int) + 1) = ((i + 1 : Nat) : Int) := by
  have e : ((i + 1 : Nat) : Int) = (i : Int) + 1 := by push_cast; rfl
  rw [e]
  exact wrap64_id (by omega) (by omega)
theorem drop_at {α : Type} {l : List α} {i : Nat} (h : i < l.length) : l.drop i = l[i] :: l.drop (i + 1) := List.drop_eq_getElem_cons h
theorem lits_all {l : List Int} {V : Int} (hu : InU32 l) (hl : l.length < 9223372036854775808) : Ev (fun k => inquestref03_lits.f k l V) (l.all (fun x => decide (x / 2 ≤ V)) && decide ((l.length : Int) ≤ 1024)) := by
  have key : ∀ (d i : Nat), l.length - i = d → i ≤ l.length → Ev (fun k => inquestref03_lits.l0 k l V (i : Int)) ((l.drop i).all (fun x => decide (x / 2 ≤ V)) && decide ((l.length : Int) ≤ 1024)) := by
    intro d
    induction d with
    | zero =>
      intro i hd hi
      obtain rfl : i = l.length := by omega
      refine Ev.step (f := fun _ => some (decide ((l.length : Int) ≤ 1024))) (fun k => ?_) (by rw [List.drop_length]; exact Ev.now _)
      simp only [inquestref03_lits.l0]
      rw [if_neg (by omega)]
    | succ d ih =>
      intro i hd hi
      have hlt : i < l.length := by omega
      have hx := hu _ (List.getElem_mem hlt)
      rw [drop_at hlt, List.all_cons]
      by_cases hc : l[i] / 2 ≤ V
      · rw [decide_eq_true hc, Bool.true_and]
        refine Ev.step (fun k => ?_) (ih (i + 1) (by omega) (by omega))
        simp only [inquestref03_lits.l0]
        rw [if_pos (by omega), if_pos (by omega), rd_at hlt, half_u32 hx.1 hx.2, if_neg (by omega), wrap_nat' (by omega)]
      · rw [decide_eq_false hc, Bool.false_and, Bool.false_and]
        refine Ev.step (f := fun _ => some false) (fun k => ?_) (Ev.now _)
        simp only [inquestref03_lits.l0]
        rw [if_pos (by omega), if_pos (by omega), rd_at hlt, half_u32 hx.1 hx.2, if_pos (by omega)]
  exact key l.length 0 (by omega) (by omega)
def gok : Int → List S68 → Bool
  | _, [] => true
  | o, g :: r => decide (g.f0 / 2 < o) && decide (g.f1 ≤ g.f0) && gok (o + 1) r
theorem gok_is : ∀ (l : List S68) (o : Int), 0 ≤ o → o + (l.length : Int) < 4294967296 → gatesOk o l = gok (o + 1) l
  | [], _, _, _ => rfl
  | g :: r, o, h0, h1 => by
    rw [List.length_cons] at h1
    unfold gatesOk gok
    rw [u32_id (by omega) (by omega), gok_is r (o + 1) (by omega) (by omega)]
    have e1 : (!decide (o + 1 ≤ g.f0 / 2)) = decide (g.f0 / 2 < o + 1) := by
      by_cases h : o + 1 ≤ g.f0 / 2
      · rw [decide_eq_true h, decide_eq_false (by omega)]; rfl
      · rw [decide_eq_false h, decide_eq_true (by omega)]; rfl
    have e2 : (!decide (g.f0 < g.f1)) = decide (g.f1 ≤ g.f0) := by
      by_cases h : g.f0 < g.f1
      · rw [decide_eq_true h, decide_eq_false (by omega)]; rfl
      · rw [decide_eq_false h, decide_eq_true (by omega)]; rfl
    rw [e1, e2]
section
variable {a0 : Int} {l1 : List S41} {l2 : List S68} {l3 l4 l5 : List Int}
theorem list_is {V : Int} {l : List Int} (hu : InU32 l) : listOk V l = (l.all (fun x => decide (x / 2 ≤ V)) && decide ((l.length : Int) ≤ 1024)) := by
  unfold listOk
  have e1 : (!decide (1024 < (l.length : Int))) = decide ((l.length : Int) ≤ 1024) := by
    by_cases h : 1024 < (l.length : Int)
    · rw [decide_eq_true h, decide_eq_false (by omega)]; rfl
    · rw [decide_eq_false h, decide_eq_true (by omega)]; rfl
  have e2 : ∀ l : List Int, InU32 l → (!l.any (beyW V)) = l.all (fun x => decide (x / 2 ≤ V)) := by
    intro l hu
    induction l with
    | nil => rfl
    | cons x r ih =>
      have hx := hu x (List.mem_cons_self ..)
      rw [List.any_cons, List.all_cons, Bool.not_or, ih (fun y hy => hu y (List.mem_cons_of_mem _ hy))]
      congr 1
      unfold beyW
      rw [wrap64_id (by omega) (by omega)]
      by_cases h : V < x / 2
      · rw [decide_eq_true h, decide_eq_false (by omega)]; rfl
      · rw [decide_eq_false h, decide_eq_true (by omega)]; rfl
  rw [e1, e2 l hu, Bool.and_comm]
theorem mayr_all (ha : -9223372036854775808 ≤ a0 ∧ a0 < 9223372036854775808) (n1 : l1.length ≤ 16384) (n2 : l2.length ≤ 16384) (n3 : l3.length < 9223372036854775808) (n4 : l4.length < 9223372036854775808) (n5 : l5.length < 9223372036854775808)
  (h1 : In41 l1) (h2 : In68 l2) (h3 : InU32 l3) (h4 : InU32 l4) (h5 : InU32 l5) : Ev (fun k => inquestref03_May.f k a0 l1 l2 l3 l4 l5) (mayB a0 l1 l2 l3 l4 l5) := by
 have hjt : Ev (fun k => inquestref03_May.j0 k true a0 l1 l2 l3 l4 l5) false := by
  refine Ev.step (f := fun _ => some false) (fun k => ?_) (Ev.now false)
  simp only [inquestref03_May.j0]
  rw [if_pos trivial]
 by_cases g1 : a0 < 0
 ·
  have e : mayB a0 l1 l2 l3 l4 l5 = false := by unfold mayB; rw [decide_eq_true g1]; simp
  rw [e]
  refine Ev.congr (fun k => ?_) hjt
  unfold inquestref03_May.f
  rw [if_pos g1]
 by_cases g2 : 16384 < a0
 ·
  have e : mayB a0 l1 l2 l3 l4 l5 = false := by unfold mayB; rw [decide_eq_true g2]; simp
  rw [e]
  refine Ev.congr (fun k => ?_) hjt
  unfold inquestref03_May.f
  rw [if_neg g1, if_pos g2]
 have hV := varsW_id (a0 := a0) (n := l1.length) (m := l2.length) (by omega) (by omega) (by omega) (by omega)
 obtain ⟨V, eV⟩ : ∃ V, a0 + (l1.length : Int) + (l2.length : Int) = V := ⟨_, rfl⟩
 rw [eV] at hV
 have hw : wrap64 ((wrap64 (a0 + (l1.length : Int))) + (l2.length : Int)) = V := hV
 have hf : ∀ b, Ev (fun k => inquestref03_May.j0 k false a0 l1 l2 l3 l4 l5) b → Ev (fun k => inquestref03_May.f k a0 l1 l2 l3 l4 l5) b := fun b h => by
  refine Ev.congr (fun k => ?_) h
  unfold inquestref03_May.f
  rw [if_neg g1, if_neg g2, if_neg (by omega), decide_eq_false (by omega)]
 by_cases g3 : 16384 < V
 ·
  have e : mayB a0 l1 l2 l3 l4 l5 = false := by unfold mayB; rw [hV, decide_eq_true g3]; simp
  rw [e]
  refine hf _ (Ev.step (f := fun _ => some false) (fun k => ?_) (Ev.now false))
  simp only [inquestref03_May.j0]
  rw [if_neg (by decide), hw, if_pos g3]
 have hend : Ev (fun k => (inquestref03_lits.f k l3 V).bind fun t166 => (if t166 = true then ((inquestref03_lits.f k l4 V).bind fun t167 => (if t167 = true then ((inquestref03_lits.f k l5 V).bind fun t168 => (some t168)) else (some false))) else (some false))) (listOk V l3 && listOk V l4 && listOk V l5) := by
  rw [list_is h3, list_is h4, list_is h5]
  refine Ev.bind (lits_all h3 n3) ?_
  by_cases c3 : (l3.all (fun x => decide (x / 2 ≤ V)) && decide ((l3.length : Int) ≤ 1024)) = true
  ·
   rw [c3]
   refine Ev.ifp rfl (Ev.bind (lits_all h4 n4) ?_)
   by_cases c4 : (l4.all (fun x => decide (x / 2 ≤ V)) && decide ((l4.length : Int) ≤ 1024)) = true
   ·
    rw [c4]
    exact Ev.ifp rfl (Ev.bind (lits_all h5 n5) (Ev.now _))
   ·
    rw [Bool.not_eq_true] at c4
    rw [c4]
    exact Ev.ifn (by decide) (Ev.now _)
  ·
   rw [Bool.not_eq_true] at c3
   rw [c3]
   exact Ev.ifn (by decide) (Ev.now _)
 generalize hE : (listOk V l3 && listOk V l4 && listOk V l5) = E at hend
 have key2 : ∀ (d i : Nat), l2.length - i = d → i ≤ l2.length → Ev (fun k => inquestref03_May.l1 k V (i : Int) a0 l1 l2 l3 l4 l5) (gok (a0 + (l1.length : Int) + 1 + (i : Int)) (l2.drop i) && E) := by
  intro d
  induction d with
  | zero =>
   intro i hd hi
   obtain rfl : i = l2.length := by omega
   rw [List.drop_length]
   refine Ev.step (fun k => ?_) (show Ev _ (true && E) from by rw [Bool.true_and]; exact hend)
   simp only [inquestref03_May.l1]
   rw [if_neg (by omega)]
  | succ d ih =>
   intro i hd hi
   have hlt : i < l2.length := by omega
   have hx := h2 _ (List.getElem_mem hlt)
   have e1 : a0 + (l1.length : Int) + 1 + (i : Int) + 1 = a0 + (l1.length : Int) + 1 + ((i + 1 : Nat) : Int) := by omega
   rw [drop_at hlt]
   unfold gok
   by_cases c1 : l2[i].f0 / 2 < a0 + (l1.length : Int) + 1 + (i : Int)
   ·
    by_cases c2 : l2[i].f1 ≤ l2[i].f0
    ·
     rw [decide_eq_true c1, decide_eq_true c2, Bool.true_and, Bool.true_and, e1]
     refine Ev.step (fun k => ?_) (ih (i + 1) (by omega) (by omega))
     simp only [inquestref03_May.l1]
     rw [if_pos (by omega), if_pos (by omega), rd68_at hlt, half_u32 hx.1.1 hx.1.2, wrap64_id (x := a0 + (l1.length : Int)) (by omega) (by omega), wrap64_id (x := a0 + (l1.length : Int) + 1) (by omega) (by omega), wrap64_id (x := a0 + (l1.length : Int) + 1 + (i : Int)) (by omega) (by omega), if_neg (by omega), if_neg (by omega), wrap_nat (by omega)]
    ·
     rw [decide_eq_true c1, decide_eq_false c2, Bool.true_and, Bool.false_and, Bool.false_and]
     refine Ev.step (f := fun _ => some false) (fun k => ?_) (Ev.now false)
     simp only [inquestref03_May.l1]
     rw [if_pos (by omega), if_pos (by omega), rd68_at hlt, half_u32 hx.1.1 hx.1.2, wrap64_id (x := a0 + (l1.length : Int)) (by omega) (by omega), wrap64_id (x := a0 + (l1.length : Int) + 1) (by omega) (by omega), wrap64_id (x := a0 + (l1.length : Int) + 1 + (i : Int)) (by omega) (by omega), if_neg (by omega), if_pos (by omega)]
   ·
    rw [decide_eq_false c1, Bool.false_and, Bool.false_and, Bool.false_and]
    refine Ev.step (f := fun _ => some false) (fun k => ?_) (Ev.now false)
    simp only [inquestref03_May.l1]
    rw [if_pos (by omega), if_pos (by omega), rd68_at hlt, half_u32 hx.1.1 hx.1.2, wrap64_id (x := a0 + (l1.length : Int)) (by omega) (by omega), wrap64_id (x := a0 + (l1.length : Int) + 1) (by omega) (by omega), wrap64_id (x := a0 + (l1.length : Int) + 1 + (i : Int)) (by omega) (by omega), if_pos (by omega)]
 have key1 : ∀ (d i : Nat), l1.length - i = d → i ≤ l1.length → Ev (fun k => inquestref03_May.l0 k V (i : Int) a0 l1 l2 l3 l4 l5) ((l1.drop i).all (latchOk V) && (gok (a0 + (l1.length : Int) + 1) l2 && E)) := by
  intro d
  induction d with
  | zero =>
   intro i hd hi
   obtain rfl : i = l1.length := by omega
   rw [List.drop_length]
   have := key2 l2.length 0 (by omega) (by omega)
   rw [List.drop_zero] at this
   refine Ev.step (fun k => ?_) (show Ev _ (true && (gok (a0 + (l1.length : Int) + 1) l2 && E)) from by rw [Bool.true_and]; simpa using this)
   simp only [inquestref03_May.l0]
   rw [if_neg (by omega)]
  | succ d ih =>
   intro i hd hi
   have hlt : i < l1.length := by omega
   have hx := h1 _ (List.getElem_mem hlt)
   rw [drop_at hlt, List.all_cons]
   have el : latchOk V l1[i] = (!decide (2 < l1[i].f1) && !decide (V < l1[i].f0 / 2)) := by
    unfold latchOk beyW
    rw [wrap64_id (by omega) (by omega)]
   rw [el]
   by_cases c1 : V < l1[i].f0 / 2
   ·
    rw [decide_eq_true c1, Bool.not_true, Bool.and_false, Bool.false_and, Bool.false_and]
    refine Ev.step (f := fun _ => some false) (fun k => ?_) (Ev.now false)
    simp only [inquestref03_May.l0]
    rw [if_pos (by omega), if_pos (by omega), rd41_at hlt, half_u32 hx.1.1 hx.1.2, if_pos c1]
   ·
    by_cases c2 : 2 < l1[i].f1
    ·
     rw [decide_eq_true c2, Bool.not_true, Bool.false_and, Bool.false_and, Bool.false_and]
     refine Ev.step (f := fun _ => some false) (fun k => ?_) (Ev.now false)
     simp only [inquestref03_May.l0]
     rw [if_pos (by omega), if_pos (by omega), rd41_at hlt, half_u32 hx.1.1 hx.1.2, if_neg c1, if_pos c2]
    ·
     rw [decide_eq_false c1, decide_eq_false c2, Bool.not_false, Bool.true_and, Bool.true_and]
     refine Ev.step (fun k => ?_) (ih (i + 1) (by omega) (by omega))
     simp only [inquestref03_May.l0]
     rw [if_pos (by omega), if_pos (by omega), rd41_at hlt, half_u32 hx.1.1 hx.1.2, if_neg c1, if_neg c2, wrap_nat (by omega)]
 have hm : mayB a0 l1 l2 l3 l4 l5 = (l1.all (latchOk V) && (gok (a0 + (l1.length : Int) + 1) l2 && E)) := by
  unfold mayB
  rw [hV, decide_eq_false g1, decide_eq_false g2, decide_eq_false g3, wrap64_id (x := a0 + (l1.length : Int)) (by omega) (by omega), u32_id (by omega) (by omega), gok_is l2 _ (by omega) (by omega), ← hE]
  generalize listOk V l3 = x
  generalize listOk V l4 = y
  generalize listOk V l5 = z
  generalize l1.all (latchOk V) = u
  generalize gok (a0 + (l1.length : Int) + 1) l2 = v
  cases x <;> cases y <;> cases z <;> cases u <;> cases v <;> rfl
 have := key1 l1.length 0 (by omega) (by omega)
 rw [List.drop_zero, ← hm] at this
 refine hf _ (Ev.step (fun k => ?_) this)
 simp only [inquestref03_May.j0]
 rw [if_neg (by decide), hw, if_neg (by omega)]
 rfl
end
end Go.Proofs.Yteiiodlgdbiimaa.F
end
section
namespace Go.Proofs.Yteiiodlgdbiimaa.F
open Go.RowKit Go.Shelf Go.Proofs.YteiiodlgdbiimaaW.PrintWords Go.Proofs.YteiiodlgdbiimaaW.PrintLast Go.Proofs.YteiiodlgdbiimaaW.PrintMore
set_option linter.unusedVariables false
set_option linter.unusedSimpArgs false
def Nice (g : S68) : Prop := 2 ≤ g.f1 ∧ g.f1 < g.f0 ∧ g.f1 / 2 ≠ g.f0 / 2 ∧ g.f0 < 4294967296
structure ShW (F : Int) (tl : List Int) (gs : List S68) (k : Nat) : Prop where
  len : tl.length = k
  u32 : InU32 tl
  inb : ∀ v : Nat, v < k → rd tl (v : Int) / 2 < F + (gs.length : Int)
  nice : ∀ (j : Nat) (g : S68), gs[j]? = some g → Nice g ∧ g.f0 / 2 < F + (j : Int)
  ap : Apart68 gs
  few : gs.length = 0 ∨ F + (gs.length : Int) ≤ (k : Int)
theorem rd_snoc' {l : List Int} {y : Int} {v : Nat} (h : v < l.length) : rd (l ++ [y]) (v : Int) = rd l (v : Int) := by
  unfold rd
  rw [List.getD_eq_getElem?_getD, List.getD_eq_getElem?_getD, List.getElem?_append_left (by simp; omega)]
theorem rd_last' {l : List Int} {y : Int} : rd (l ++ [y]) (l.length : Int) = y := by
  unfold rd
  simp
section
variable {F : Int} {tl : List Int} {gs : List S68} {k : Nat}
theorem ShW.litb (h : ShW F tl gs k) (hf : 1 ≤ F ∧ F ≤ 40000) {x : Int} (h0 : 0 ≤ x) (h1 : x < 4294967296) : litP tl x / 2 < F + (gs.length : Int) := by
  unfold litP
  split
  · rename_i hlt
    have hr := rd_u32 h.u32 (x / 2)
    obtain ⟨v, hv⟩ : ∃ v : Nat, x / 2 = (v : Int) := ⟨(x / 2).toNat, by omega⟩
    have hlen := h.len
    have hi := h.inb v (by omega)
    rw [and_one h0 h1, hv]
    rw [hv] at hr
    rcases (show x % 2 = 0 ∨ x % 2 = 1 by omega) with e | e
    · rw [e, xor_zero32 hr.1 hr.2]
      exact hi
    · rw [e, xor_one hr.1 hr.2]
      omega
  · omega
theorem ShW.snoc (h : ShW F tl gs k) {y : Int} (hy : 0 ≤ y ∧ y < 4294967296) (hyb : y / 2 < F + (gs.length : Int)) : ShW F (tl ++ [y]) gs (k + 1) := by
  have hlen := h.len
  have hfw := h.few
  refine ⟨by rw [List.length_append, hlen]; rfl, fun x hx => ?_, fun v hv => ?_, h.nice, h.ap, by omega⟩
  · rcases List.mem_append.1 hx with hx | hx
    · exact h.u32 x hx
    · rw [List.mem_singleton.1 hx]
      exact hy
  · by_cases e : v = k
    · subst e
      have e1 : rd (tl ++ [y]) (v : Int) = y := by rw [← hlen]; exact rd_last'
      rw [e1]
      exact hyb
    · rw [rd_snoc' (by omega)]
      exact h.inb v (by omega)
theorem ShW.gate (h : ShW F tl gs k) (hf : 1 ≤ F ∧ F ≤ 40000) (hg : gs.length ≤ 40000) (hk : F ≤ (k : Int)) {a b : Int} (ha : 0 ≤ a ∧ a < 4294967296) (hb : 0 ≤ b ∧ b < 4294967296) (hai : a / 2 < F + (gs.length : Int)) (hbi : b / 2 < F + (gs.length : Int)) :
    ShW F (tl ++ [(gateP F gs a b).1]) (gateP F gs a b).2 (k + 1) := by
  have hHI : (0 ≤ mx a b ∧ mx a b < 4294967296) ∧ mx a b / 2 < F + (gs.length : Int) := by unfold mx; split <;> exact ⟨by omega, by omega⟩
  have hLO : (0 ≤ mn a b ∧ mn a b < 4294967296) ∧ mn a b / 2 < F + (gs.length : Int) := by unfold mn; split <;> exact ⟨by omega, by omega⟩
  have hML : mn a b ≤ mx a b := by unfold mn mx; split <;> split <;> omega
  unfold gateP
  generalize mx a b = hi at hHI hML ⊢
  generalize mn a b = lo at hLO hML ⊢
  have hlen := h.len
  have hfw := h.few
  by_cases c0 : lo = 0
  · rw [if_pos c0]
    exact h.snoc ⟨by dsimp only; omega, by dsimp only; omega⟩ (by dsimp only; omega)
  rw [if_neg c0]
  by_cases c1 : hi = Go.bits .xor .u32 lo 1
  · rw [if_pos c1]
    exact h.snoc ⟨by dsimp only; omega, by dsimp only; omega⟩ (by dsimp only; omega)
  rw [if_neg c1]
  by_cases c2 : lo = 1
  · rw [if_pos c2]
    exact h.snoc hHI.1 hHI.2
  rw [if_neg c2]
  by_cases c3 : hi = lo
  · rw [if_pos c3]
    exact h.snoc hHI.1 hHI.2
  rw [if_neg c3]
  rw [xor_one hLO.1.1 hLO.1.2] at c1
  cases hx : idxG gs hi lo with
  | some j =>
    have hjl := idxG_lt hx
    exact h.snoc ⟨by dsimp only; omega, by dsimp only; omega⟩ (by dsimp only; omega)
  | none =>
    dsimp only
    have hno := idxG_none gs hx
    refine ⟨by simp [hlen], fun x hx => ?_, fun v hv => ?_, fun j g hj => ?_, Apart68.snoc h.ap hno, by simp; omega⟩
    · rcases List.mem_append.1 hx with hx | hx
      · exact h.u32 x hx
      · rw [List.mem_singleton.1 hx]
        omega
    · rw [List.length_append, List.length_singleton]
      by_cases e : v = k
      · subst e
        have e1 : rd (tl ++ [2 * (F + (gs.length : Int))]) (v : Int) = 2 * (F + (gs.length : Int)) := by rw [← hlen]; exact rd_last'
        rw [e1]
        omega
      · rw [rd_snoc' (by omega)]
        have := h.inb v (by omega)
        omega
    · by_cases e : j < gs.length
      · rw [List.getElem?_append_left e] at hj
        exact h.nice j g hj
      · have hjl := (List.getElem?_eq_some_iff.1 hj).1
        rw [List.length_append, List.length_singleton] at hjl
        obtain rfl : j = gs.length := by omega
        rw [List.getElem?_append_right (Nat.le_refl _), Nat.sub_self] at hj
        cases hj
        refine ⟨⟨by dsimp only; omega, by dsimp only; omega, by dsimp only; omega, by dsimp only; omega⟩, by dsimp only; omega⟩
theorem run_shape {l2 : List S68} {is : List Int} (hf : 1 ≤ F ∧ F ≤ 20000) (h2 : In68 l2) (hi : ∀ i : Int, 0 ≤ rd is i ∧ rd is i ≤ 2) : ∀ k : Nat, k ≤ 40000 → ShW F (runW F l2 is k).1 (runW F l2 is k).2 k
  | 0, _ => ⟨rfl, (fun x hx => nomatch hx), (fun v hv => absurd hv (Nat.not_lt_zero v)), (fun j g hj => by cases hj), (fun i j g h hi hj => by cases hi), .inl rfl⟩
  | k + 1, hk => by
    have hS := run_shape hf h2 hi k (by omega)
    have hx := hi (k : Int)
    unfold runW
    generalize runW F l2 is k = s at hS ⊢
    have hfw := hS.few
    unfold stepW
    by_cases h : rd is (k : Int) = 2
    · rw [if_neg (by simpa using h)]
      by_cases hk2 : (k : Int) < F
      · rw [if_pos hk2]
        exact hS.snoc ⟨by omega, by omega⟩ (by omega)
      · rw [if_neg hk2]
        have hu := rd68_ok h2 ((k : Int) - F)
        exact hS.gate ⟨hf.1, by omega⟩ (by omega) (by omega) (litP_u32 hS.u32 hu.1.1 hu.1.2) (litP_u32 hS.u32 hu.2.1 hu.2.2) (hS.litb ⟨hf.1, by omega⟩ hu.1.1 hu.1.2) (hS.litb ⟨hf.1, by omega⟩ hu.2.1 hu.2.2)
    · rw [if_pos h]
      exact hS.snoc ⟨by omega, by omega⟩ (by omega)
end
def latM (tl : List Int) (l1 : List S41) : List S41 := l1.map (fun g => ⟨litP tl g.f0, g.f1⟩)
theorem map_u32 {tl l : List Int} (ht : InU32 tl) (hl : InU32 l) : InU32 (l.map (litP tl)) := fun x hx => by
  obtain ⟨y, hy, rfl⟩ := List.mem_map.1 hx
  have := hl y hy
  exact litP_u32 ht this.1 this.2
theorem lat_in {tl : List Int} {l1 : List S41} (ht : InU32 tl) (h1 : In41 l1) : In41 (latM tl l1) := fun g hg => by
  obtain ⟨y, hy, rfl⟩ := List.mem_map.1 hg
  have := h1 y hy
  exact ⟨litP_u32 ht this.1.1 this.1.2, this.2⟩
theorem with_valid {a0 : Int} {l1 : List S41} {l2 : List S68} {l3 l4 l5 is : List Int} (hv : Valid a0 l1 l2 l3 l4 l5) (h1 : In41 l1) (h2 : In68 l2) (h3 : InU32 l3) (h4 : InU32 l4) (h5 : InU32 l5) (hi : ∀ i : Int, 0 ≤ rd is i ∧ rd is i ≤ 2) (hil : (is.length : Int) = a0 + (l1.length : Int) + (l2.length : Int) + 1) :
    ShW (1 + a0 + (l1.length : Int)) (wasW a0 l1 l2 is).1 (wasW a0 l1 l2 is).2 is.length ∧ (wasW a0 l1 l2 is).2.length ≤ l2.length ∧ In41 (latM (wasW a0 l1 l2 is).1 l1) ∧ In68 (wasW a0 l1 l2 is).2 ∧ InU32 (l3.map (litP (wasW a0 l1 l2 is).1)) ∧ InU32 (l4.map (litP (wasW a0 l1 l2 is).1)) ∧ InU32 (l5.map (litP (wasW a0 l1 l2 is).1)) ∧
    Valid a0 (latM (wasW a0 l1 l2 is).1 l1) (wasW a0 l1 l2 is).2 (l3.map (litP (wasW a0 l1 l2 is).1)) (l4.map (litP (wasW a0 l1 l2 is).1)) (l5.map (litP (wasW a0 l1 l2 is).1)) := by
  have hp := hv.pos
  have hle := hv.le
  have hS : ShW (1 + a0 + (l1.length : Int)) (wasW a0 l1 l2 is).1 (wasW a0 l1 l2 is).2 is.length := run_shape ⟨by omega, by omega⟩ h2 hi is.length (by omega)
  generalize wasW a0 l1 l2 is = s at hS ⊢
  have hfw := hS.few
  have hg : s.2.length ≤ l2.length := by omega
  have ho : ∀ l : List Int, InU32 l → l.length ≤ 1024 → (l.map (litP s.1)).length ≤ 1024 ∧ ∀ x ∈ l.map (litP s.1), wrap64 (x / 2) ≤ a0 + ((latM s.1 l1).length : Int) + (s.2.length : Int) := fun l hl hn => by
    refine ⟨by rw [List.length_map]; exact hn, fun x hx => ?_⟩
    obtain ⟨y, hy, rfl⟩ := List.mem_map.1 hx
    have hu := hl y hy
    have hb := hS.litb ⟨by omega, by omega⟩ hu.1 hu.2
    have hr := litP_u32 hS.u32 hu.1 hu.2
    unfold latM
    rw [wrap64_id (by omega) (by omega), List.length_map]
    omega
  refine ⟨hS, hg, lat_in hS.u32 h1, fun g hgm => ?_, map_u32 hS.u32 h3, map_u32 hS.u32 h4, map_u32 hS.u32 h5, ⟨hp, by unfold latM; rw [List.length_map]; omega, fun k hk => ?_, fun k hk => ?_, fun k hk => ?_, ho l3 h3 hv.outs.1, ho l4 h4 hv.bads.1, ho l5 h5 hv.cons.1⟩⟩
  · obtain ⟨j, hj⟩ := List.getElem?_of_mem hgm
    obtain ⟨⟨n1, n2, n3, n4⟩, n5⟩ := hS.nice j g hj
    exact ⟨⟨by omega, by omega⟩, by omega, by omega⟩
  · have hk' : k < l1.length := by unfold latM at hk; rw [List.length_map] at hk; exact hk
    have hu := h1 _ (List.getElem_mem hk')
    have hb := hS.litb ⟨by omega, by omega⟩ hu.1.1 hu.1.2
    have hr := litP_u32 hS.u32 hu.1.1 hu.1.2
    have e : ((latM s.1 l1)[k]).f0 = litP s.1 l1[k].f0 := by simp only [latM, List.getElem_map]
    have el : (latM s.1 l1).length = l1.length := by unfold latM; rw [List.length_map]
    rw [e, el]
    exact ⟨hr.1, by omega⟩
  · have hk' : k < l1.length := by unfold latM at hk; rw [List.length_map] at hk; exact hk
    have e : ((latM s.1 l1)[k]).f1 = l1[k].f1 := by simp only [latM, List.getElem_map]
    rw [e]
    exact hv.reset k hk'
  · obtain ⟨⟨n1, n2, n3, n4⟩, n5⟩ := hS.nice k s.2[k] (List.getElem?_eq_getElem hk)
    have el : (latM s.1 l1).length = l1.length := by unfold latM; rw [List.length_map]
    rw [el]
    exact ⟨by omega, by omega, by omega⟩
end Go.Proofs.Yteiiodlgdbiimaa.F
end
section
namespace Go.Proofs.Yteiiodlgdbiimaa.F
open Go.RowKit Go.Shelf Go.Proofs.YteiiodlgdbiimaaW.PrintWords Go.Proofs.YteiiodlgdbiimaaW.PrintLast Go.Proofs.YteiiodlgdbiimaaW.PrintMore
set_option linter.unusedVariables false
set_option linter.unusedSimpArgs false
def notP (x : Int) : Int := if x = 0 then 1 else if x = 1 then 0 else 2
def andP (x y : Int) : Int := if x = 0 ∨ y = 0 then 0 else if x = 1 ∧ y = 1 then 1 else 2
def valP (vars : List Int) (x : Int) : Int := if (vars.length : Int) ≤ x / 2 then 2 else if 2 < rd vars (x / 2) then 2 else if x % 2 = 1 then notP (rd vars (x / 2)) else rd vars (x / 2)
def runV (base : List Int) (l2 : List S68) : Nat → List Int
  | 0 => base
  | k + 1 => runV base l2 k ++ [andP (valP (runV base l2 k) (rd_T68 l2 (k : Int)).f0) (valP (runV base l2 k) (rd_T68 l2 (k : Int)).f1)]
def le3 (x y : Int) : Prop := x = 2 ∨ y = x
def Tri (x : Int) : Prop := x = 0 ∨ x = 1 ∨ x = 2
theorem le3_refl (x : Int) : le3 x x := .inr rfl
theorem le3_trans {x y z : Int} (h : le3 x y) (k : le3 y z) : le3 x z := by unfold le3 at *; omega
theorem not_tri (x : Int) : Tri (notP x) := by unfold notP Tri; split <;> (try split) <;> omega
theorem and_tri (x y : Int) : Tri (andP x y) := by unfold andP Tri; split <;> (try split) <;> omega
theorem not_mono {x y : Int} (h : le3 x y) : le3 (notP x) (notP y) := by
  rcases h with rfl | rfl
  · exact .inl rfl
  · exact le3_refl _
theorem and_comm3 (x y : Int) : andP x y = andP y x := by
  unfold andP
  by_cases h1 : x = 0 <;> by_cases h2 : y = 0 <;> by_cases h3 : x = 1 <;> by_cases h4 : y = 1 <;> simp [h1, h2, h3, h4]
theorem and_mono {x y x' y' : Int} (h : le3 x x') (k : le3 y y') : le3 (andP x y) (andP x' y') := by
  unfold le3 andP at *
  rcases h with rfl | rfl
  · rcases k with rfl | rfl
    · left
      simp
    · by_cases hy : y' = 0
      · right
        simp [hy]
      · left
        simp [hy]
  · rcases k with rfl | rfl
    · by_cases hx : x' = 0
      · right
        simp [hx]
      · left
        simp [hx]
    · exact .inr rfl
theorem and_one3 {x : Int} (h : Tri x) : andP x 1 = x := by
  rcases h with rfl | rfl | rfl <;> rfl
theorem and_self3 {x : Int} (h : Tri x) : andP x x = x := by
  rcases h with rfl | rfl | rfl <;> rfl
theorem and_not3 {x : Int} (h : Tri x) : le3 (andP (notP x) x) 0 := by
  rcases h with rfl | rfl | rfl
  · exact .inr rfl
  · exact .inr rfl
  · exact .inl rfl
theorem not_not3 {x : Int} (h : Tri x) : notP (notP x) = x := by
  rcases h with rfl | rfl | rfl <;> rfl
def TriL (l : List Int) : Prop := ∀ x ∈ l, Tri x
theorem rd_tri {l : List Int} (h : TriL l) (i : Int) : Tri (rd l i) := by
  unfold rd
  rw [List.getD_eq_getElem?_getD]
  cases hg : l[i.toNat]? with
  | none => exact .inl rfl
  | some v => exact h v (List.mem_of_getElem? hg)
theorem val_tri {l : List Int} (h : TriL l) (x : Int) : Tri (valP l x) := by
  unfold valP
  split
  · exact .inr (.inr rfl)
  split
  · exact .inr (.inr rfl)
  split
  · exact not_tri _
  · exact rd_tri h _
theorem val_in {l : List Int} (h : TriL l) {x : Int} (hx : x / 2 < (l.length : Int)) : valP l x = if x % 2 = 1 then notP (rd l (x / 2)) else rd l (x / 2) := by
  unfold valP
  have := rd_tri h (x / 2)
  unfold Tri at this
  rw [if_neg (by omega), if_neg (by omega)]
theorem rd_app {l t : List Int} {i : Int} (h0 : 0 ≤ i) (h : i < (l.length : Int)) : rd (l ++ t) i = rd l i := by
  unfold rd
  rw [List.getD_eq_getElem?_getD, List.getD_eq_getElem?_getD, List.getElem?_append_left (by omega)]
theorem rd_last {l : List Int} {y : Int} : rd (l ++ [y]) (l.length : Int) = y := by
  unfold rd
  simp
theorem val_app {l t : List Int} {x : Int} (h0 : 0 ≤ x) (h : x / 2 < (l.length : Int)) : valP (l ++ t) x = valP l x := by
  unfold valP
  have h1 : ¬ ((l ++ t).length : Int) ≤ x / 2 := by rw [List.length_append]; omega
  have h2 : ¬ (l.length : Int) ≤ x / 2 := by omega
  rw [rd_app (by omega) h, if_neg h1, if_neg h2]
theorem run_len {base : List Int} {l2 : List S68} : ∀ k : Nat, (runV base l2 k).length = base.length + k
  | 0 => rfl
  | k + 1 => by
    unfold runV
    rw [List.length_append, run_len k]
    simp
    omega
theorem run_tri {base : List Int} {l2 : List S68} (hb : TriL base) : ∀ k : Nat, TriL (runV base l2 k)
  | 0 => hb
  | k + 1 => fun x hx => by
    unfold runV at hx
    rcases List.mem_append.1 hx with hx | hx
    · exact run_tri hb k x hx
    · rw [List.mem_singleton.1 hx]
      exact and_tri _ _
theorem run_app {base : List Int} {l2 : List S68} (k : Nat) : ∀ d : Nat, ∃ t, runV base l2 (k + d) = runV base l2 k ++ t
  | 0 => ⟨[], by simp⟩
  | d + 1 => by
    obtain ⟨t, h⟩ := run_app k d
    refine ⟨t ++ [andP (valP (runV base l2 (k + d)) (rd_T68 l2 ((k + d : Nat) : Int)).f0) (valP (runV base l2 (k + d)) (rd_T68 l2 ((k + d : Nat) : Int)).f1)], ?_⟩
    show runV base l2 (k + d + 1) = _
    rw [runV, ← List.append_assoc, ← h]
theorem run_more {base : List Int} {l2 t : List S68} : ∀ k : Nat, k ≤ l2.length → runV base (l2 ++ t) k = runV base l2 k
  | 0, _ => rfl
  | k + 1, h => by
    have e : rd_T68 (l2 ++ t) (k : Int) = rd_T68 l2 (k : Int) := by
      unfold rd_T68
      rw [List.getD_eq_getElem?_getD, List.getD_eq_getElem?_getD, List.getElem?_append_left (by simp; omega)]
    unfold runV
    rw [run_more k (by omega), e]
theorem run_at {base : List Int} {l2 : List S68} {m j : Nat} (hj : j < m) (h0 : 0 ≤ (rd_T68 l2 (j : Int)).f0 ∧ (rd_T68 l2 (j : Int)).f0 / 2 < (base.length : Int) + (j : Int)) (h1 : 0 ≤ (rd_T68 l2 (j : Int)).f1 ∧ (rd_T68 l2 (j : Int)).f1 / 2 < (base.length : Int) + (j : Int)) :
    rd (runV base l2 m) ((base.length : Int) + (j : Int)) = andP (valP (runV base l2 m) (rd_T68 l2 (j : Int)).f0) (valP (runV base l2 m) (rd_T68 l2 (j : Int)).f1) := by
  obtain ⟨d, rfl⟩ : ∃ d, m = j + 1 + d := ⟨m - (j + 1), by omega⟩
  obtain ⟨t, ht⟩ := run_app (base := base) (l2 := l2) (j + 1) d
  have hl := run_len (base := base) (l2 := l2) j
  have hl1 := run_len (base := base) (l2 := l2) (j + 1)
  rw [ht, rd_app (by omega) (by omega), val_app h0.1 (by omega), val_app h1.1 (by omega)]
  rw [runV, val_app h0.1 (by omega), val_app h1.1 (by omega)]
  have e : (base.length : Int) + (j : Int) = ((runV base l2 j).length : Int) := by omega
  rw [e, rd_last]
theorem lit_val {now tl : List Int} {x : Int} (hn : TriL now) (ht : InU32 tl) (h0 : 0 ≤ x) (h1 : x < 4294967296) (hlt : x / 2 < (tl.length : Int)) (hin : rd tl (x / 2) / 2 < (now.length : Int)) :
    valP now (litP tl x) = if x % 2 = 1 then notP (valP now (rd tl (x / 2))) else valP now (rd tl (x / 2)) := by
  have hr := rd_u32 ht (x / 2)
  unfold litP
  rw [if_pos hlt, and_one h0 h1]
  generalize rd tl (x / 2) = r at hr hin ⊢
  rcases (show x % 2 = 0 ∨ x % 2 = 1 by omega) with e | e
  · rw [e, xor_zero32 hr.1 hr.2, if_neg (by decide)]
  · rw [e, xor_one hr.1 hr.2, if_pos rfl, val_in hn (by omega), val_in hn hin]
    have e2 : (2 * (r / 2) + (r + 1) % 2) / 2 = r / 2 := by omega
    rw [e2]
    rcases (show r % 2 = 0 ∨ r % 2 = 1 by omega) with e3 | e3
    · rw [if_pos (by omega), if_neg (by omega)]
    · rw [if_neg (by omega), if_pos e3, not_not3 (rd_tri hn _)]
structure GoodW (F : Int) (base V tl : List Int) (gs : List S68) (k : Nat) : Prop where
  len : tl.length = k
  u32 : InU32 tl
  inb : ∀ v : Nat, v < k → rd tl (v : Int) / 2 < F + (gs.length : Int)
  val : ∀ v : Nat, v < k → le3 (rd V (v : Int)) (valP (runV base gs gs.length) (rd tl (v : Int)))
  refs : ∀ j : Nat, j < gs.length → (0 ≤ (rd_T68 gs (j : Int)).f0 ∧ (rd_T68 gs (j : Int)).f0 / 2 < F + (j : Int)) ∧ (0 ≤ (rd_T68 gs (j : Int)).f1 ∧ (rd_T68 gs (j : Int)).f1 / 2 < F + (j : Int))
theorem GoodW.lit {F : Int} {base V tl : List Int} {gs : List S68} {k : Nat} (h : GoodW F base V tl gs k) (hF : (base.length : Int) = F) (hb : TriL base) (hV : TriL V) (hk : k ≤ V.length) {x : Int} (h0 : 0 ≤ x) (h1 : x < 4294967296) (hx : x / 2 < (k : Int)) :
    le3 (valP V x) (valP (runV base gs gs.length) (litP tl x)) ∧ litP tl x / 2 < F + (gs.length : Int) := by
  have hn := run_tri (l2 := gs) hb gs.length
  have hl := run_len (base := base) (l2 := gs) gs.length
  obtain ⟨v, hv⟩ : ∃ v : Nat, x / 2 = (v : Int) := ⟨(x / 2).toNat, by omega⟩
  have hi := h.inb v (by omega)
  have hvl := h.val v (by omega)
  have hr := rd_u32 h.u32 (v : Int)
  have hlen := h.len
  constructor
  · rw [lit_val hn h.u32 h0 h1 (by omega) (by rw [hv]; omega), val_in hV (by omega), hv]
    split
    · exact not_mono hvl
    · exact hvl
  · unfold litP
    rw [if_pos (by omega), and_one h0 h1, hv]
    rcases (show x % 2 = 0 ∨ x % 2 = 1 by omega) with e | e
    · rw [e, xor_zero32 hr.1 hr.2]
      exact hi
    · rw [e, xor_one hr.1 hr.2]
      omega
theorem rd_snoc {l : List Int} {y : Int} {v : Nat} (h : v < l.length) : rd (l ++ [y]) (v : Int) = rd l (v : Int) := rd_app (by omega) (by omega)
theorem rd68_snoc {l : List S68} {y : S68} {v : Nat} (h : v < l.length) : rd_T68 (l ++ [y]) (v : Int) = rd_T68 l (v : Int) := by
  unfold rd_T68
  rw [List.getD_eq_getElem?_getD, List.getD_eq_getElem?_getD, List.getElem?_append_left (by simp; omega)]
theorem rd68_last {l : List S68} {y : S68} : rd_T68 (l ++ [y]) (l.length : Int) = y := by
  unfold rd_T68
  simp
theorem GoodW.snoc {F : Int} {base V tl : List Int} {gs : List S68} {k : Nat} (h : GoodW F base V tl gs k) {y : Int} (hy : 0 ≤ y ∧ y < 4294967296) (hyb : y / 2 < F + (gs.length : Int)) (hyv : le3 (rd V (k : Int)) (valP (runV base gs gs.length) y)) : GoodW F base V (tl ++ [y]) gs (k + 1) := by
  have hlen := h.len
  refine ⟨by rw [List.length_append, hlen]; rfl, fun x hx => ?_, fun v hv => ?_, fun v hv => ?_, h.refs⟩
  · rcases List.mem_append.1 hx with hx | hx
    · exact h.u32 x hx
    · rw [List.mem_singleton.1 hx]
      exact hy
  · by_cases e : v = k
    · subst e
      have e1 : rd (tl ++ [y]) (v : Int) = y := by rw [← hlen]; exact rd_last
      rw [e1]
      exact hyb
    · rw [rd_snoc (by omega)]
      exact h.inb v (by omega)
  · by_cases e : v = k
    · subst e
      have : rd (tl ++ [y]) (v : Int) = y := by rw [← hlen]; exact rd_last
      rw [this]
      exact hyv
    · rw [rd_snoc (by omega)]
      exact h.val v (by omega)
theorem GoodW.gate {F : Int} {base V tl : List Int} {gs : List S68} {k : Nat} (h : GoodW F base V tl gs k) (hF : (base.length : Int) = F) {g : S68} (h0 : 0 ≤ g.f0 ∧ g.f0 / 2 < F + (gs.length : Int)) (h1 : 0 ≤ g.f1 ∧ g.f1 / 2 < F + (gs.length : Int)) :
    GoodW F base V tl (gs ++ [g]) k ∧ runV base (gs ++ [g]) (gs ++ [g]).length = runV base gs gs.length ++ [andP (valP (runV base gs gs.length) g.f0) (valP (runV base gs gs.length) g.f1)] := by
  have hl := run_len (base := base) (l2 := gs) gs.length
  have e : runV base (gs ++ [g]) (gs ++ [g]).length = runV base gs gs.length ++ [andP (valP (runV base gs gs.length) g.f0) (valP (runV base gs gs.length) g.f1)] := by
    rw [List.length_append, List.length_singleton, runV, run_more _ (Nat.le_refl _), rd68_last]
  refine ⟨⟨h.len, h.u32, fun v hv => ?_, fun v hv => ?_, fun j hj => ?_⟩, e⟩
  · have := h.inb v hv
    rw [List.length_append, List.length_singleton]
    omega
  · have hi := h.inb v hv
    have hr := rd_u32 h.u32 (v : Int)
    rw [e, val_app hr.1 (by omega)]
    exact h.val v hv
  · rw [List.length_append, List.length_singleton] at hj
    by_cases ej : j = gs.length
    · subst ej
      rw [rd68_last]
      exact ⟨h0, h1⟩
    · rw [rd68_snoc (by omega)]
      exact h.refs j (by omega)
theorem now_zero {base : List Int} {gs : List S68} (hb : TriL base) (h1 : 1 ≤ base.length) (hz : rd base 0 = 0) : rd (runV base gs gs.length) 0 = 0 := by
  obtain ⟨t, ht⟩ := run_app (base := base) (l2 := gs) 0 gs.length
  rw [Nat.zero_add] at ht
  rw [ht, rd_app (Int.le_refl _) (by show (0 : Int) < ((runV base gs 0).length : Int); rw [run_len]; omega)]
  exact hz
theorem val_flip {now : List Int} (hn : TriL now) {lo : Int} (h0 : 0 ≤ lo) (h1 : lo < 4294967296) (hin : lo / 2 < (now.length : Int)) : valP now (Go.bits .xor .u32 lo 1) = notP (valP now lo) := by
  rw [xor_one h0 h1, val_in hn (by omega), val_in hn hin]
  have e2 : (2 * (lo / 2) + (lo + 1) % 2) / 2 = lo / 2 := by omega
  rw [e2]
  rcases (show lo % 2 = 0 ∨ lo % 2 = 1 by omega) with e3 | e3
  · rw [if_pos (by omega), if_neg (by omega)]
  · rw [if_neg (by omega), if_pos e3, not_not3 (rd_tri hn _)]
theorem gate_step {F : Int} {base V tl : List Int} {gs : List S68} {k : Nat} (h : GoodW F base V tl gs k) (hF : (base.length : Int) = F) (hb : TriL base) (hz : rd base 0 = 0) (hf : 1 ≤ F ∧ F ≤ 40000) (hg : gs.length ≤ 40000) {a b : Int} (ha : 0 ≤ a ∧ a < 4294967296) (hbb : 0 ≤ b ∧ b < 4294967296) (hai : a / 2 < F + (gs.length : Int)) (hbi : b / 2 < F + (gs.length : Int)) :
    GoodW F base V tl (gateP F gs a b).2 k ∧ (0 ≤ (gateP F gs a b).1 ∧ (gateP F gs a b).1 < 4294967296) ∧ (gateP F gs a b).1 / 2 < F + ((gateP F gs a b).2.length : Int) ∧ le3 (andP (valP (runV base gs gs.length) a) (valP (runV base gs gs.length) b)) (valP (runV base (gateP F gs a b).2 (gateP F gs a b).2.length) (gateP F gs a b).1) := by
  have hn := run_tri (l2 := gs) hb gs.length
  have hl := run_len (base := base) (l2 := gs) gs.length
  have h00 := now_zero (gs := gs) hb (by omega) hz
  have hU := (gateP_ok (first := F) (gs := gs) (a := a) (b := b) (by omega) hg ha hbb).1
  have hcm : andP (valP (runV base gs gs.length) a) (valP (runV base gs gs.length) b) = andP (valP (runV base gs gs.length) (mx a b)) (valP (runV base gs gs.length) (mn a b)) := by
    by_cases e : a < b
    · have e1 : mx a b = b := by unfold mx; rw [if_pos e]
      have e2 : mn a b = a := by unfold mn; rw [if_neg (by omega)]
      rw [e1, e2, and_comm3]
    · by_cases e' : b < a
      · have e1 : mx a b = a := by unfold mx; rw [if_neg e]
        have e2 : mn a b = b := by unfold mn; rw [if_pos e']
        rw [e1, e2]
      · obtain rfl : a = b := by omega
        have e1 : mx a a = a := by unfold mx; rw [if_neg e]
        have e2 : mn a a = a := by unfold mn; rw [if_neg e]
        rw [e1, e2]
  have hHI : (0 ≤ mx a b ∧ mx a b < 4294967296) ∧ mx a b / 2 < F + (gs.length : Int) := by unfold mx; split <;> exact ⟨by omega, by omega⟩
  have hLO : (0 ≤ mn a b ∧ mn a b < 4294967296) ∧ mn a b / 2 < F + (gs.length : Int) := by unfold mn; split <;> exact ⟨by omega, by omega⟩
  rw [hcm]
  unfold gateP at hU ⊢
  generalize mx a b = hi at hHI hU ⊢
  generalize mn a b = lo at hLO hU ⊢
  by_cases c0 : lo = 0
  · rw [if_pos c0] at hU ⊢
    refine ⟨h, hU, by dsimp only; omega, ?_⟩
    subst c0
    have e : valP (runV base gs gs.length) 0 = 0 := by rw [val_in hn (by omega)]; simpa using h00
    dsimp only
    rw [e]
    right
    unfold andP
    simp
  rw [if_neg c0] at hU ⊢
  by_cases c1 : hi = Go.bits .xor .u32 lo 1
  · rw [if_pos c1] at hU ⊢
    refine ⟨h, hU, by dsimp only; omega, ?_⟩
    have e : valP (runV base gs gs.length) 0 = 0 := by rw [val_in hn (by omega)]; simpa using h00
    dsimp only
    rw [e, c1, val_flip hn hLO.1.1 hLO.1.2 (by omega)]
    exact and_not3 (val_tri hn _)
  rw [if_neg c1] at hU ⊢
  by_cases c2 : lo = 1
  · rw [if_pos c2] at hU ⊢
    refine ⟨h, hU, hHI.2, ?_⟩
    subst c2
    have e : valP (runV base gs gs.length) 1 = 1 := by
      rw [val_in hn (by omega), if_pos (by decide)]
      have : (1 : Int) / 2 = 0 := by decide
      rw [this, h00]
      rfl
    dsimp only
    rw [e, and_one3 (val_tri hn _)]
    exact le3_refl _
  rw [if_neg c2] at hU ⊢
  by_cases c3 : hi = lo
  · rw [if_pos c3] at hU ⊢
    refine ⟨h, hU, hHI.2, ?_⟩
    subst c3
    dsimp only
    rw [and_self3 (val_tri hn _)]
    exact le3_refl _
  rw [if_neg c3] at hU ⊢
  cases hx : idxG gs hi lo with
  | some j =>
    rw [hx] at hU
    obtain ⟨⟨g, hj, e0, e1⟩, _⟩ := idxG_some gs j hx
    have hjl := idxG_lt hx
    have er : rd_T68 gs (j : Int) = g := by
      unfold rd_T68
      rw [List.getD_eq_getElem?_getD, Int.toNat_natCast, hj]
      rfl
    have hrf := h.refs j hjl
    rw [er] at hrf
    refine ⟨h, hU, by dsimp only; omega, ?_⟩
    dsimp only
    have d1 : 2 * (F + (j : Int)) / 2 = F + (j : Int) := by omega
    have ev : valP (runV base gs gs.length) (2 * (F + (j : Int))) = rd (runV base gs gs.length) (F + (j : Int)) := by rw [val_in hn (by omega), if_neg (by omega), d1]
    rw [ev, ← hF, run_at hjl (by rw [er, hF]; exact hrf.1) (by rw [er, hF]; exact hrf.2), er, e0, e1]
    exact le3_refl _
  | none =>
    rw [hx] at hU
    obtain ⟨hG, hrun⟩ := h.gate hF (g := ⟨hi, lo⟩) ⟨hHI.1.1, hHI.2⟩ ⟨hLO.1.1, hLO.2⟩
    refine ⟨hG, hU, by dsimp only; simp; omega, ?_⟩
    dsimp only
    rw [hrun]
    have d1 : 2 * (F + (gs.length : Int)) / 2 = F + (gs.length : Int) := by omega
    have hT : TriL (runV base gs gs.length ++ [andP (valP (runV base gs gs.length) hi) (valP (runV base gs gs.length) lo)]) := fun x hx => by
      rcases List.mem_append.1 hx with hx | hx
      · exact hn x hx
      · rw [List.mem_singleton.1 hx]
        exact and_tri _ _
    have e : F + (gs.length : Int) = ((runV base gs gs.length).length : Int) := by omega
    rw [val_in hT (by simp; omega), if_neg (by omega), d1, e, rd_last]
    exact le3_refl _
end Go.Proofs.Yteiiodlgdbiimaa.F
end
section
namespace Go.Proofs.Yteiiodlgdbiimaa.F
open Go.RowKit Go.Shelf Go.Proofs.YteiiodlgdbiimaaW.PrintWords Go.Proofs.YteiiodlgdbiimaaW.PrintLast Go.Proofs.YteiiodlgdbiimaaW.PrintMore
set_option linter.unusedVariables false
set_option linter.unusedSimpArgs false
theorem val_const {base : List Int} {gs : List S68} (hb : TriL base) (h1 : 1 ≤ base.length) (hz : rd base 0 = 0) {x : Int} (hx : x = 0 ∨ x = 1) : valP (runV base gs gs.length) x = x := by
  have hn := run_tri (l2 := gs) hb gs.length
  have hl := run_len (base := base) (l2 := gs) gs.length
  have h00 := now_zero (gs := gs) hb h1 hz
  rcases hx with rfl | rfl
  · rw [val_in hn (by omega)]
    simpa using h00
  · rw [val_in hn (by omega), if_pos (by decide)]
    have : (1 : Int) / 2 = 0 := by decide
    rw [this, h00]
    rfl
theorem good_run2 {F : Int} {b0 base : List Int} {l2 : List S68} {is : List Int} (hF0 : (b0.length : Int) = F) (hb0 : TriL b0) (hle : ∀ v : Nat, v < b0.length → le3 (rd b0 (v : Int)) (rd base (v : Int))) (hF : (base.length : Int) = F) (hb : TriL base) (hz : rd base 0 = 0) (hf : 1 ≤ F ∧ F ≤ 20000) (h2 : In68 l2) (hl2 : l2.length ≤ 20000) (hi : TriL is) (hil : (is.length : Int) = F + (l2.length : Int))
    (hg : ∀ j : Nat, j < l2.length → (rd_T68 l2 (j : Int)).f0 / 2 < F + (j : Int) ∧ (rd_T68 l2 (j : Int)).f1 / 2 < F + (j : Int)) (hc : ∀ v : Nat, v < is.length → rd is (v : Int) ≠ 2 → rd (runV b0 l2 l2.length) (v : Int) = rd is (v : Int)) :
    ∀ k : Nat, k ≤ is.length → GoodW F base (runV b0 l2 l2.length) (runW F l2 is k).1 (runW F l2 is k).2 k ∧ (runW F l2 is k).2.length ≤ k
  | 0, _ => ⟨⟨rfl, (fun x hx => nomatch hx), (fun v hv => absurd hv (Nat.not_lt_zero v)), (fun v hv => absurd hv (Nat.not_lt_zero v)), (fun j hj => absurd hj (Nat.not_lt_zero j))⟩, Nat.le_refl _⟩
  | k + 1, hk => by
    obtain ⟨hG, hgl⟩ := good_run2 hF0 hb0 hle hF hb hz hf h2 hl2 hi hil hg hc k (by omega)
    have hV := run_tri (l2 := l2) hb0 l2.length
    have hVl := run_len (base := b0) (l2 := l2) l2.length
    have hx := rd_tri hi (k : Int)
    have hcx := hc k (by omega)
    unfold runW
    generalize runW F l2 is k = s at hG hgl ⊢
    have hnl := run_len (base := base) (l2 := s.2) s.2.length
    unfold stepW
    by_cases h : rd is (k : Int) = 2
    · rw [if_neg (by simpa using h)]
      by_cases hk2 : (k : Int) < F
      · rw [if_pos hk2]
        refine ⟨hG.snoc ⟨by omega, by omega⟩ (by omega) ?_, by dsimp only; omega⟩
        have hn := run_tri (l2 := s.2) hb s.2.length
        have d1 : 2 * (k : Int) / 2 = (k : Int) := by omega
        rw [val_in hn (by omega), if_neg (by omega), d1]
        obtain ⟨t, ht⟩ := run_app (base := b0) (l2 := l2) 0 l2.length
        obtain ⟨t', ht'⟩ := run_app (base := base) (l2 := s.2) 0 s.2.length
        rw [Nat.zero_add] at ht ht'
        have e0 : runV b0 l2 0 = b0 := rfl
        have e0' : runV base s.2 0 = base := rfl
        rw [ht, ht', e0, e0', rd_app (by omega) (by omega), rd_app (by omega) (by omega)]
        exact hle k (by omega)
      · rw [if_neg hk2]
        obtain ⟨j, hj⟩ : ∃ j : Nat, (k : Int) = F + (j : Int) := ⟨((k : Int) - F).toNat, by omega⟩
        have hjl : j < l2.length := by omega
        have ekj : (k : Int) - F = (j : Int) := by omega
        have hgj := hg j hjl
        have hu := rd68_ok h2 (j : Int)
        rw [ekj]
        generalize hy : rd_T68 l2 (j : Int) = y at hgj hu
        have hL0 := hG.lit hF hb hV (by omega) hu.1.1 hu.1.2 (by omega)
        have hL1 := hG.lit hF hb hV (by omega) hu.2.1 hu.2.2 (by omega)
        have hU0 := litP_u32 hG.u32 hu.1.1 hu.1.2
        have hU1 := litP_u32 hG.u32 hu.2.1 hu.2.2
        obtain ⟨g1, g2, g3, g4⟩ := gate_step hG hF hb hz ⟨hf.1, by omega⟩ (by omega) hU0 hU1 hL0.2 hL1.2
        have hgo := (gateP_ok (first := F) (gs := s.2) (by omega) (by omega) hU0 hU1).2
        have hrun := run_at (base := b0) (l2 := l2) (m := l2.length) hjl (by rw [hy, hF0]; exact ⟨hu.1.1, hgj.1⟩) (by rw [hy, hF0]; exact ⟨hu.2.1, hgj.2⟩)
        rw [hy, hF0, ← hj] at hrun
        refine ⟨g1.snoc g2 g3 ?_, by dsimp only; omega⟩
        rw [hrun]
        exact le3_trans (and_mono hL0.1 hL1.1) g4
    · rw [if_pos h]
      have h01 : rd is (k : Int) = 0 ∨ rd is (k : Int) = 1 := by unfold Tri at hx; omega
      refine ⟨hG.snoc ⟨by omega, by omega⟩ (by omega) ?_, by dsimp only; omega⟩
      rw [val_const hb (by omega) hz h01, hcx h]
      exact le3_refl _
end Go.Proofs.Yteiiodlgdbiimaa.F
end
section
namespace Go.Proofs.Yteiiodlgdbiimaa.F
open Go.RowKit Go.Shelf Go.Proofs.YteiiodlgdbiimaaW.PrintWords Go.Proofs.YteiiodlgdbiimaaW.PrintLast Go.Proofs.YteiiodlgdbiimaaW.PrintMore
set_option linter.unusedVariables false
set_option linter.unusedSimpArgs false
theorem not1_is (x : Int) : inquestref06_Not1.f x = some (notP x) := by
  unfold inquestref06_Not1.f notP
  split
  · rfl
  split <;> rfl
theorem and1_ev (x y : Int) : Ev (fun k => inquestref06_And1.f k x y) (andP x y) := by
  have hj : ∀ b : Bool, Ev (fun k => inquestref06_And1.j0 k x y b) (if b = true then 0 else if x = 1 then (if y = 1 then 1 else 2) else 2) := fun b =>
    Ev.step (f := fun _ => some (if b = true then 0 else if x = 1 then (if y = 1 then 1 else 2) else 2)) (fun k => by
      simp only [inquestref06_And1.j0]
      split
      · rfl
      split
      · split <;> rfl
      · rfl) (Ev.now _)
  by_cases hx : x = 0
  · have h := hj true
    refine Ev.congr (fun k => ?_) (by unfold andP; rw [if_pos (Or.inl hx)]; exact h)
    unfold inquestref06_And1.f
    rw [if_pos hx]
  · have h := hj (y == 0)
    have e : (if (y == 0) = true then 0 else if x = 1 then (if y = 1 then 1 else 2) else 2) = andP x y := by
      unfold andP
      by_cases hy : y = 0
      · rw [if_pos (by simp [hy]), if_pos (Or.inr hy)]
      · have hb : (y == 0) = false := beq_eq_false_iff_ne.mpr hy
        have hor : ¬ (x = 0 ∨ y = 0) := by omega
        rw [hb, if_neg (by decide), if_neg hor]
        by_cases h1 : x = 1
        · by_cases h2 : y = 1
          · rw [if_pos h1, if_pos h2, if_pos ⟨h1, h2⟩]
          · rw [if_pos h1, if_neg h2, if_neg (fun h => h2 h.2)]
        · rw [if_neg h1, if_neg (fun h => h1 h.1)]
    rw [e] at h
    refine Ev.congr (fun k => ?_) h
    unfold inquestref06_And1.f
    rw [if_neg hx]
theorem value_ev {vars : List Int} (hv : TriL vars) {x : Int} (h0 : 0 ≤ x) (h1 : x < 4294967296) : Ev (fun k => inquestref07_Value.f k vars x) (valP vars x) := by
  have ht : (Int.tdiv x 2) % 4294967296 = x / 2 := half_u32 h0 h1
  have hm : Int.tmod x 2 = x % 2 := Int.tmod_eq_emod_of_nonneg h0
  by_cases hl : (vars.length : Int) ≤ x / 2
  · have hj : Ev (fun k => inquestref07_Value.j0 k vars x true) 2 := Ev.step (f := fun _ => some 2) (fun k => by simp only [inquestref07_Value.j0]; rw [if_pos trivial]) (Ev.now 2)
    refine Ev.congr (fun k => ?_) (by unfold valP; rw [if_pos hl]; exact hj)
    unfold inquestref07_Value.f
    rw [ht, if_pos hl]
  · have hr := rd_tri hv (x / 2)
    have hn2 : ¬ 2 < rd vars (x / 2) := by unfold Tri at hr; omega
    have hj : Ev (fun k => inquestref07_Value.j0 k vars x false) (valP vars x) := by
      refine Ev.step (f := fun _ => some (valP vars x)) (fun k => ?_) (Ev.now _)
      simp only [inquestref07_Value.j0]
      rw [if_neg (by decide), hm, ht, not1_is]
      unfold valP
      rw [if_neg hl, if_neg hn2]
      by_cases hp : x % 2 = 1
      · rw [if_pos hp, if_pos (by omega), if_pos (by omega), if_pos hp]
        rfl
      · rw [if_neg hp, if_pos (by omega), if_pos (by omega), if_neg hp]
    refine Ev.congr (fun k => ?_) hj
    unfold inquestref07_Value.f
    rw [ht, if_neg hl, if_pos (by omega), if_pos (by omega), decide_eq_false hn2]
end Go.Proofs.Yteiiodlgdbiimaa.F
end
section
namespace Go.Proofs.Yteiiodlgdbiimaa.F
open Go.RowKit Go.Shelf Go.Proofs.YteiiodlgdbiimaaW.PrintWords Go.Proofs.YteiiodlgdbiimaaW.PrintLast Go.Proofs.YteiiodlgdbiimaaW.PrintMore
set_option linter.unusedVariables false
set_option linter.unusedSimpArgs false
theorem fine_ev {l : List Int} {m : Int} (hl : l.length < 9223372036854775808) : Ev (fun k => inquestref07_fine.f k l m) (l.all (fun x => decide (x ≤ 2)) && ((l.length : Int) == m)) := by
  have key : ∀ (d i : Nat), l.length - i = d → i ≤ l.length → Ev (fun k => inquestref07_fine.l0 k l m (i : Int)) ((l.drop i).all (fun x => decide (x ≤ 2)) && ((l.length : Int) == m)) := by
    intro d
    induction d with
    | zero =>
      intro i hd hi
      obtain rfl : i = l.length := by omega
      refine Ev.step (f := fun _ => some ((l.length : Int) == m)) (fun k => ?_) (by rw [List.drop_length]; exact Ev.now _)
      simp only [inquestref07_fine.l0]
      rw [if_neg (by omega)]
    | succ d ih =>
      intro i hd hi
      have hlt : i < l.length := by omega
      rw [drop_at hlt, List.all_cons]
      by_cases hc : l[i] ≤ 2
      · rw [decide_eq_true hc, Bool.true_and]
        refine Ev.step (fun k => ?_) (ih (i + 1) (by omega) (by omega))
        simp only [inquestref07_fine.l0]
        rw [if_pos (by omega), if_pos (by omega), rd_at hlt, if_neg (by omega), wrap_nat' (by omega)]
      · rw [decide_eq_false hc, Bool.false_and, Bool.false_and]
        refine Ev.step (f := fun _ => some false) (fun k => ?_) (Ev.now _)
        simp only [inquestref07_fine.l0]
        rw [if_pos (by omega), if_pos (by omega), rd_at hlt, if_pos (by omega)]
  exact key l.length 0 (by omega) (by omega)
def baseF (state inputs : List Int) : List Int := 0 :: (inputs ++ state)
def nextF (now : List Int) (l1 : List S41) : List Int := l1.map (fun g => valP now g.f0)
theorem base_tri {state inputs : List Int} (hs : TriL state) (hi : TriL inputs) : TriL (baseF state inputs) := fun x hx => by
  rcases List.mem_cons.1 hx with rfl | hx
  · exact .inl rfl
  rcases List.mem_append.1 hx with hx | hx
  · exact hi x hx
  · exact hs x hx
theorem tri_of {l : List Int} (h : ∀ x ∈ l, 0 ≤ x ∧ x < 256) (k : l.all (fun x => decide (x ≤ 2)) = true) : TriL l := fun x hx => by
  have h1 := h x hx
  have h2 := List.all_eq_true.1 k x hx
  rw [decide_eq_true_eq] at h2
  unfold Tri
  omega
section
variable {a0 : Int} {l1 : List S41} {l2 : List S68} {l3 l4 l5 state inputs : List Int}
theorem frame_run (hv : Valid a0 l1 l2 l3 l4 l5) (h1 : In41 l1) (h2 : In68 l2) (hs : TriL state) (hi : TriL inputs) (ls : state.length = l1.length) (li : (inputs.length : Int) = a0) :
    Ev (fun k => inquestref07_Frame.j0 k state inputs false a0 l1 l2 l3 l4 l5) (runV (baseF state inputs) l2 l2.length, nextF (runV (baseF state inputs) l2 l2.length) l1, 0) := by
  have hp := hv.pos
  have hle := hv.le
  have hb := base_tri hs hi
  have hbl : (baseF state inputs).length = 1 + inputs.length + state.length := by unfold baseF; rw [List.length_cons, List.length_append]; omega
  have hvl := run_len (base := baseF state inputs) (l2 := l2) l2.length
  have hvt := run_tri (l2 := l2) hb l2.length
  have key2 : ∀ (d i : Nat), l1.length - i = d → i ≤ l1.length → Ev (fun k => inquestref07_Frame.l1 k (runV (baseF state inputs) l2 l2.length) (nextF (runV (baseF state inputs) l2 l2.length) (l1.take i)) (i : Int) a0 l1 l2 l3 l4 l5) (runV (baseF state inputs) l2 l2.length, nextF (runV (baseF state inputs) l2 l2.length) l1, 0) := by
    intro d
    induction d with
    | zero =>
      intro i hd hi
      obtain rfl : i = l1.length := by omega
      rw [List.take_length]
      refine Ev.step (f := fun _ => some (runV (baseF state inputs) l2 l2.length, nextF (runV (baseF state inputs) l2 l2.length) l1, 0)) (fun k => ?_) (Ev.now _)
      simp only [inquestref07_Frame.l1]
      rw [if_neg (by omega)]
    | succ d ih =>
      intro i hd hi
      have hlt : i < l1.length := by omega
      have hx := h1 _ (List.getElem_mem hlt)
      have e : nextF (runV (baseF state inputs) l2 l2.length) (l1.take i) ++ [valP (runV (baseF state inputs) l2 l2.length) l1[i].f0] = nextF (runV (baseF state inputs) l2 l2.length) (l1.take (i + 1)) := by
        unfold nextF
        rw [List.take_succ_eq_append_getElem hlt, List.map_append]
        rfl
      have el : (nextF (runV (baseF state inputs) l2 l2.length) (l1.take i)).length = i := by unfold nextF; rw [List.length_map, List.length_take]; omega
      have hgo : Ev (fun k => (inquestref07_Value.f k (runV (baseF state inputs) l2 l2.length) l1[i].f0).bind fun t634 => (if (nextF (runV (baseF state inputs) l2 l2.length) (l1.take i)).length < 140737488355328 then (inquestref07_Frame.l1 k (runV (baseF state inputs) l2 l2.length) (nextF (runV (baseF state inputs) l2 l2.length) (l1.take i) ++ [t634]) ((i + 1 : Nat) : Int) a0 l1 l2 l3 l4 l5) else (none))) (runV (baseF state inputs) l2 l2.length, nextF (runV (baseF state inputs) l2 l2.length) l1, 0) :=
        Ev.bind (value_ev hvt hx.1.1 hx.1.2) (Ev.ifp (by omega) (by rw [e]; exact ih (i + 1) (by omega) (by omega)))
      refine Ev.step (fun k => ?_) hgo
      simp only [inquestref07_Frame.l1]
      rw [if_pos (by omega), if_pos (by omega), rd41_at hlt, wrap_nat (by omega)]
  have key1 : ∀ (d i : Nat), l2.length - i = d → i ≤ l2.length → Ev (fun k => inquestref07_Frame.l0 k (runV (baseF state inputs) l2 i) (i : Int) a0 l1 l2 l3 l4 l5) (runV (baseF state inputs) l2 l2.length, nextF (runV (baseF state inputs) l2 l2.length) l1, 0) := by
    intro d
    induction d with
    | zero =>
      intro i hd hi
      obtain rfl : i = l2.length := by omega
      refine Ev.step (fun k => ?_) (key2 l1.length 0 (by omega) (by omega))
      simp only [inquestref07_Frame.l0]
      rw [if_neg (by omega)]
      rfl
    | succ d ih =>
      intro i hd hi
      have hlt : i < l2.length := by omega
      have hx := rd68_ok h2 (i : Int)
      have hil := run_len (base := baseF state inputs) (l2 := l2) i
      have hit := run_tri (l2 := l2) hb i
      have hgo : Ev (fun k => (inquestref07_Value.f k (runV (baseF state inputs) l2 i) ((rd_T68 l2 (i : Int)).f0)).bind fun t626 => ((inquestref07_Value.f k (runV (baseF state inputs) l2 i) ((rd_T68 l2 (i : Int)).f1)).bind fun t628 => ((inquestref06_And1.f k t626 t628).bind fun t629 => (if (runV (baseF state inputs) l2 i).length < 140737488355328 then (inquestref07_Frame.l0 k ((runV (baseF state inputs) l2 i) ++ [t629]) ((i + 1 : Nat) : Int) a0 l1 l2 l3 l4 l5) else (none))))) (runV (baseF state inputs) l2 l2.length, nextF (runV (baseF state inputs) l2 l2.length) l1, 0) :=
        Ev.bind (value_ev hit hx.1.1 hx.1.2) (Ev.bind (value_ev hit hx.2.1 hx.2.2) (Ev.bind (and1_ev _ _) (Ev.ifp (by omega) (ih (i + 1) (by omega) (by omega)))))
      refine Ev.step (fun k => ?_) hgo
      simp only [inquestref07_Frame.l0]
      rw [if_pos (by omega), if_pos (by omega), wrap_nat (by omega)]
  refine Ev.step (fun k => ?_) (key1 l2.length 0 (by omega) (by omega))
  simp only [inquestref07_Frame.j0]
  rw [if_neg (by decide)]
  show (if ([0] : List Int).length + inputs.length < 140737488355328 then _ else _) = _
  rw [if_pos (by simp; omega)]
  show (if (([0] : List Int) ++ inputs).length + state.length < 140737488355328 then _ else _) = _
  rw [if_pos (by simp; omega)]
  rfl
def okF (a0 : Int) (l1 : List S41) (l2 : List S68) (l3 l4 l5 state inputs : List Int) : Prop :=
  mayB a0 l1 l2 l3 l4 l5 = true ∧ (state.all (fun x => decide (x ≤ 2)) = true ∧ state.length = l1.length) ∧ (inputs.all (fun x => decide (x ≤ 2)) = true ∧ (inputs.length : Int) = a0)
instance : Decidable (okF a0 l1 l2 l3 l4 l5 state inputs) := by unfold okF; infer_instance
end
theorem all2_of {l : List Int} (hl : TriL l) : l.all (fun x => decide (x ≤ 2)) = true := List.all_eq_true.2 fun x hx => by
  have := hl x hx
  unfold Tri at this
  exact decide_eq_true (by omega)
theorem frame_ok {a0 : Int} {l1 : List S41} {l2 : List S68} {l3 l4 l5 state inputs : List Int} (hv : Valid a0 l1 l2 l3 l4 l5) (h1 : In41 l1) (h2 : In68 l2) (h3 : InU32 l3) (h4 : InU32 l4) (h5 : InU32 l5) (hs : TriL state) (hi : TriL inputs) (ls : state.length = l1.length) (li : (inputs.length : Int) = a0) :
    Ev (fun k => inquestref07_Frame.f k a0 l1 l2 l3 l4 l5 state inputs) (runV (baseF state inputs) l2 l2.length, nextF (runV (baseF state inputs) l2 l2.length) l1, 0) := by
  have hp := hv.pos
  have hle := hv.le
  refine Ev.bind (mayr_ev hv h1 h2 h3 h4 h5) (Ev.ifp rfl (Ev.bind (fine_ev (m := (l1.length : Int)) (by omega)) ?_))
  rw [all2_of hs, Bool.true_and, beq_iff_eq.2 (show (state.length : Int) = (l1.length : Int) by omega)]
  refine Ev.ifp rfl (Ev.bind (fine_ev (m := a0) (by omega)) ?_)
  rw [all2_of hi, Bool.true_and, beq_iff_eq.2 li]
  exact frame_run hv h1 h2 hs hi ls li
end Go.Proofs.Yteiiodlgdbiimaa.F
end
section
namespace Go.Proofs.Yteiiodlgdbiimaa.F
open Go.RowKit Go.Shelf Go.Proofs.YteiiodlgdbiimaaW.PrintWords Go.Proofs.YteiiodlgdbiimaaW.PrintLast Go.Proofs.YteiiodlgdbiimaaW.PrintMore
set_option linter.unusedVariables false
set_option linter.unusedSimpArgs false
def framesF (l1 : List S41) (l2 : List S68) : List Int → List (List Int) → List (List Int)
  | _, [] => []
  | s, r :: t => runV (baseF s r) l2 l2.length :: framesF l1 l2 (nextF (runV (baseF s r) l2 l2.length) l1) t
theorem frames_len (l1 : List S41) (l2 : List S68) : ∀ (fr : List (List Int)) (s : List Int), (framesF l1 l2 s fr).length = fr.length
  | [], _ => rfl
  | r :: t, s => by
    unfold framesF
    rw [List.length_cons, List.length_cons, frames_len l1 l2 t]
theorem next_tri {l1 : List S41} {V : List Int} (h : TriL V) : TriL (nextF V l1) := fun x hx => by
  obtain ⟨g, hg, rfl⟩ := List.mem_map.1 hx
  exact val_tri h _
theorem next_len (l1 : List S41) (V : List Int) : (nextF V l1).length = l1.length := by unfold nextF; rw [List.length_map]
theorem base_len (s r : List Int) : (baseF s r).length = 1 + r.length + s.length := by unfold baseF; rw [List.length_cons, List.length_append]; omega
theorem rd_map2 {α : Type} {f : α → Int} {l : List α} {i : Nat} (h : i < l.length) : rd (l.map f) (i : Int) = f l[i] := by
  unfold rd
  rw [List.getD_eq_getElem?_getD, Int.toNat_natCast, List.getElem?_map, List.getElem?_eq_getElem h]
  rfl
structure SimF (n : Nat) (tl V N : List Int) : Prop where
  len : V.length = n
  triV : TriL V
  triN : TriL N
  val : ∀ v : Nat, v < n → le3 (rd V (v : Int)) (valP N (rd tl (v : Int)))
  lit : ∀ x : Int, 0 ≤ x → x < 4294967296 → x / 2 < (n : Int) → le3 (valP V x) (valP N (litP tl x))
inductive All2 {α β : Type} (R : α → β → Prop) : List α → List β → Prop
  | nil : All2 R [] []
  | cons {a b l m} : R a b → All2 R l m → All2 R (a :: l) (b :: m)
theorem All2.len {α β : Type} {R : α → β → Prop} {l : List α} {m : List β} (h : All2 R l m) : l.length = m.length := by
  induction h with
  | nil => rfl
  | cons _ _ ih => rw [List.length_cons, List.length_cons, ih]
theorem All2.at {α β : Type} {R : α → β → Prop} {l : List α} {m : List β} (h : All2 R l m) : ∀ (i : Nat) (h1 : i < l.length) (h2 : i < m.length), R l[i] m[i] := by
  induction h with
  | nil => exact fun i h => absurd h (Nat.not_lt_zero i)
  | cons h _ ih =>
    intro i h1 h2
    cases i with
    | zero => exact h
    | succ i => exact ih i (by simpa using h1) (by simpa using h2)
theorem rd_le_of {s s' : List Int} (hl : s.length = s'.length) (h : ∀ i : Nat, i < s.length → le3 (rd s (i : Int)) (rd s' (i : Int))) (v : Nat) (r : List Int) (hv : v < (baseF s r).length) : le3 (rd (baseF s r) (v : Int)) (rd (baseF s' r) (v : Int)) := by
  rw [base_len] at hv
  have e : ∀ z : List Int, z.length = s.length → rd (baseF z r) (v : Int) = if v = 0 then 0 else if v < 1 + r.length then r.getD (v - 1) 0 else z.getD (v - 1 - r.length) 0 := fun z hz => by
    unfold baseF rd
    rw [Int.toNat_natCast]
    cases v with
    | zero => rfl
    | succ v =>
      rw [if_neg (by omega), List.getD_cons_succ, List.getD_eq_getElem?_getD]
      by_cases hlt : v < r.length
      · rw [if_pos (by omega), List.getElem?_append_left hlt, List.getD_eq_getElem?_getD]
        rfl
      · rw [if_neg (by omega), List.getElem?_append_right (by omega), List.getD_eq_getElem?_getD]
        rfl
  rw [e s rfl, e s' hl.symm]
  split
  · exact le3_refl _
  split
  · exact le3_refl _
  · have := h (v - 1 - r.length) (by omega)
    unfold rd at this
    rw [Int.toNat_natCast] at this
    exact this
section
variable {a0 : Int} {l1 : List S41} {l2 : List S68} {l3 l4 l5 is : List Int}
def Blank (is : List Int) : Prop := rd is 0 = 0 ∧ ∀ v : Nat, 0 < v → v < is.length → rd is (v : Int) = 2
theorem sim_frame (hv : Valid a0 l1 l2 l3 l4 l5) (h2 : In68 l2) (hti : TriL is) (hil : (is.length : Int) = 1 + a0 + (l1.length : Int) + (l2.length : Int)) (hbl : Blank is)
    {s s' r : List Int} (hs : TriL s) (hs' : TriL s') (hr : TriL r) (ls : s.length = l1.length) (ls' : s'.length = l1.length) (lr : (r.length : Int) = a0) (hle : ∀ i : Nat, i < s.length → le3 (rd s (i : Int)) (rd s' (i : Int))) :
    SimF is.length (wasW a0 l1 l2 is).1 (runV (baseF s r) l2 l2.length) (runV (baseF s' r) (wasW a0 l1 l2 is).2 (wasW a0 l1 l2 is).2.length) := by
  have hp := hv.pos
  have hll := hv.le
  have hb := base_tri hs hr
  have hb' := base_tri hs' hr
  have e1 := base_len s r
  have e2 := base_len s' r
  have hV0 := now_zero (gs := l2) hb (by omega) (rfl : rd (baseF s r) 0 = 0)
  have hG := (good_run2 (F := 1 + a0 + (l1.length : Int)) (b0 := baseF s r) (base := baseF s' r) (l2 := l2) (is := is) (by omega) hb (fun v hv => rd_le_of (by omega) hle v r hv) (by omega) hb' rfl ⟨by omega, by omega⟩ h2 (by omega) hti (by omega) (fun j hj => by
    have e : rd_T68 l2 (j : Int) = l2[j] := rd68_at hj
    have hg := hv.gate j hj
    rw [e]
    omega) (fun v hv hne => by
    by_cases h0 : v = 0
    · subst h0
      exact hV0.trans hbl.1.symm
    · exact absurd (hbl.2 v (by omega) hv) hne) is.length (Nat.le_refl _)).1
  have hvl := run_len (base := baseF s r) (l2 := l2) l2.length
  have hvt := run_tri (l2 := l2) hb l2.length
  have hnt := run_tri (l2 := (wasW a0 l1 l2 is).2) hb' (wasW a0 l1 l2 is).2.length
  refine ⟨by omega, hvt, hnt, hG.val, fun x h0 h1 hx => ?_⟩
  exact (hG.lit (by omega) hb' hvt (by omega) h0 h1 hx).1
theorem sim_run (hv : Valid a0 l1 l2 l3 l4 l5) (h1 : In41 l1) (h2 : In68 l2) (hti : TriL is) (hil : (is.length : Int) = 1 + a0 + (l1.length : Int) + (l2.length : Int)) (hbl : Blank is) :
    ∀ (fr : List (List Int)) (s s' : List Int), TriL s → TriL s' → s.length = l1.length → s'.length = l1.length → (∀ r ∈ fr, TriL r ∧ (r.length : Int) = a0) → (∀ i : Nat, i < s.length → le3 (rd s (i : Int)) (rd s' (i : Int))) →
    All2 (SimF is.length (wasW a0 l1 l2 is).1) (framesF l1 l2 s fr) (framesF (latM (wasW a0 l1 l2 is).1 l1) (wasW a0 l1 l2 is).2 s' fr)
  | [], s, s', _, _, _, _, _, _ => .nil
  | r :: t, s, s', hs, hs', ls, ls', hr, hle => by
    have hll := hv.le
    have hS := sim_frame hv h2 hti hil hbl hs hs' (hr r (List.mem_cons_self ..)).1 ls ls' (hr r (List.mem_cons_self ..)).2 hle
    unfold framesF
    refine .cons hS (sim_run hv h1 h2 hti hil hbl t _ _ (next_tri hS.triV) (next_tri hS.triN) (next_len _ _) (by rw [next_len]; unfold latM; rw [List.length_map]) (fun r hr' => hr r (List.mem_cons_of_mem _ hr')) (fun i hi => ?_))
    rw [next_len] at hi
    have hx := h1 _ (List.getElem_mem hi)
    have hn := hv.next i hi
    have q1 : ∀ V : List Int, rd (nextF V l1) (i : Int) = valP V l1[i].f0 := fun V => by unfold nextF; rw [rd_map2 hi]
    have q2 : ∀ N tl : List Int, rd (nextF N (latM tl l1)) (i : Int) = valP N (litP tl l1[i].f0) := fun N tl => by
      unfold nextF latM
      rw [List.map_map, rd_map2 hi]
      rfl
    rw [q1, q2]
    exact hS.lit _ hx.1.1 hx.1.2 (by omega)
end
def sureC (l5 : List Int) (v : Int) (V : List Int) : Int := l5.foldl (fun v c => andP v (valP V c)) v
def sureP (l4 l5 : List Int) (bad : Int) (runs : List (List Int)) : Int := runs.foldl (sureC l5) (valP (runs.getD (runs.length - 1) []) (rd l4 bad))
theorem sureC_mono {V N : List Int} (f : Int → Int) : ∀ (l5 : List Int) (x y : Int), le3 x y → (∀ c ∈ l5, le3 (valP V c) (valP N (f c))) → le3 (sureC l5 x V) (sureC (l5.map f) y N)
  | [], x, y, h, _ => h
  | c :: t, x, y, h, k => by
    show le3 (sureC t (andP x (valP V c)) V) (sureC (t.map f) (andP y (valP N (f c))) N)
    exact sureC_mono f t _ _ (and_mono h (k c (List.mem_cons_self ..))) (fun d hd => k d (List.mem_cons_of_mem _ hd))
theorem sureP_mono {R : List Int → List Int → Prop} (f : Int → Int) {l5 : List Int} (hR : ∀ V N, R V N → ∀ c ∈ l5, le3 (valP V c) (valP N (f c))) {A B : List (List Int)} (h : All2 R A B) : ∀ x y : Int, le3 x y → le3 (A.foldl (sureC l5) x) (B.foldl (sureC (l5.map f)) y) := by
  induction h with
  | nil => exact fun x y h => h
  | cons h _ ih =>
    intro x y k
    rw [List.foldl_cons, List.foldl_cons]
    exact ih _ _ (sureC_mono f l5 x y k (hR _ _ h))
def Bit (x : Int) : Prop := x = 0 ∨ x = 1
def BitL (l : List Int) : Prop := ∀ x ∈ l, Bit x
theorem BitL.tri {l : List Int} (h : BitL l) : TriL l := fun x hx => by
  rcases h x hx with e | e
  · exact .inl e
  · exact .inr (.inl e)
theorem rd_bit {l : List Int} (h : BitL l) (i : Int) : Bit (rd l i) := by
  unfold rd
  rw [List.getD_eq_getElem?_getD]
  cases hg : l[i.toNat]? with
  | none => exact .inl rfl
  | some v => exact h v (List.mem_of_getElem? hg)
theorem not_bit {x : Int} (h : Bit x) : Bit (notP x) := by
  rcases h with rfl | rfl
  · exact .inr rfl
  · exact .inl rfl
theorem and_bit {x y : Int} (h : Bit x) (k : Bit y) : Bit (andP x y) := by
  rcases h with rfl | rfl <;> rcases k with rfl | rfl
  · exact .inl rfl
  · exact .inl rfl
  · exact .inl rfl
  · exact .inr rfl
theorem val_bit {l : List Int} (h : BitL l) {x : Int} (hx : x / 2 < (l.length : Int)) : Bit (valP l x) := by
  rw [val_in h.tri hx]
  split
  · exact not_bit (rd_bit h _)
  · exact rd_bit h _
theorem le_bit {x y : Int} (h : le3 x y) (k : Bit x) : y = x := by
  rcases h with e | e
  · unfold Bit at k; omega
  · exact e
theorem base_bit {s r : List Int} (hs : BitL s) (hr : BitL r) : BitL (baseF s r) := fun x hx => by
  rcases List.mem_cons.1 hx with rfl | hx
  · exact .inl rfl
  rcases List.mem_append.1 hx with hx | hx
  · exact hr x hx
  · exact hs x hx
theorem run_bit {base : List Int} {l2 : List S68} (hb : BitL base) (hg : ∀ j : Nat, j < l2.length → (rd_T68 l2 (j : Int)).f0 / 2 < (base.length : Int) + (j : Int) ∧ (rd_T68 l2 (j : Int)).f1 / 2 < (base.length : Int) + (j : Int)) : ∀ k : Nat, k ≤ l2.length → BitL (runV base l2 k)
  | 0, _ => hb
  | k + 1, hk => fun x hx => by
    have ih := run_bit hb hg k (by omega)
    have hl := run_len (base := base) (l2 := l2) k
    have hj := hg k (by omega)
    unfold runV at hx
    rcases List.mem_append.1 hx with hx | hx
    · exact ih x hx
    · rw [List.mem_singleton.1 hx]
      exact and_bit (val_bit ih (by omega)) (val_bit ih (by omega))
section
variable {a0 : Int} {l1 : List S41} {l2 : List S68} {l3 l4 l5 : List Int}
theorem frame_bit (hv : Valid a0 l1 l2 l3 l4 l5) {s r : List Int} (hs : BitL s) (hr : BitL r) (ls : s.length = l1.length) (lr : (r.length : Int) = a0) : BitL (runV (baseF s r) l2 l2.length) := by
  have e1 := base_len s r
  refine run_bit (base_bit hs hr) (fun j hj => ?_) l2.length (Nat.le_refl _)
  have e : rd_T68 l2 (j : Int) = l2[j] := rd68_at hj
  have hg := hv.gate j hj
  rw [e]
  omega
theorem frames_bit (hv : Valid a0 l1 l2 l3 l4 l5) : ∀ (fr : List (List Int)) (s : List Int), BitL s → s.length = l1.length → (∀ r ∈ fr, BitL r ∧ (r.length : Int) = a0) → ∀ V ∈ framesF l1 l2 s fr, BitL V ∧ (V.length : Int) = 1 + a0 + (l1.length : Int) + (l2.length : Int)
  | [], s, _, _, _, V, hV => nomatch hV
  | r :: t, s, hs, ls, hr, V, hV => by
    have hB := frame_bit hv hs (hr r (List.mem_cons_self ..)).1 ls (hr r (List.mem_cons_self ..)).2
    have hl := run_len (base := baseF s r) (l2 := l2) l2.length
    have e1 := base_len s r
    have hr0 := (hr r (List.mem_cons_self ..)).2
    have hll := hv.le
    have hp := hv.pos
    unfold framesF at hV
    rcases List.mem_cons.1 hV with rfl | hV
    · exact ⟨hB, by omega⟩
    · refine frames_bit hv t _ (fun x hx => ?_) (next_len _ _) (fun r hr' => hr r (List.mem_cons_of_mem _ hr')) V hV
      obtain ⟨i, hi, rfl⟩ := List.mem_iff_getElem.1 hx
      unfold nextF at hi ⊢
      rw [List.getElem_map]
      rw [List.length_map] at hi
      have hn := hv.next i hi
      exact val_bit hB (by omega)
end
theorem sureC_bit {V : List Int} : ∀ (l5 : List Int) (x : Int), Bit x → (∀ c ∈ l5, Bit (valP V c)) → Bit (sureC l5 x V)
  | [], x, h, _ => h
  | c :: t, x, h, k => by
    show Bit (sureC t (andP x (valP V c)) V)
    exact sureC_bit t _ (and_bit h (k c (List.mem_cons_self ..))) (fun d hd => k d (List.mem_cons_of_mem _ hd))
theorem sureP_bit {l5 : List Int} : ∀ (A : List (List Int)) (x : Int), Bit x → (∀ V ∈ A, ∀ c ∈ l5, Bit (valP V c)) → Bit (A.foldl (sureC l5) x)
  | [], x, h, _ => h
  | V :: t, x, h, k => by
    rw [List.foldl_cons]
    exact sureP_bit t _ (sureC_bit l5 x h (k V (List.mem_cons_self ..))) (fun W hW => k W (List.mem_cons_of_mem _ hW))
end Go.Proofs.Yteiiodlgdbiimaa.F
end
section
namespace Go.Proofs.Yteiiodlgdbiimaa.F
open Go.RowKit Go.Shelf Go.Proofs.YteiiodlgdbiimaaW.PrintWords Go.Proofs.YteiiodlgdbiimaaW.PrintLast Go.Proofs.YteiiodlgdbiimaaW.PrintMore
set_option linter.unusedVariables false
set_option linter.unusedSimpArgs false
def blankL (n : Nat) : List Int := (List.replicate n (2 : Int)).set 0 0
theorem blank_len (n : Nat) : (blankL n).length = n := by unfold blankL; rw [List.length_set, List.length_replicate]
theorem blank_rd {n : Nat} (h : 0 < n) (v : Nat) (hv : v < n) : rd (blankL n) (v : Int) = if v = 0 then 0 else 2 := by
  have e : rd (blankL n) (v : Int) = ((List.replicate n (2 : Int)).set 0 0).getD v 0 := by unfold rd blankL; rw [Int.toNat_natCast]
  rw [e, List.getD_eq_getElem?_getD, List.getElem?_eq_getElem (by rw [List.length_set, List.length_replicate]; exact hv), Option.getD_some, List.getElem_set]
  by_cases h0 : v = 0
  · rw [if_pos h0.symm, if_pos h0]
  · rw [if_neg (fun e => h0 e.symm), if_neg h0, List.getElem_replicate]
theorem blank_tri (n : Nat) : TriL (blankL n) := fun x hx => by
  rcases List.mem_or_eq_of_mem_set hx with h | h
  · exact .inr (.inr (List.eq_of_mem_replicate h))
  · exact .inl h
theorem blank_blank {n : Nat} (h : 0 < n) : Blank (blankL n) := by
  refine ⟨(blank_rd h 0 h).trans (if_pos rfl), fun v h0 hv => ?_⟩
  rw [blank_len] at hv
  rw [blank_rd h v hv, if_neg (by omega)]
theorem blank_u8 (n : Nat) : u8s (blankL n) = true := by
  unfold u8s
  rw [List.all_eq_true]
  intro x hx
  have := blank_tri n x hx
  unfold Tri at this
  rw [Bool.and_eq_true, decide_eq_true_eq, decide_eq_true_eq]
  omega
theorem blank_all (n : Nat) : (blankL n).all (fun x => decide (x ≤ 2)) = true := List.all_eq_true.2 fun x hx => by
  have := blank_tri n x hx
  unfold Tri at this
  exact decide_eq_true (by omega)
section
variable {a0 : Int} {l1 : List S41} {l2 : List S68} {l3 l4 l5 : List Int}
def smallW (a0 : Int) (l1 : List S41) (l2 : List S68) : List Int × List S68 := wasW a0 l1 l2 (blankL (a0.toNat + l1.length + l2.length + 1))
theorem small_ok (h1 : In41 l1) (h2 : In68 l2) (h3 : InU32 l3) (h4 : InU32 l4) (h5 : InU32 l5) (n1 : l1.length ≤ 16384) (n2 : l2.length ≤ 16384) (hm : mayB a0 l1 l2 l3 l4 l5 = true) :
    strash_Small.f a0 l1 l2 l3 l4 l5 = some (a0, latM (smallW a0 l1 l2).1 l1, (smallW a0 l1 l2).2, l3.map (litP (smallW a0 l1 l2).1), l4.map (litP (smallW a0 l1 l2).1), l5.map (litP (smallW a0 l1 l2).1), (smallW a0 l1 l2).1, 0) := by
  have hok : okIn l1 l2 = true := okIn_of h1 h2 (by omega) (by omega)
  obtain ⟨hv, hV⟩ := valid_of_may hok hm
  have hp := hv.pos
  have hle := hv.le
  have w1 : wrap64 (a0 + (l1.length : Int)) = a0 + (l1.length : Int) := wrap64_id (by omega) (by omega)
  have w2 : wrap64 (a0 + (l1.length : Int) + (l2.length : Int)) = a0 + (l1.length : Int) + (l2.length : Int) := wrap64_id (by omega) (by omega)
  have w3 : wrap64 (a0 + (l1.length : Int) + (l2.length : Int) + 1) = a0 + (l1.length : Int) + (l2.length : Int) + 1 := wrap64_id (by omega) (by omega)
  obtain ⟨n, hn⟩ : ∃ n : Nat, n = a0.toNat + l1.length + l2.length + 1 := ⟨_, rfl⟩
  have en : a0 + (l1.length : Int) + (l2.length : Int) + 1 = (n : Int) := by omega
  have hu8' : u8s (l1.map (·.f1)) = true := by
    unfold u8s
    rw [List.all_eq_true]
    intro x hx
    obtain ⟨g, hg, rfl⟩ := List.mem_map.1 hx
    have := h1 g hg
    rw [Bool.and_eq_true, decide_eq_true_eq, decide_eq_true_eq]
    omega
  have hW : strash_With.f a0 l1 l2 l3 l4 l5 (blankL n) = some (a0, latM (wasW a0 l1 l2 (blankL n)).1 l1, (wasW a0 l1 l2 (blankL n)).2, l3.map (litP (wasW a0 l1 l2 (blankL n)).1), l4.map (litP (wasW a0 l1 l2 (blankL n)).1), l5.map (litP (wasW a0 l1 l2 (blankL n)).1), (wasW a0 l1 l2 (blankL n)).1, 0) := by
    unfold strash_With.f
    rw [if_pos ⟨hok, u32s_of h3, u32s_of h4, u32s_of h5, blank_u8 n, hu8'⟩, if_pos ⟨hm, by rw [blank_len]; omega, (blank_blank (by omega)).1, blank_all n⟩]
    rfl
  unfold smallW
  rw [← hn]
  unfold strash_Small.f
  have e1 : norm_May.f a0 l1 l2 l3 l4 l5 = some true := by unfold norm_May.f; rw [hm]
  have e2 : norm_Vars.f a0 l1 l2 l3 l4 l5 = some (a0 + (l1.length : Int) + (l2.length : Int)) := by
    unfold norm_Vars.f norm_vars.f
    rw [e1, Option.bind_some, if_pos rfl, w1, w2]
    rfl
  have e3 : slices_Repeat_uint8_uint8.f ([2] : List Int) (n : Int) = some (List.replicate n 2) := by
    show (if 0 ≤ (n : Int) ∧ (n : Int) ≤ 1000000 then some (List.replicate (n : Int).toNat (2 : Int)) else none) = _
    rw [if_pos ⟨by omega, by omega⟩, Int.toNat_natCast]
  rw [e1, Option.bind_some, if_pos rfl, e2, Option.bind_some, w3, en, e3, Option.bind_some, List.length_replicate, if_pos (by omega)]
  show (strash_With.f a0 l1 l2 l3 l4 l5 (blankL n)).bind _ = _
  rw [hW]
  rfl
end
end Go.Proofs.Yteiiodlgdbiimaa.F
end
