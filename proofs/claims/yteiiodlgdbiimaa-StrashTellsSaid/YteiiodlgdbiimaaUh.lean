/- What the proof of the law StrashTells needs, part 8: the walks of the functions that it reaches, and the plain words on what these compute. -/
import Derived.Deep.RegionLaw
import Derived.IntWalk
import Derived.Laws.BitsAllLaws
import Derived.Laws.CopyOwn
import Derived.Shelf.Abstract
import Derived.StillTailTactics
import Derived.Test.YteiiodlgdbiimaaUg
section
namespace Go.Proofs.Yteiiodlgdbiimaa.F
open Go.RowKit Go.Shelf Go.Proofs.YteiiodlgdbiimaaW.PrintWords Go.Proofs.YteiiodlgdbiimaaW.PrintLast Go.Proofs.YteiiodlgdbiimaaW.PrintMore
set_option linter.unusedVariables false
set_option linter.unusedSimpArgs false
theorem lits_ev {l : List Int} {V : Int} (hu : InU32 l) (hl : l.length ≤ 1024) (hb : ∀ x ∈ l, wrap64 (x / 2) ≤ V) : Ev (fun k => inquestref03_lits.f k l V) true := by
  have key : ∀ (d i : Nat), l.length - i = d → i ≤ l.length → Ev (fun k => inquestref03_lits.l0 k l V (i : Int)) true := by
    intro d
    induction d with
    | zero =>
      intro i hd hi
      refine Ev.step (f := fun _ => some true) (fun k => ?_) (Ev.now true)
      simp only [inquestref03_lits.l0]
      rw [if_neg (by omega), decide_eq_true (by omega)]
    | succ d ih =>
      intro i hd hi
      have hlt : i < l.length := by omega
      have hx := hu _ (List.getElem_mem hlt)
      have hy := hb _ (List.getElem_mem hlt)
      rw [wrap64_id (by omega) (by omega)] at hy
      refine Ev.step (fun k => ?_) (ih (i + 1) (by omega) (by omega))
      simp only [inquestref03_lits.l0]
      rw [if_pos (by omega), if_pos (by omega), rd_at hlt, half_u32 hx.1 hx.2, if_neg (by omega), wrap_nat (by omega)]
  exact key l.length 0 (by omega) (by omega)
section
variable {a0 : Int} {l1 : List S41} {l2 : List S68} {l3 l4 l5 : List Int}
theorem mayr_ev (hv : Valid a0 l1 l2 l3 l4 l5) (h1 : In41 l1) (h2 : In68 l2) (h3 : InU32 l3) (h4 : InU32 l4) (h5 : InU32 l5) : Ev (fun k => inquestref03_May.f k a0 l1 l2 l3 l4 l5) true := by
  have hp := hv.pos
  have hle := hv.le
  obtain ⟨V, hV⟩ : ∃ V, a0 + (l1.length : Int) + (l2.length : Int) = V := ⟨_, rfl⟩
  have hend : Ev (fun k => (inquestref03_lits.f k l3 V).bind fun t166 => (if t166 = true then ((inquestref03_lits.f k l4 V).bind fun t167 => (if t167 = true then ((inquestref03_lits.f k l5 V).bind fun t168 => (some t168)) else (some false))) else (some false))) true := by
    refine Ev.bind (lits_ev h3 hv.outs.1 (by rw [← hV]; exact hv.outs.2)) (Ev.ifp rfl ?_)
    refine Ev.bind (lits_ev h4 hv.bads.1 (by rw [← hV]; exact hv.bads.2)) (Ev.ifp rfl ?_)
    exact Ev.bind (lits_ev h5 hv.cons.1 (by rw [← hV]; exact hv.cons.2)) (Ev.now true)
  have key2 : ∀ (d i : Nat), l2.length - i = d → i ≤ l2.length → Ev (fun k => inquestref03_May.l1 k V (i : Int) a0 l1 l2 l3 l4 l5) true := by
    intro d
    induction d with
    | zero =>
      intro i hd hi
      refine Ev.step (fun k => ?_) hend
      simp only [inquestref03_May.l1]
      rw [if_neg (by omega)]
    | succ d ih =>
      intro i hd hi
      have hlt : i < l2.length := by omega
      have hx := h2 _ (List.getElem_mem hlt)
      have hy := hv.gate i hlt
      refine Ev.step (fun k => ?_) (ih (i + 1) (by omega) (by omega))
      simp only [inquestref03_May.l1]
      rw [if_pos (by omega), if_pos (by omega), rd68_at hlt, half_u32 hx.1.1 hx.1.2, wrap64_id (x := a0 + (l1.length : Int)) (by omega) (by omega), wrap64_id (x := a0 + (l1.length : Int) + 1) (by omega) (by omega), wrap64_id (x := a0 + (l1.length : Int) + 1 + (i : Int)) (by omega) (by omega), if_neg (by omega), if_neg (by omega), wrap_nat (by omega)]
  have key1 : ∀ (d i : Nat), l1.length - i = d → i ≤ l1.length → Ev (fun k => inquestref03_May.l0 k V (i : Int) a0 l1 l2 l3 l4 l5) true := by
    intro d
    induction d with
    | zero =>
      intro i hd hi
      refine Ev.step (fun k => ?_) (key2 l2.length 0 (by omega) (by omega))
      simp only [inquestref03_May.l0]
      rw [if_neg (by omega)]
      rfl
    | succ d ih =>
      intro i hd hi
      have hlt : i < l1.length := by omega
      have hx := h1 _ (List.getElem_mem hlt)
      have hy := hv.next i hlt
      have hz := hv.reset i hlt
      refine Ev.step (fun k => ?_) (ih (i + 1) (by omega) (by omega))
      simp only [inquestref03_May.l0]
      rw [if_pos (by omega), if_pos (by omega), rd41_at hlt, half_u32 hx.1.1 hx.1.2, if_neg (by omega), if_neg (by omega), wrap_nat (by omega)]
  have hj : Ev (fun k => inquestref03_May.j0 k false a0 l1 l2 l3 l4 l5) true := by
    refine Ev.step (fun k => ?_) (key1 l1.length 0 (by omega) (by omega))
    simp only [inquestref03_May.j0]
    rw [if_neg (by decide), wrap64_id (x := a0 + (l1.length : Int)) (by omega) (by omega), wrap64_id (x := a0 + (l1.length : Int) + (l2.length : Int)) (by omega) (by omega), hV, if_neg (by omega)]
    rfl
  refine Ev.congr (fun k => ?_) hj
  unfold inquestref03_May.f
  rw [if_neg (by omega), if_neg (by omega), if_neg (by omega), decide_eq_false (by omega)]
end
end Go.Proofs.Yteiiodlgdbiimaa.F
end
section
namespace Go.Proofs.Yteiiodlgdbiimaa.F
open Go.RowKit Go.Shelf Go.Proofs.YteiiodlgdbiimaaW.PrintWords Go.Proofs.YteiiodlgdbiimaaW.PrintLast Go.Proofs.YteiiodlgdbiimaaW.PrintMore
set_option linter.unusedVariables false
set_option linter.unusedSimpArgs false
theorem wrap_nat' {i : Nat} (h : i + 1 < 9223372036854775808) : wrap64 ((i : Int) + 1) = ((i + 1 : Nat) : Int) := by
  have e : ((i + 1 : Nat) : Int) = (i : Int) + 1 := by push_cast; rfl
  rw [e]
  exact wrap64_id (by omega) (by omega)
theorem drop_at {α : Type} {l : List α} {i : Nat} (h : i < l.length) : l.drop i = l[i] :: l.drop (i + 1) := List.drop_eq_getElem_cons h
theorem lits_all {l : List Int} {V : Int} (hu : InU32 l) (hl : l.length < 9223372036854775808) : Ev (fun k => inquestref03_lits.f k l V) (l.all (fun x => decide (x / 2 ≤ V)) && decide ((l.length : Int) ≤ 1024)) := by
  have key : ∀ (d i : Nat), l.length - i = d → i ≤ l.length → Ev (fun k => inquestref03_lits.l0 k l V (i : Int)) ((l.drop i).all (fun x => decide (x / 2 ≤ V)) && decide ((l.length : Int) ≤ 1024)) := by
    intro d
    induction d with
    | zero =>
      intro i hd hi
      obtain rfl : i = l.length := by omega
      refine Ev.step (f := fun _ => some (decide ((l.length : Int) ≤ 1024))) (fun k => ?_) (by rw [List.drop_length]; exact Ev.now _)
      simp only [inquestref03_lits.l0]
      rw [if_neg (by omega)]
    | succ d ih =>
      intro i hd hi
      have hlt : i < l.length := by omega
      have hx := hu _ (List.getElem_mem hlt)
      rw [drop_at hlt, List.all_cons]
      by_cases hc : l[i] / 2 ≤ V
      · rw [decide_eq_true hc, Bool.true_and]
        refine Ev.step (fun k => ?_) (ih (i + 1) (by omega) (by omega))
        simp only [inquestref03_lits.l0]
        rw [if_pos (by omega), if_pos (by omega), rd_at hlt, half_u32 hx.1 hx.2, if_neg (by omega), wrap_nat' (by omega)]
      · rw [decide_eq_false hc, Bool.false_and, Bool.false_and]
        refine Ev.step (f := fun _ => some false) (fun k => ?_) (Ev.now _)
        simp only [inquestref03_lits.l0]
        rw [if_pos (by omega), if_pos (by omega), rd_at hlt, half_u32 hx.1 hx.2, if_pos (by omega)]
  exact key l.length 0 (by omega) (by omega)
def gok : Int → List S68 → Bool
  | _, [] => true
  | o, g :: r => decide (g.f0 / 2 < o) && decide (g.f1 ≤ g.f0) && gok (o + 1) r
theorem gok_is : ∀ (l : List S68) (o : Int), 0 ≤ o → o + (l.length : Int) < 4294967296 → gatesOk o l = gok (o + 1) l
  | [], _, _, _ => rfl
  | g :: r, o, h0, h1 => by
    rw [List.length_cons] at h1
    unfold gatesOk gok
    rw [u32_id (by omega) (by omega), gok_is r (o + 1) (by omega) (by omega)]
    have e1 : (!decide (o + 1 ≤ g.f0 / 2)) = decide (g.f0 / 2 < o + 1) := by
      by_cases h : o + 1 ≤ g.f0 / 2
      · rw [decide_eq_true h, decide_eq_false (by omega)]; rfl
      · rw [decide_eq_false h, decide_eq_true (by omega)]; rfl
    have e2 : (!decide (g.f0 < g.f1)) = decide (g.f1 ≤ g.f0) := by
      by_cases h : g.f0 < g.f1
      · rw [decide_eq_true h, decide_eq_false (by omega)]; rfl
      · rw [decide_eq_false h, decide_eq_true (by omega)]; rfl
    rw [e1, e2]
section
variable {a0 : Int} {l1 : List S41} {l2 : List S68} {l3 l4 l5 : List Int}
theorem list_is {V : Int} {l : List Int} (hu : InU32 l) : listOk V l = (l.all (fun x => decide (x / 2 ≤ V)) && decide ((l.length : Int) ≤ 1024)) := by
  unfold listOk
  have e1 : (!decide (1024 < (l.length : Int))) = decide ((l.length : Int) ≤ 1024) := by
    by_cases h : 1024 < (l.length : Int)
    · rw [decide_eq_true h, decide_eq_false (by omega)]; rfl
    · rw [decide_eq_false h, decide_eq_true (by omega)]; rfl
  have e2 : ∀ l : List Int, InU32 l → (!l.any (beyW V)) = l.all (fun x => decide (x / 2 ≤ V)) := by
    intro l hu
    induction l with
    | nil => rfl
    | cons x r ih =>
      have hx := hu x (List.mem_cons_self ..)
      rw [List.any_cons, List.all_cons, Bool.not_or, ih (fun y hy => hu y (List.mem_cons_of_mem _ hy))]
      congr 1
      unfold beyW
      rw [wrap64_id (by omega) (by omega)]
      by_cases h : V < x / 2
      · rw [decide_eq_true h, decide_eq_false (by omega)]; rfl
      · rw [decide_eq_false h, decide_eq_true (by omega)]; rfl
  rw [e1, e2 l hu, Bool.and_comm]
theorem mayr_all (ha : -9223372036854775808 ≤ a0 ∧ a0 < 9223372036854775808) (n1 : l1.length ≤ 16384) (n2 : l2.length ≤ 16384) (n3 : l3.length < 9223372036854775808) (n4 : l4.length < 9223372036854775808) (n5 : l5.length < 9223372036854775808)
  (h1 : In41 l1) (h2 : In68 l2) (h3 : InU32 l3) (h4 : InU32 l4) (h5 : InU32 l5) : Ev (fun k => inquestref03_May.f k a0 l1 l2 l3 l4 l5) (mayB a0 l1 l2 l3 l4 l5) := by
 have hjt : Ev (fun k => inquestref03_May.j0 k true a0 l1 l2 l3 l4 l5) false := by
  refine Ev.step (f := fun _ => some false) (fun k => ?_) (Ev.now false)
  simp only [inquestref03_May.j0]
  rw [if_pos trivial]
 by_cases g1 : a0 < 0
 ·
  have e : mayB a0 l1 l2 l3 l4 l5 = false := by unfold mayB; rw [decide_eq_true g1]; simp
  rw [e]
  refine Ev.congr (fun k => ?_) hjt
  unfold inquestref03_May.f
  rw [if_pos g1]
 by_cases g2 : 16384 < a0
 ·
  have e : mayB a0 l1 l2 l3 l4 l5 = false := by unfold mayB; rw [decide_eq_true g2]; simp
  rw [e]
  refine Ev.congr (fun k => ?_) hjt
  unfold inquestref03_May.f
  rw [if_neg g1, if_pos g2]
 have hV := varsW_id (a0 := a0) (n := l1.length) (m := l2.length) (by omega) (by omega) (by omega) (by omega)
 obtain ⟨V, eV⟩ : ∃ V, a0 + (l1.length : Int) + (l2.length : Int) = V := ⟨_, rfl⟩
 rw [eV] at hV
 have hw : wrap64 ((wrap64 (a0 + (l1.length : Int))) + (l2.length : Int)) = V := hV
 have hf : ∀ b, Ev (fun k => inquestref03_May.j0 k false a0 l1 l2 l3 l4 l5) b → Ev (fun k => inquestref03_May.f k a0 l1 l2 l3 l4 l5) b := fun b h => by
  refine Ev.congr (fun k => ?_) h
  unfold inquestref03_May.f
  rw [if_neg g1, if_neg g2, if_neg (by omega), decide_eq_false (by omega)]
 by_cases g3 : 16384 < V
 ·
  have e : mayB a0 l1 l2 l3 l4 l5 = false := by unfold mayB; rw [hV, decide_eq_true g3]; simp
  rw [e]
  refine hf _ (Ev.step (f := fun _ => some false) (fun k => ?_) (Ev.now false))
  simp only [inquestref03_May.j0]
  rw [if_neg (by decide), hw, if_pos g3]
 have hend : Ev (fun k => (inquestref03_lits.f k l3 V).bind fun t166 => (if t166 = true then ((inquestref03_lits.f k l4 V).bind fun t167 => (if t167 = true then ((inquestref03_lits.f k l5 V).bind fun t168 => (some t168)) else (some false))) else (some false))) (listOk V l3 && listOk V l4 && listOk V l5) := by
  rw [list_is h3, list_is h4, list_is h5]
  refine Ev.bind (lits_all h3 n3) ?_
  by_cases c3 : (l3.all (fun x => decide (x / 2 ≤ V)) && decide ((l3.length : Int) ≤ 1024)) = true
  ·
   rw [c3]
   refine Ev.ifp rfl (Ev.bind (lits_all h4 n4) ?_)
   by_cases c4 : (l4.all (fun x => decide (x / 2 ≤ V)) && decide ((l4.length : Int) ≤ 1024)) = true
   ·
    rw [c4]
    exact Ev.ifp rfl (Ev.bind (lits_all h5 n5) (Ev.now _))
   ·
    rw [Bool.not_eq_true] at c4
    rw [c4]
    exact Ev.ifn (by decide) (Ev.now _)
  ·
   rw [Bool.not_eq_true] at c3
   rw [c3]
   exact Ev.ifn (by decide) (Ev.now _)
 generalize hE : (listOk V l3 && listOk V l4 && listOk V l5) = E at hend
 have key2 : ∀ (d i : Nat), l2.length - i = d → i ≤ l2.length → Ev (fun k => inquestref03_May.l1 k V (i : Int) a0 l1 l2 l3 l4 l5) (gok (a0 + (l1.length : Int) + 1 + (i : Int)) (l2.drop i) && E) := by
  intro d
  induction d with
  | zero =>
   intro i hd hi
   obtain rfl : i = l2.length := by omega
   rw [List.drop_length]
   refine Ev.step (fun k => ?_) (show Ev _ (true && E) from by rw [Bool.true_and]; exact hend)
   simp only [inquestref03_May.l1]
   rw [if_neg (by omega)]
  | succ d ih =>
   intro i hd hi
   have hlt : i < l2.length := by omega
   have hx := h2 _ (List.getElem_mem hlt)
   have e1 : a0 + (l1.length : Int) + 1 + (i : Int) + 1 = a0 + (l1.length : Int) + 1 + ((i + 1 : Nat) : Int) := by omega
   rw [drop_at hlt]
   unfold gok
   by_cases c1 : l2[i].f0 / 2 < a0 + (l1.length : Int) + 1 + (i : Int)
   ·
    by_cases c2 : l2[i].f1 ≤ l2[i].f0
    ·
     rw [decide_eq_true c1, decide_eq_true c2, Bool.true_and, Bool.true_and, e1]
     refine Ev.step (fun k => ?_) (ih (i + 1) (by omega) (by omega))
     simp only [inquestref03_May.l1]
     rw [if_pos (by omega), if_pos (by omega), rd68_at hlt, half_u32 hx.1.1 hx.1.2, wrap64_id (x := a0 + (l1.length : Int)) (by omega) (by omega), wrap64_id (x := a0 + (l1.length : Int) + 1) (by omega) (by omega), wrap64_id (x := a0 + (l1.length : Int) + 1 + (i : Int)) (by omega) (by omega), if_neg (by omega), if_neg (by omega), wrap_nat (by omega)]
    ·
     rw [decide_eq_true c1, decide_eq_false c2, Bool.true_and, Bool.false_and, Bool.false_and]
     refine Ev.step (f := fun _ => some false) (fun k => ?_) (Ev.now false)
     simp only [inquestref03_May.l1]
     rw [if_pos (by omega), if_pos (by omega), rd68_at hlt, half_u32 hx.1.1 hx.1.2, wrap64_id (x := a0 + (l1.length : Int)) (by omega) (by omega), wrap64_id (x := a0 + (l1.length : Int) + 1) (by omega) (by omega), wrap64_id (x := a0 + (l1.length : Int) + 1 + (i : Int)) (by omega) (by omega), if_neg (by omega), if_pos (by omega)]
   ·
    rw [decide_eq_false c1, Bool.false_and, Bool.false_and, Bool.false_and]
    refine Ev.step (f := fun _ => some false) (fun k => ?_) (Ev.now false)
    simp only [inquestref03_May.l1]
    rw [if_pos (by omega), if_pos (by omega), rd68_at hlt, half_u32 hx.1.1 hx.1.2, wrap64_id (x := a0 + (l1.length : Int)) (by omega) (by omega), wrap64_id (x := a0 + (l1.length : Int) + 1) (by omega) (by omega), wrap64_id (x := a0 + (l1.length : Int) + 1 + (i : Int)) (by omega) (by omega), if_pos (by omega)]
 have key1 : ∀ (d i : Nat), l1.length - i = d → i ≤ l1.length → Ev (fun k => inquestref03_May.l0 k V (i : Int) a0 l1 l2 l3 l4 l5) ((l1.drop i).all (latchOk V) && (gok (a0 + (l1.length : Int) + 1) l2 && E)) := by
  intro d
  induction d with
  | zero =>
   intro i hd hi
   obtain rfl : i = l1.length := by omega
   rw [List.drop_length]
   have := key2 l2.length 0 (by omega) (by omega)
   rw [List.drop_zero] at this
   refine Ev.step (fun k => ?_) (show Ev _ (true && (gok (a0 + (l1.length : Int) + 1) l2 && E)) from by rw [Bool.true_and]; simpa using this)
   simp only [inquestref03_May.l0]
   rw [if_neg (by omega)]
  | succ d ih =>
   intro i hd hi
   have hlt : i < l1.length := by omega
   have hx := h1 _ (List.getElem_mem hlt)
   rw [drop_at hlt, List.all_cons]
   have el : latchOk V l1[i] = (!decide (2 < l1[i].f1) && !decide (V < l1[i].f0 / 2)) := by
    unfold latchOk beyW
    rw [wrap64_id (by omega) (by omega)]
   rw [el]
   by_cases c1 : V < l1[i].f0 / 2
   ·
    rw [decide_eq_true c1, Bool.not_true, Bool.and_false, Bool.false_and, Bool.false_and]
    refine Ev.step (f := fun _ => some false) (fun k => ?_) (Ev.now false)
    simp only [inquestref03_May.l0]
    rw [if_pos (by omega), if_pos (by omega), rd41_at hlt, half_u32 hx.1.1 hx.1.2, if_pos c1]
   ·
    by_cases c2 : 2 < l1[i].f1
    ·
     rw [decide_eq_true c2, Bool.not_true, Bool.false_and, Bool.false_and, Bool.false_and]
     refine Ev.step (f := fun _ => some false) (fun k => ?_) (Ev.now false)
     simp only [inquestref03_May.l0]
     rw [if_pos (by omega), if_pos (by omega), rd41_at hlt, half_u32 hx.1.1 hx.1.2, if_neg c1, if_pos c2]
    ·
     rw [decide_eq_false c1, decide_eq_false c2, Bool.not_false, Bool.true_and, Bool.true_and]
     refine Ev.step (fun k => ?_) (ih (i + 1) (by omega) (by omega))
     simp only [inquestref03_May.l0]
     rw [if_pos (by omega), if_pos (by omega), rd41_at hlt, half_u32 hx.1.1 hx.1.2, if_neg c1, if_neg c2, wrap_nat (by omega)]
 have hm : mayB a0 l1 l2 l3 l4 l5 = (l1.all (latchOk V) && (gok (a0 + (l1.length : Int) + 1) l2 && E)) := by
  unfold mayB
  rw [hV, decide_eq_false g1, decide_eq_false g2, decide_eq_false g3, wrap64_id (x := a0 + (l1.length : Int)) (by omega) (by omega), u32_id (by omega) (by omega), gok_is l2 _ (by omega) (by omega), ← hE]
  generalize listOk V l3 = x
  generalize listOk V l4 = y
  generalize listOk V l5 = z
  generalize l1.all (latchOk V) = u
  generalize gok (a0 + (l1.length : Int) + 1) l2 = v
  cases x <;> cases y <;> cases z <;> cases u <;> cases v <;> rfl
 have := key1 l1.length 0 (by omega) (by omega)
 rw [List.drop_zero, ← hm] at this
 refine hf _ (Ev.step (fun k => ?_) this)
 simp only [inquestref03_May.j0]
 rw [if_neg (by decide), hw, if_neg (by omega)]
 rfl
end
end Go.Proofs.Yteiiodlgdbiimaa.F
end
section
namespace Go.Proofs.Yteiiodlgdbiimaa.F
open Go.RowKit Go.Shelf Go.Proofs.YteiiodlgdbiimaaW.PrintWords Go.Proofs.YteiiodlgdbiimaaW.PrintLast Go.Proofs.YteiiodlgdbiimaaW.PrintMore
set_option linter.unusedVariables false
set_option linter.unusedSimpArgs false
section
variable {F : Int} {tl : List Int} {gs : List S68} {k : Nat}
end
def latM (tl : List Int) (l1 : List S41) : List S41 := l1.map (fun g => ⟨litP tl g.f0, g.f1⟩)
end Go.Proofs.Yteiiodlgdbiimaa.F
end
section
namespace Go.Proofs.Yteiiodlgdbiimaa.F
open Go.RowKit Go.Shelf Go.Proofs.YteiiodlgdbiimaaW.PrintWords Go.Proofs.YteiiodlgdbiimaaW.PrintLast Go.Proofs.YteiiodlgdbiimaaW.PrintMore
set_option linter.unusedVariables false
set_option linter.unusedSimpArgs false
def Tri (x : Int) : Prop := x = 0 ∨ x = 1 ∨ x = 2
def TriL (l : List Int) : Prop := ∀ x ∈ l, Tri x
end Go.Proofs.Yteiiodlgdbiimaa.F
end
section
namespace Go.Proofs.Yteiiodlgdbiimaa.F
open Go.RowKit Go.Proofs.YteiiodlgdbiimaaW.PrintWords Go.Proofs.YteiiodlgdbiimaaW.PrintLast Go.Proofs.YteiiodlgdbiimaaW.PrintMore
attribute [local go_sem] max2_int min2_int max_two min_two max_three min_three max_four min_four
set_option linter.unusedVariables false
set_option linter.unusedSimpArgs false
end Go.Proofs.Yteiiodlgdbiimaa.F
end
section
namespace Go.Proofs.Yteiiodlgdbiimaa.F
open Go.RowKit Go.Proofs.YteiiodlgdbiimaaW.PrintWords Go.Proofs.YteiiodlgdbiimaaW.PrintLast Go.Proofs.YteiiodlgdbiimaaW.PrintMore
attribute [local go_sem] max2_int min2_int max_two min_two max_three min_three max_four min_four
set_option linter.unusedVariables false
set_option linter.unusedSimpArgs false
end Go.Proofs.Yteiiodlgdbiimaa.F
end
section
namespace Go.Proofs.Yteiiodlgdbiimaa.F
open Go.RowKit Go.Proofs.YteiiodlgdbiimaaW.PrintWords Go.Proofs.YteiiodlgdbiimaaW.PrintLast Go.Proofs.YteiiodlgdbiimaaW.PrintMore
attribute [local go_sem] max2_int min2_int max_two min_two max_three min_three max_four min_four
set_option linter.unusedVariables false
set_option linter.unusedSimpArgs false
end Go.Proofs.Yteiiodlgdbiimaa.F
end
section
namespace Go.Proofs.Yteiiodlgdbiimaa.F
open Go.RowKit Go.Proofs.YteiiodlgdbiimaaW.PrintWords Go.Proofs.YteiiodlgdbiimaaW.PrintLast Go.Proofs.YteiiodlgdbiimaaW.PrintMore
attribute [local go_sem] max2_int min2_int max_two min_two max_three min_three max_four min_four
set_option linter.unusedVariables false
set_option linter.unusedSimpArgs false
end Go.Proofs.Yteiiodlgdbiimaa.F
end
section
namespace Go.Proofs.Yteiiodlgdbiimaa.F
open Go.RowKit Go.Proofs.YteiiodlgdbiimaaW.PrintWords Go.Proofs.YteiiodlgdbiimaaW.PrintLast Go.Proofs.YteiiodlgdbiimaaW.PrintMore
attribute [local go_sem] max2_int min2_int max_two min_two max_three min_three max_four min_four
set_option linter.unusedVariables false
set_option linter.unusedSimpArgs false
end Go.Proofs.Yteiiodlgdbiimaa.F
end
section
namespace Go.Proofs.Yteiiodlgdbiimaa.F
open Go.RowKit Go.Shelf Go.Proofs.YteiiodlgdbiimaaW.PrintWords Go.Proofs.YteiiodlgdbiimaaW.PrintLast Go.Proofs.YteiiodlgdbiimaaW.PrintMore
set_option linter.unusedVariables false
set_option linter.unusedSimpArgs false
section
variable {a0 : Int} {l1 : List S41} {l2 : List S68} {l3 l4 l5 state inputs : List Int}
def okF (a0 : Int) (l1 : List S41) (l2 : List S68) (l3 l4 l5 state inputs : List Int) : Prop :=
  mayB a0 l1 l2 l3 l4 l5 = true ∧ (state.all (fun x => decide (x ≤ 2)) = true ∧ state.length = l1.length) ∧ (inputs.all (fun x => decide (x ≤ 2)) = true ∧ (inputs.length : Int) = a0)
instance : Decidable (okF a0 l1 l2 l3 l4 l5 state inputs) := by unfold okF; infer_instance
end
end Go.Proofs.Yteiiodlgdbiimaa.F
end
section
namespace Go.Proofs.Yteiiodlgdbiimaa.F
open Go.RowKit Go.Shelf Go.Proofs.YteiiodlgdbiimaaW.PrintWords Go.Proofs.YteiiodlgdbiimaaW.PrintLast Go.Proofs.YteiiodlgdbiimaaW.PrintMore
set_option linter.unusedVariables false
set_option linter.unusedSimpArgs false
section
variable {a0 : Int} {l1 : List S41} {l2 : List S68} {l3 l4 l5 is : List Int}
def Blank (is : List Int) : Prop := rd is 0 = 0 ∧ ∀ v : Nat, 0 < v → v < is.length → rd is (v : Int) = 2
end
section
variable {a0 : Int} {l1 : List S41} {l2 : List S68} {l3 l4 l5 : List Int}
end
end Go.Proofs.Yteiiodlgdbiimaa.F
end
section
namespace Go.Proofs.Yteiiodlgdbiimaa.F
open Go.RowKit Go.Proofs.YteiiodlgdbiimaaW.PrintWords Go.Proofs.YteiiodlgdbiimaaW.PrintLast Go.Proofs.YteiiodlgdbiimaaW.PrintMore
attribute [local go_sem] max2_int min2_int max_two min_two max_three min_three max_four min_four
set_option linter.unusedVariables false
set_option linter.unusedSimpArgs false
def bits_Mul64.f (a0 : Int) (a1 : Int) : Option (Int × Int) := some (IntKind.u64.wrap ((IntKind.u64.wrap ((IntKind.u64.wrap ((a0 / 4294967296) * (a1 / 4294967296))) + ((IntKind.u64.wrap ((IntKind.u64.wrap ((a0 / 4294967296) * (Go.bits .and .u64 a1 4294967295))) + ((IntKind.u64.wrap ((Go.bits .and .u64 a0 4294967295) * (Go.bits .and .u64 a1 4294967295))) / 4294967296))) / 4294967296))) + ((IntKind.u64.wrap ((Go.bits .and .u64 (IntKind.u64.wrap ((IntKind.u64.wrap ((a0 / 4294967296) * (Go.bits .and .u64 a1 4294967295))) + ((IntKind.u64.wrap ((Go.bits .and .u64 a0 4294967295) * (Go.bits .and .u64 a1 4294967295))) / 4294967296))) 4294967295) + (IntKind.u64.wrap ((Go.bits .and .u64 a0 4294967295) * (a1 / 4294967296))))) / 4294967296)), IntKind.u64.wrap (a0 * a1))
set_option maxHeartbeats 8000000 in
set_option maxRecDepth 100000 in
theorem bits_Mul64.calls (a0 : Int) (a1 : Int) (r1 : Int) (r2 : Int) (w : World) (h : bits_Mul64.f a0 a1 = some (r1, r2)) :
    Calls Try.prog 179 #[.int .u64 a0, .int .u64 a1] w fun e w' => e = .returned (.tuple #[.int .u64 r1, .int .u64 r2]) ∧ Drawn0 w w' := by
  have H : (some (IntKind.u64.wrap ((IntKind.u64.wrap ((IntKind.u64.wrap ((a0 / 4294967296) * (a1 / 4294967296))) + ((IntKind.u64.wrap ((IntKind.u64.wrap ((a0 / 4294967296) * (Go.bits .and .u64 a1 4294967295))) + ((IntKind.u64.wrap ((Go.bits .and .u64 a0 4294967295) * (Go.bits .and .u64 a1 4294967295))) / 4294967296))) / 4294967296))) + ((IntKind.u64.wrap ((Go.bits .and .u64 (IntKind.u64.wrap ((IntKind.u64.wrap ((a0 / 4294967296) * (Go.bits .and .u64 a1 4294967295))) + ((IntKind.u64.wrap ((Go.bits .and .u64 a0 4294967295) * (Go.bits .and .u64 a1 4294967295))) / 4294967296))) 4294967295) + (IntKind.u64.wrap ((Go.bits .and .u64 a0 4294967295) * (a1 / 4294967296))))) / 4294967296)), IntKind.u64.wrap (a0 * a1))) = some (r1, r2) := h
  clear h
  simp only [Option.some.injEq, Prod.mk.injEq] at H
  obtain ⟨rfl, rfl⟩ := H
  go_enter Try.func179, Try.ntmps179
  go_wp2
  go_ret2
  exact ⟨by first | rfl | (simp; done) | (simp [*]; done), by repeat (first | exact Drawn0.refl _ | apply Drawn0.step)⟩
end Go.Proofs.Yteiiodlgdbiimaa.F
end
section
namespace Go.Proofs.Yteiiodlgdbiimaa.F
open Go.RowKit Go.Proofs.YteiiodlgdbiimaaW.PrintWords Go.Proofs.YteiiodlgdbiimaaW.PrintLast Go.Proofs.YteiiodlgdbiimaaW.PrintMore
attribute [local go_sem] max2_int min2_int max_two min_two max_three min_three max_four min_four
set_option linter.unusedVariables false
set_option linter.unusedSimpArgs false
def bits_Mul.f (a0 : Int) (a1 : Int) : Option (Int × Int) := (bits_Mul64.f a0 a1).bind fun bt307 => (some (bt307.1, bt307.2))
set_option maxHeartbeats 8000000 in
set_option maxRecDepth 100000 in
theorem bits_Mul.calls (a0 : Int) (a1 : Int) (r1 : Int) (r2 : Int) (w : World) (h : bits_Mul.f a0 a1 = some (r1, r2)) :
    Calls Try.prog 146 #[.int .u64 a0, .int .u64 a1] w fun e w' => e = .returned (.tuple #[.int .u64 r1, .int .u64 r2]) ∧ Drawn0 w w' := by
  have H : ((bits_Mul64.f a0 a1).bind fun bt307 => (some (bt307.1, bt307.2))) = some (r1, r2) := h
  clear h
  replace H := Option.bind_eq_some_iff.mp H
  obtain ⟨⟨t307, t308⟩, A30, H⟩ := H
  replace H : (some (t307, t308)) = some (r1, r2) := H
  have A3 := Aside0.mk A30
  clear A30
  simp only [Option.some.injEq, Prod.mk.injEq] at H
  obtain ⟨rfl, rfl⟩ := H
  go_enter Try.func146, Try.ntmps146
  go_wp2_with (first | ((with_reducible refine gate_callee (f := 179) rfl ?_); refine goesL_ (some 25) rfl rfl Try.func179 (by kernel_rfl) rfl #[.int .u64 a0, .int .u64 a1] rfl (by (try simp only [List.map_toArray, List.map_cons, List.map_nil]); first | done | rfl | (simp only [List.length_drop, List.length_take]; rfl)) ?_; (with_reducible refine (bits_Mul64.calls a0 a1 t307 t308 _ A3.out).mono ?_); rintro e w' ⟨rfl, ⟨nd, rfl⟩⟩; refine ⟨_, rfl, ?_⟩))
  go_ret2
  exact ⟨by first | rfl | (simp; done) | (simp [*]; done), by repeat (first | exact Drawn0.refl _ | apply Drawn0.step)⟩
end Go.Proofs.Yteiiodlgdbiimaa.F
end
section
namespace Go.Proofs.Yteiiodlgdbiimaa.F
open Go.RowKit Go.Shelf Go.Proofs.YteiiodlgdbiimaaW.PrintWords Go.Proofs.YteiiodlgdbiimaaW.PrintLast Go.Proofs.YteiiodlgdbiimaaW.PrintMore
set_option linter.unusedVariables false
set_option linter.unusedSimpArgs false
theorem u64_id {x : Int} (h0 : 0 ≤ x) (h1 : x < 18446744073709551616) : IntKind.u64.wrap x = x := by
  simp [IntKind.wrap, IntKind.bits, IntKind.signed]
  omega
theorem mul_one_u64 (n : Nat) (h : n ≤ 1000000) : bits_Mul.f 1 (n : Int) = some (0, (n : Int)) := by
  have e1 : Go.bits .and .u64 (n : Int) 4294967295 = (n : Int) := by
    have := u64_and_nat n 4294967295 (by omega) (by omega)
    rw [show ((4294967295 : Nat) : Int) = 4294967295 from rfl] at this
    rw [this, show (4294967295 : Nat) = 2 ^ 32 - 1 from rfl, Nat.and_two_pow_sub_one_eq_mod, Nat.mod_eq_of_lt (by omega)]
  have e2 : Go.bits .and .u64 1 4294967295 = 1 := by decide
  have e3 : Go.bits .and .u64 0 4294967295 = 0 := by decide
  have e4 : ((1 : Int) / 4294967296) = 0 := by decide
  have e5 : ((n : Int) / 4294967296) = 0 := by omega
  simp only [bits_Mul.f, bits_Mul64.f, Option.bind_some]
  rw [e1, e2, e4, e5]
  simp only [Int.one_mul, Int.zero_mul, Int.mul_zero]
  have e6 : IntKind.u64.wrap 0 = 0 := by decide
  simp only [u64_id (x := (n : Int)) (by omega) (by omega), e5, e6, Int.add_zero, e3, e4]
  rfl
def slices_Repeat_uint8_uint8.f (l0 : List Int) (a1 : Int) : Option (List Int) :=
  match l0 with
  | [x] => if 0 ≤ a1 ∧ a1 ≤ 1000000 then some (List.replicate a1.toNat x) else none
  | _ => none
def someX (x : Value) (j n : Nat) : List Value := List.replicate j x ++ List.replicate (n - j) (.int .u8 0)
theorem splice_someX (x : Value) (j m n : Nat) (h : j + m ≤ n) : splice (someX x j n) j (List.replicate m x) = someX x (j + m) n := by
  unfold splice someX
  have e1 : n - j = m + (n - (j + m)) := by omega
  generalize n - (j + m) = d at e1 ⊢
  rw [e1, List.length_replicate, List.take_append_of_le_length (by simp), List.take_of_length_le (by simp), List.drop_append]
  simp [List.drop_replicate, ← List.append_assoc, List.replicate_append_replicate]
theorem info5x : (Try.prog.info? 5).map (·.size) = some 1 := by kernel_rfl
theorem made_someX (x : Value) (n : Nat) : madeCells #[.int .u8 0] n = (someX x 0 n).toArray := by
  apply Array.ext'
  apply List.ext_getElem
  · simp [someX, size_madeCells]
  · intro i h1 h2
    simp [someX, madeCells, Nat.mod_one]
theorem copy1 {W : World} {ad : Addr} {x : Value} {n j : Nat} {v : Value} (h : W.cell? ad = some x) (hj : (List.replicate (Nat.min 1 n) x)[j]? = some v) : W.cell? (ad.add j) = some v := by
  rw [List.getElem?_replicate] at hj
  split at hj
  · rename_i hlt
    have : Nat.min 1 n ≤ 1 := Nat.min_le_left 1 n
    obtain rfl : j = 0 := by omega
    rw [← Option.some.inj hj]
    simpa [Addr.add] using h
  · cases hj
theorem one_rep (k : Nat) (x : Int) : ∀ v ∈ List.replicate k (Value.int .u8 x), v.oneCell' = true := fun v hv => by
  rw [List.eq_of_mem_replicate hv]
  rfl
set_option maxHeartbeats 4000000 in
set_option maxRecDepth 100000 in
theorem slices_Repeat_uint8_uint8.calls (A0 : Option Addr) (c0 : Nat) (l0 : List Int) (a1 : Int) (r : List Int) (w : World) (hr0 : Kd.C (Kd.int .u8) w A0 l0.length l0) (hc0 : l0.length ≤ c0)
  (h : slices_Repeat_uint8_uint8.f l0 a1 = some r) :
  Calls Try.prog 100 #[.slice A0 l0.length c0, .int .i64 a1] w fun e w' => ∃ v0_ : Value, e = .returned (v0_) ∧ Kd.R (Kd.int .u8) 5 w' w.heap.size (fun _ => True) v0_ r ∧ Below w.heap.size w w' := by
 unfold slices_Repeat_uint8_uint8.f at h
 split at h
 case h_2 => cases h
 case h_1 x =>
 split at h
 case isFalse => cases h
 case isTrue hn =>
 obtain ⟨n, rfl⟩ := Int.eq_ofNat_of_zero_le hn.1
 have hn6 : n ≤ 1000000 := by omega
 obtain rfl := Option.some.inj h
 clear h hn
 obtain ⟨ad, e, hx0⟩ := Kd.at_int hr0 0 (by omega) (by simp)
 cases e
 have hx : w.cell? ad = some (.int .u8 x) := by simpa [rd, Addr.add] using hx0
 clear hx0
 have HR := Aside0.mk hr0
 clear hr0
 have HM := Aside0.mk (fun W => bits_Mul.calls 1 (n : Int) 0 (n : Int) W (mul_one_u64 n hn6))
 have hmk : ∀ W : World, (Instr.makeSlice 28 (.int .i64 (n : Int)) (.int .i64 (n : Int))).run Try.prog W = .ok (.slice (some ⟨W.heap.size, 0, none⟩) n n) (W.alloc (.cells (madeCells #[.int .u8 0] n) 5)) := fun W =>
  run_make_row' (P := Try.prog) 28 5 (.int .u8 0) 1 Try.underlying28 info5 rfl .i64 .i64 n (by omega) (by omega) W
 rw [Int.toNat_natCast]
 go_enter Try.func100, Try.ntmps100
 go_wp2_with (first | (go_at_call 146; refine (HM.out _).mono ?_; rintro e w1 ⟨rfl, ⟨nd, rfl⟩⟩) | ((with_reducible refine gate_dst (N := 30) rfl ?_); refine slice_event rfl (N := 30) rfl (n := n) (c := n) (cs := madeCells #[.int .u8 0] n) (t := 5) ?hr ?_; (case hr => first | (go_simp; done) | (go_simp; rfl)); intro g hg_ w2 BK hb2; have GE := Aside0.mk (show w.heap.size ≤ g from by rw [hg_]; exact (below_drewN' w nd).size); clear hg_; have HB := Aside0.mk (below_step (below_drewN' w nd) hb2); have hx2 := pw_cell_below hb2 (show (w.drewN nd).cell? ad = _ from hx); clear hb2; clear hx; have HBK := Aside0.mk (show w2.heap[g]? = some (.cells (someX (.int .u8 x) 0 n).toArray 5 (0, 0)) from by rw [← made_someX (.int .u8 x) n]; exact BK); clear BK) | ((with_reducible refine gate_builtin (b := .copy) (xs := #[.tmp 31, .tmp 32]) rfl ?_); refine wpList_copy_splice (B := w.heap.size) (w0 := w) rfl (.tmp 31) (.tmp 32) 28 28 ?h0 5 Try.underlying28 info5x (some ⟨g, 0, none⟩) (some ad) n n 1 c0 ?h1 ?h2 g 0 (someX (.int .u8 x) 0 n) 5 HBK.out (List.replicate (Nat.min 1 n) (.int .u8 x)) ?h4 ?h5 ?h6 (one_rep _ _) HB.out GE.out ?_; (case h0 => rfl); (case h1 => rfl); (case h2 => rfl); (case h4 => simp); (case h5 => exact fun _ => ⟨rfl, ad, rfl, fun j v hj => copy1 hx2 hj⟩); (case h6 => have : Nat.min 1 n ≤ n := Nat.min_le_right 1 n; simp [someX]; omega); intro w3 HBK3 HB3; have HBK3 := Aside0.mk HBK3.out; have HB3 := Aside0.mk HB3; rw [splice_someX _ _ _ _ (by have : Nat.min 1 n ≤ n := Nat.min_le_right 1 n; omega)] at HBK3; clear HBK HB))
 go_loopg [8] n (fun gg v8 wr => ∃ j : Nat, n - j ≤ gg ∧ v8 = .int .i64 j ∧ Aside0 (j ≤ n ∧ (1 ≤ j ∨ n = 0)) ∧ Aside0 (wr.heap[g]? = some (.cells (someX (.int .u8 x) j n).toArray 5 (0, 0))) ∧ Aside0 (Below w.heap.size w wr))
 case atStart => exact ⟨Nat.min 1 n, by omega, rfl, ⟨Nat.min_le_right 1 n, by show 1 ≤ Nat.min 1 n ∨ n = 0; rcases Nat.eq_zero_or_pos n with h | h; exact .inr h; exact .inl (Nat.le_min.2 ⟨Nat.le_refl _, h⟩)⟩, ⟨by rw [Nat.zero_add] at HBK3; exact HBK3.out⟩, HB3⟩
 case round =>
  clear HBK3 HB3
  obtain ⟨j, hg, rfl, HJ, HK, HB⟩ := hrel
  have hj1 := HJ.out.1
  by_cases hlt : j < n
  ·
   have hltz : (j : Int) < (n : Int) := by omega
   go_wp2
   obtain ⟨m, hm1, hm2, hm⟩ : ∃ m : Nat, m = Nat.min j (n - j) ∧ j + m ≤ n ∧ (1 ≤ m) := by
    refine ⟨Nat.min j (n - j), rfl, ?_, ?_⟩
    ·
     have : Nat.min j (n - j) ≤ n - j := Nat.min_le_right _ _
     omega
    · exact Nat.le_min.2 ⟨by have := HJ.out.2; omega, by omega⟩
   have HMM := Aside0.mk hm1
   clear hm1
   have hnj : ¬ n = j := by omega
   have HSRC := Aside0.mk (show ∀ (q : Nat) v, (List.replicate m (Value.int .u8 x))[q]? = some v → wr.cell? ((⟨g, 0, none⟩ : Addr).add q) = some v from fun q v hq => by
    rw [List.getElem?_replicate] at hq
    split at hq
    ·
     rename_i hqm
     have hmj : m ≤ j := by rw [HMM.out]; exact Nat.min_le_left _ _
     rw [← Option.some.inj hq, add_plain]
     refine (blk_cell HK.out q).trans ?_
     simp only [someX, List.getElem?_toArray]
     rw [List.getElem?_append_left (by simp; omega), List.getElem?_replicate, if_pos (by omega)]
    · cases hq)
   have HLEN := Aside0.mk (show (List.replicate m (Value.int .u8 x)).length = Nat.min j (n - j) from by rw [List.length_replicate]; exact HMM.out)
   go_region_law ((with_reducible refine step_copy_splice (B := w.heap.size) (w0 := w) ?hgd (.tmp 41) (.tmp 44) 28 28 ?h0 5 Try.underlying28 info5x (some ⟨g, j, none⟩) (some ⟨g, 0, none⟩) (n - j) (n - j) j n ?h1 ?h2 g j (someX (.int .u8 x) j n) 5 ?hK (List.replicate m (.int .u8 x)) HLEN.out ?h5 ?h6 (one_rep _ _) ?hB GE.out ?_); (case hgd => rfl); (case h0 => rfl); (case h1 => simp [Act.eval, Act.put]); (case h2 => simp [Act.eval, Act.put]); (case hK => exact HK.out); (case hB => exact below_drew HB.out); (case h5 => exact fun _ => ⟨rfl, _, rfl, HSRC.out⟩); (case h6 => simp [someX]; omega); intro w3 HBK3 HB3; have HBK3 := Aside0.mk HBK3.out; have HB3 := Aside0.mk HB3)
   have HBK4 := Aside0.mk (show w3.heap[g]? = some (.cells (someX (.int .u8 x) (j + m) n).toArray 5 (0, 0)) from by rw [← splice_someX _ _ _ _ hm2]; exact HBK3.out)
   clear HBK3 HSRC HLEN
   go_wp2
   go_roundg (n - (j + m))
   case measure => omega
   case rel => exact ⟨j + m, by omega, by simp only [Value.int.injEq, true_and, Int.natCast_add]; exact IntWalk.i64_in _ (by omega), ⟨hm2, .inl (by omega)⟩, HBK4, HB3⟩
  ·
   have hltz : ¬ (j : Int) < (n : Int) := by omega
   have hjn : j = n := by omega
   subst hjn
   go_wp2
   go_ret
   refine ⟨_, rfl, ?_, HB.out⟩
   refine Kd.R_of_own (enc := Value.int .u8) (h1 := fun _ => rfl) ?_ (fun _ _ => trivial)
   rw [List.length_replicate]
   exact ⟨by simp [encs], .inr ⟨g, j, (someX (.int .u8 x) j j).toArray, rfl, GE.out, HK.out, Nat.le_refl _, by simp only [maxLen]; omega, by simp [someX], by simp [someX, encs]⟩⟩
end Go.Proofs.Yteiiodlgdbiimaa.F
end
section
namespace Go.Proofs.Yteiiodlgdbiimaa.F
open Go.RowKit Go.Shelf Go.Proofs.YteiiodlgdbiimaaW.PrintWords Go.Proofs.YteiiodlgdbiimaaW.PrintLast Go.Proofs.YteiiodlgdbiimaaW.PrintMore
set_option linter.unusedVariables false
set_option linter.unusedSimpArgs false
theorem inU32_of {l : List Int} (h : u32s l = true) : InU32 l := fun x hx => u32s_mem h hx
theorem inU8_of {l : List Int} (h : u8s l = true) : InU8 l := fun x hx => by
  have := List.all_eq_true.1 h x hx
  simpa using this
theorem in41_of {l1 : List S41} {l2 : List S68} (h : okIn l1 l2 = true) (h8 : u8s (l1.map (·.f1)) = true) : In41 l1 := fun g hg => by
  simp only [okIn, Bool.and_eq_true] at h
  exact ⟨u32s_mem h.1.1.2 (List.mem_map_of_mem hg), inU8_of h8 _ (List.mem_map_of_mem hg)⟩
theorem in68_of {l1 : List S41} {l2 : List S68} (h : okIn l1 l2 = true) : In68 l2 := fun g hg => by
  simp only [okIn, Bool.and_eq_true] at h
  exact ⟨u32s_mem h.1.2 (List.mem_map_of_mem hg), u32s_mem h.2 (List.mem_map_of_mem hg)⟩
theorem strash_With.calls (a0 : Int) (A1 : Option Addr) (c1 : Nat) (l1 : List S41) (A2 : Option Addr) (c2 : Nat) (l2 : List S68) (A3 : Option Addr) (c3 : Nat) (l3 : List Int) (A4 : Option Addr) (c4 : Nat) (l4 : List Int) (A5 : Option Addr) (c5 : Nat) (l5 : List Int) (A6 : Option Addr) (c6 : Nat) (is : List Int) (r1 : Int) (r2 : List (S41)) (r3 : List (S68)) (r4 : List Int) (r5 : List Int) (r6 : List Int) (r7 : List Int) (r8 : Int) (w : World) (hr1 : Kd.C k41 w A1 l1.length l1) (hc1 : l1.length ≤ c1) (hr2 : Kd.C k68 w A2 l2.length l2) (hc2 : l2.length ≤ c2) (hr3 : Kd.C (Kd.int .u32) w A3 l3.length l3) (hc3 : l3.length ≤ c3) (hr4 : Kd.C (Kd.int .u32) w A4 l4.length l4) (hc4 : l4.length ≤ c4) (hr5 : Kd.C (Kd.int .u32) w A5 l5.length l5) (hc5 : l5.length ≤ c5) (hr6 : Kd.C (Kd.int .u8) w A6 is.length is) (hc6 : is.length ≤ c6) (h : strash_With.f a0 l1 l2 l3 l4 l5 is = some (r1, r2, r3, r4, r5, r6, r7, r8)) :
    Calls Try.prog 43 #[.agg #[.int .i64 a0, .slice A1 l1.length c1, .slice A2 l2.length c2, .slice A3 l3.length c3, .slice A4 l4.length c4, .slice A5 l5.length c5], .slice A6 is.length c6] w fun e w' => ∃ v1_ v2_ v3_ v4_ v5_ v6_ : Value, e = .returned (.tuple #[.agg #[.int .i64 r1, v1_, v2_, v3_, v4_, v5_], v6_, .int .i64 r8]) ∧ Kd.R k41 41 w' w.heap.size (fun _ => True) v1_ r2 ∧ Kd.R k68 68 w' w.heap.size (fun _ => True) v2_ r3 ∧ Kd.R (Kd.int .u32) 39 w' w.heap.size (fun k_ => some k_ ≠ (v4_ : Value).ownBlock ∧ some k_ ≠ (v5_ : Value).ownBlock ∧ some k_ ≠ (v6_ : Value).ownBlock) v3_ r4 ∧ Kd.R (Kd.int .u32) 39 w' w.heap.size (fun k_ => some k_ ≠ (v3_ : Value).ownBlock ∧ some k_ ≠ (v5_ : Value).ownBlock ∧ some k_ ≠ (v6_ : Value).ownBlock) v4_ r5 ∧ Kd.R (Kd.int .u32) 39 w' w.heap.size (fun k_ => some k_ ≠ (v3_ : Value).ownBlock ∧ some k_ ≠ (v4_ : Value).ownBlock ∧ some k_ ≠ (v6_ : Value).ownBlock) v5_ r6 ∧ Kd.R (Kd.int .u32) 39 w' w.heap.size (fun k_ => some k_ ≠ (v3_ : Value).ownBlock ∧ some k_ ≠ (v4_ : Value).ownBlock ∧ some k_ ≠ (v5_ : Value).ownBlock) v6_ r7 ∧ Below w.heap.size w w' := by
  unfold strash_With.f at h
  split at h
  case isFalse => cases h
  case isTrue hok =>
    obtain ⟨hok, h3, h4, h5, h6, h7⟩ := hok
    split at h
    case isTrue hc =>
      simp only [Option.some.injEq, Prod.mk.injEq] at h
      obtain ⟨rfl, rfl, rfl, rfl, rfl, rfl, rfl, rfl⟩ := h
      exact strash_With.good a0 A1 c1 l1 A2 c2 l2 A3 c3 l3 A4 c4 l4 A5 c5 l5 A6 c6 is w hr1 hc1 hr2 hc2 hr3 hc3 hr4 hc4 hr5 hc5 hr6 hc6 hok (in41_of hok h7) (in68_of hok) (inU32_of h3) (inU32_of h4) (inU32_of h5) (inU8_of h6) hc
    case isFalse hc =>
      simp only [Option.some.injEq, Prod.mk.injEq] at h
      obtain ⟨rfl, rfl, rfl, rfl, rfl, rfl, rfl, rfl⟩ := h
      exact (strash_With.bad a0 A1 c1 l1 A2 c2 l2 A3 c3 l3 A4 c4 l4 A5 c5 l5 A6 c6 is w hr1 hc1 hr2 hc2 hr3 hc3 hr4 hc4 hr5 hc5 hr6 hc6 hok (inU8_of h6) hc).mono (fun e w' ⟨h1, h2⟩ => ⟨_, _, _, _, _, _, h1, Kd.R_nil _ _ _ _ _, Kd.R_nil _ _ _ _ _, Kd.R_nil _ _ _ _ _, Kd.R_nil _ _ _ _ _, Kd.R_nil _ _ _ _ _, Kd.R_nil _ _ _ _ _, h2⟩)
end Go.Proofs.Yteiiodlgdbiimaa.F
end
