/- The law StrashRuns: whatever the input, the function returns true, and the input reads as it did (its last text). -/
import Derived.Below
import Derived.ChangeOld
import Derived.Deep.Grids
import Derived.OpenShut
import Derived.ProofKit
import Derived.ShutString
import Derived.SizedLaws
import Derived.Test.YteiiodlgdbiimaaRows
import Derived.WalkKit
import Derived.Test.YteiiodlgdbiimaaRr
section
namespace Go.Proofs.Yteiiodlgdbiimaa.F
open Go.RowKit Go.Shelf Go.Proofs.YteiiodlgdbiimaaW.PrintWords Go.Proofs.YteiiodlgdbiimaaW.PrintLast Go.Proofs.YteiiodlgdbiimaaW.PrintMore
set_option linter.unusedVariables false
set_option linter.unusedSimpArgs false
theorem values_ev {l : List Int} {m : Int} (hl : l.length < 9223372036854775808) : Ev (fun k => inquestref03_values.f k l m) (l.all (fun x => decide (x ≤ 2)) && ((l.length : Int) == m)) := by
  have key : ∀ (d i : Nat), l.length - i = d → i ≤ l.length → Ev (fun k => inquestref03_values.l0 k l m (i : Int)) ((l.drop i).all (fun x => decide (x ≤ 2)) && ((l.length : Int) == m)) := by
    intro d
    induction d with
    | zero =>
      intro i hd hi
      obtain rfl : i = l.length := by omega
      refine Ev.step (f := fun _ => some ((l.length : Int) == m)) (fun k => ?_) (by rw [List.drop_length]; exact Ev.now _)
      simp only [inquestref03_values.l0]
      rw [if_neg (by omega)]
    | succ d ih =>
      intro i hd hi
      have hlt : i < l.length := by omega
      rw [drop_at hlt, List.all_cons]
      by_cases hc : l[i] ≤ 2
      · rw [decide_eq_true hc, Bool.true_and]
        refine Ev.step (fun k => ?_) (ih (i + 1) (by omega) (by omega))
        simp only [inquestref03_values.l0]
        rw [if_pos (by omega), if_pos (by omega), rd_at hlt, if_neg (by omega), wrap_nat' (by omega)]
      · rw [decide_eq_false hc, Bool.false_and, Bool.false_and]
        refine Ev.step (f := fun _ => some false) (fun k => ?_) (Ev.now _)
        simp only [inquestref03_values.l0]
        rw [if_pos (by omega), if_pos (by omega), rd_at hlt, if_pos (by omega)]
  exact key l.length 0 (by omega) (by omega)
def InRows (fr : List (List Int)) : Prop := ∀ i : Int, InU8 (rd_L9 fr i) ∧ (rd_L9 fr i).length < 9223372036854775808
structure FitP (a0 : Int) (l1 : List S41) (l4 : List Int) (bad : Int) (init : List Int) (fr : List (List Int)) : Prop where
  bad : 0 ≤ bad ∧ bad < (l4.length : Int)
  tri : TriL init
  len : init.length = l1.length
  many : 1 ≤ fr.length ∧ fr.length ≤ 256
  row : ∀ i : Nat, i < fr.length → TriL (rd_L9 fr (i : Int)) ∧ ((rd_L9 fr (i : Int)).length : Int) = a0
  reset : ∀ i : Nat, i < init.length → (rd_T41 l1 (i : Int)).f1 = 2 ∨ (rd_T41 l1 (i : Int)).f1 = rd init (i : Int)
section
variable {a0 : Int} {l1 : List S41} {l2 : List S68} {l3 l4 l5 : List Int} {bad : Int} {init : List Int} {fr : List (List Int)}
theorem Ev.some_if {g : Nat → Option Bool} {P Q : Prop} (h : ∃ b, Ev g b ∧ (b = true → P)) (k : P → Q) : ∃ b, Ev g b ∧ (b = true → Q) := by
  obtain ⟨b, h1, h2⟩ := h
  exact ⟨b, h1, fun e => k (h2 e)⟩
theorem fits_some (ha : -9223372036854775808 ≤ a0 ∧ a0 < 9223372036854775808) (n1 : l1.length ≤ 16384) (n2 : l2.length ≤ 16384) (n3 : l3.length < 9223372036854775808) (n4 : l4.length < 9223372036854775808) (n5 : l5.length < 9223372036854775808)
  (h1 : In41 l1) (h2 : In68 l2) (h3 : InU32 l3) (h4 : InU32 l4) (h5 : InU32 l5) (hi : InU8 init) (ni : init.length < 9223372036854775808) (hf : InRows fr) :
  ∃ b, Ev (fun k => inquestref03_Fits.f k a0 l1 l2 l3 l4 l5 bad init fr) b ∧ (b = true → mayB a0 l1 l2 l3 l4 l5 = true ∧ FitP a0 l1 l4 bad init fr) := by
 have hM := mayr_all ha n1 n2 n3 n4 n5 h1 h2 h3 h4 h5
 have hjt : Ev (fun k => inquestref03_Fits.j0 k true a0 l1 l2 l3 l4 l5 bad init fr) false := by
  refine Ev.step (f := fun _ => some false) (fun k => ?_) (Ev.now false)
  simp only [inquestref03_Fits.j0]
  rw [if_pos trivial]
 by_cases c1 : mayB a0 l1 l2 l3 l4 l5 = true
 case neg =>
  rw [Bool.not_eq_true] at c1
  rw [c1] at hM
  exact ⟨false, Ev.bind hM (Ev.ifn (by decide) hjt), fun e => nomatch e⟩
 rw [c1] at hM
 have hk : okIn l1 l2 = true := okIn_of h1 h2 (by omega) (by omega)
 have hv := (valid_of_may hk c1).1
 have wrap' : ∀ {g : Nat → Option Bool}, (∃ b, Ev g b ∧ (b = true → FitP a0 l1 l4 bad init fr)) → ∃ b, Ev g b ∧ (b = true → mayB a0 l1 l2 l3 l4 l5 = true ∧ FitP a0 l1 l4 bad init fr) := fun h => Ev.some_if h (fun p => ⟨c1, p⟩)
 by_cases c2 : bad < 0
 · exact ⟨false, Ev.bind hM (Ev.ifp rfl (Ev.ifp c2 hjt)), fun e => nomatch e⟩
 by_cases c3 : bad ≥ (l4.length : Int)
 · exact ⟨false, Ev.bind hM (Ev.ifp rfl (Ev.ifn c2 (Ev.ifp c3 hjt))), fun e => nomatch e⟩
 have hV := values_ev (l := init) (m := (l1.length : Int)) ni
 by_cases c4 : (init.all (fun x => decide (x ≤ 2)) && ((init.length : Int) == (l1.length : Int))) = true
 case neg =>
  rw [Bool.not_eq_true] at c4
  rw [c4] at hV
  exact ⟨false, Ev.bind hM (Ev.ifp rfl (Ev.ifn c2 (Ev.ifn c3 (Ev.bind hV (Ev.ifn (by decide) hjt))))), fun e => nomatch e⟩
 rw [c4] at hV
 rw [Bool.and_eq_true, beq_iff_eq] at c4
 obtain ⟨t1, t2⟩ := c4
 by_cases c5 : (fr.length : Int) < 1
 · exact ⟨false, Ev.bind hM (Ev.ifp rfl (Ev.ifn c2 (Ev.ifn c3 (Ev.bind hV (Ev.ifp rfl (Ev.ifp c5 hjt)))))), fun e => nomatch e⟩
 have hgo : ∀ b, Ev (fun k => inquestref03_Fits.j0 k (decide ((fr.length : Int) > 256)) a0 l1 l2 l3 l4 l5 bad init fr) b → Ev (fun k => inquestref03_Fits.f k a0 l1 l2 l3 l4 l5 bad init fr) b := fun b h =>
  Ev.bind hM (Ev.ifp rfl (Ev.ifn c2 (Ev.ifn c3 (Ev.bind hV (Ev.ifp rfl (Ev.ifn c5 h))))))
 by_cases c6 : (fr.length : Int) > 256
 ·
  refine ⟨false, hgo false ?_, fun e => nomatch e⟩
  rw [decide_eq_true c6]
  exact hjt
 rw [decide_eq_false c6] at hgo
 have key2 : ∀ (d i : Nat), init.length - i = d → i ≤ init.length → ∃ b, Ev (fun k => inquestref03_Fits.l1 k (i : Int) a0 l1 l2 l3 l4 l5 bad init fr) b ∧ (b = true → ∀ j : Nat, i ≤ j → j < init.length → (rd_T41 l1 (j : Int)).f1 = 2 ∨ (rd_T41 l1 (j : Int)).f1 = rd init (j : Int)) := by
  intro d
  induction d with
  | zero =>
   intro i hd hi
   refine ⟨true, Ev.step (f := fun _ => some true) (fun k => ?_) (Ev.now true), fun _ j h h' => absurd h' (by omega)⟩
   simp only [inquestref03_Fits.l1]
   rw [if_neg (by omega)]
  | succ d ih =>
   intro i hd hi
   obtain ⟨b, hb, hp⟩ := ih (i + 1) (by omega) (by omega)
   by_cases e1 : (rd_T41 l1 (i : Int)).f1 = 2
   ·
    refine ⟨b, Ev.step (fun k => ?_) hb, fun e j h h' => ?_⟩
    ·
     simp only [inquestref03_Fits.l1]
     rw [if_pos (by omega), if_pos (by omega), if_pos (by omega), if_pos e1, wrap_nat' (by omega)]
    ·
     by_cases ej : j = i
     · rw [ej]; exact .inl e1
     · exact hp e j (by omega) h'
   ·
    by_cases e2 : (rd_T41 l1 (i : Int)).f1 = rd init (i : Int)
    ·
     refine ⟨b, Ev.step (fun k => ?_) hb, fun e j h h' => ?_⟩
     ·
      simp only [inquestref03_Fits.l1]
      rw [if_pos (by omega), if_pos (by omega), if_pos (by omega), if_neg e1, if_pos e2, wrap_nat' (by omega)]
     ·
      by_cases ej : j = i
      · rw [ej]; exact .inr e2
      · exact hp e j (by omega) h'
    ·
     refine ⟨false, Ev.step (f := fun _ => some false) (fun k => ?_) (Ev.now false), fun e => nomatch e⟩
     simp only [inquestref03_Fits.l1]
     rw [if_pos (by omega), if_pos (by omega), if_pos (by omega), if_neg e1, if_neg e2]
 have key1 : ∀ (d i : Nat), fr.length - i = d → i ≤ fr.length → ∃ b, Ev (fun k => inquestref03_Fits.l0 k (i : Int) a0 l1 l2 l3 l4 l5 bad init fr) b ∧ (b = true → (∀ j : Nat, i ≤ j → j < fr.length → TriL (rd_L9 fr (j : Int)) ∧ ((rd_L9 fr (j : Int)).length : Int) = a0) ∧ ∀ j : Nat, j < init.length → (rd_T41 l1 (j : Int)).f1 = 2 ∨ (rd_T41 l1 (j : Int)).f1 = rd init (j : Int)) := by
  intro d
  induction d with
  | zero =>
   intro i hd hi
   obtain ⟨b, hb, hp⟩ := key2 init.length 0 (by omega) (by omega)
   refine ⟨b, Ev.step (fun k => ?_) hb, fun e => ⟨fun j h h' => absurd h' (by omega), fun j h => hp e j (Nat.zero_le _) h⟩⟩
   simp only [inquestref03_Fits.l0]
   rw [if_neg (by omega)]
   rfl
  | succ d ih =>
   intro i hd hi
   obtain ⟨b, hb, hp⟩ := ih (i + 1) (by omega) (by omega)
   obtain ⟨hr1, hr2⟩ := hf (i : Int)
   have hVi := values_ev (l := rd_L9 fr (i : Int)) (m := a0) hr2
   by_cases e1 : ((rd_L9 fr (i : Int)).all (fun x => decide (x ≤ 2)) && (((rd_L9 fr (i : Int)).length : Int) == a0)) = true
   ·
    rw [e1] at hVi
    refine ⟨b, Ev.step (fun k => ?_) (Ev.bind (f := fun n t => if t = true then inquestref03_Fits.l0 n ((i + 1 : Nat) : Int) a0 l1 l2 l3 l4 l5 bad init fr else some false) hVi (Ev.ifp rfl hb)), fun e => ⟨fun j h h' => ?_, (hp e).2⟩⟩
    ·
     simp only [inquestref03_Fits.l0]
     rw [if_pos (by omega), if_pos (by omega), wrap_nat (by omega)]
    ·
     by_cases ej : j = i
     ·
      rw [Bool.and_eq_true, beq_iff_eq] at e1
      rw [ej]
      exact ⟨tri_of hr1 e1.1, e1.2⟩
     · exact (hp e).1 j (by omega) h'
   ·
    rw [Bool.not_eq_true] at e1
    rw [e1] at hVi
    refine ⟨false, Ev.step (fun k => ?_) (Ev.bind (f := fun n t => if t = true then inquestref03_Fits.l0 n ((i + 1 : Nat) : Int) a0 l1 l2 l3 l4 l5 bad init fr else some false) hVi (Ev.ifn (by decide) (Ev.now false))), fun e => nomatch e⟩
    simp only [inquestref03_Fits.l0]
    rw [if_pos (by omega), if_pos (by omega), wrap_nat (by omega)]
 obtain ⟨b, hb, hp⟩ := key1 fr.length 0 (by omega) (by omega)
 refine wrap' ⟨b, hgo b (Ev.step (fun k => ?_) hb), fun e => ⟨⟨by omega, by omega⟩, tri_of hi t1, by omega, ⟨by omega, by omega⟩, fun i h => (hp e).1 i (Nat.zero_le _) h, (hp e).2⟩⟩
 simp only [inquestref03_Fits.j0]
 rw [if_neg (by decide)]
 rfl
theorem fits_true (hv : Valid a0 l1 l2 l3 l4 l5) (h1 : In41 l1) (h2 : In68 l2) (h3 : InU32 l3) (h4 : InU32 l4) (h5 : InU32 l5) (hp : FitP a0 l1 l4 bad init fr) : Ev (fun k => inquestref03_Fits.f k a0 l1 l2 l3 l4 l5 bad init fr) true := by
  have hle := hv.le
  have hps := hv.pos
  have hln := hp.len
  have hbd := hp.bad
  have hmn := hp.many
  have hV := values_ev (l := init) (m := (l1.length : Int)) (by omega)
  rw [all2_of hp.tri, Bool.true_and, beq_iff_eq.2 (show (init.length : Int) = (l1.length : Int) by omega)] at hV
  have key2 : ∀ (d i : Nat), init.length - i = d → i ≤ init.length → Ev (fun k => inquestref03_Fits.l1 k (i : Int) a0 l1 l2 l3 l4 l5 bad init fr) true := by
    intro d
    induction d with
    | zero =>
      intro i hd hi
      refine Ev.step (f := fun _ => some true) (fun k => ?_) (Ev.now true)
      simp only [inquestref03_Fits.l1]
      rw [if_neg (by omega)]
    | succ d ih =>
      intro i hd hi
      refine Ev.step (fun k => ?_) (ih (i + 1) (by omega) (by omega))
      simp only [inquestref03_Fits.l1]
      rw [if_pos (by omega), if_pos (by omega), if_pos (by omega), wrap_nat (by omega)]
      by_cases e1 : (rd_T41 l1 (i : Int)).f1 = 2
      · rw [if_pos e1]
      · rw [if_neg e1]
        rcases hp.reset i (by omega) with e | e
        · exact absurd e e1
        · rw [if_pos e]
  have key1 : ∀ (d i : Nat), fr.length - i = d → i ≤ fr.length → Ev (fun k => inquestref03_Fits.l0 k (i : Int) a0 l1 l2 l3 l4 l5 bad init fr) true := by
    intro d
    induction d with
    | zero =>
      intro i hd hi
      refine Ev.step (fun k => ?_) (key2 init.length 0 (by omega) (by omega))
      simp only [inquestref03_Fits.l0]
      rw [if_neg (by omega)]
      rfl
    | succ d ih =>
      intro i hd hi
      obtain ⟨r1, r2⟩ := hp.row i (by omega)
      have hVi := values_ev (l := rd_L9 fr (i : Int)) (m := a0) (by omega)
      rw [all2_of r1, Bool.true_and, beq_iff_eq.2 r2] at hVi
      refine Ev.step (fun k => ?_) (Ev.bind (f := fun n t => if t = true then inquestref03_Fits.l0 n ((i + 1 : Nat) : Int) a0 l1 l2 l3 l4 l5 bad init fr else some false) hVi (Ev.ifp rfl (ih (i + 1) (by omega) (by omega))))
      simp only [inquestref03_Fits.l0]
      rw [if_pos (by omega), if_pos (by omega), wrap_nat (by omega)]
  refine Ev.bind (mayr_ev hv h1 h2 h3 h4 h5) (Ev.ifp rfl (Ev.ifn (by omega) (Ev.ifn (by omega) (Ev.bind hV (Ev.ifp rfl (Ev.ifn (by omega) ?_))))))
  rw [decide_eq_false (by omega)]
  refine Ev.step (fun k => ?_) (key1 fr.length 0 (by omega) (by omega))
  simp only [inquestref03_Fits.j0]
  rw [if_neg (by decide)]
  rfl
end
end Go.Proofs.Yteiiodlgdbiimaa.F
end
section
namespace Go.Proofs.Yteiiodlgdbiimaa.F
open Go.RowKit Go.Shelf Go.Proofs.YteiiodlgdbiimaaW.PrintWords Go.Proofs.YteiiodlgdbiimaaW.PrintLast Go.Proofs.YteiiodlgdbiimaaW.PrintMore
set_option linter.unusedVariables false
set_option linter.unusedSimpArgs false
theorem rdL9_at {l : List (List Int)} {i : Nat} (h : i < l.length) : rd_L9 l (i : Int) = l[i] := by simp [rd_L9, List.getD_eq_getElem?_getD, List.getElem?_eq_getElem h]
def zer (l : List Int) : List Int := l.map (fun x => if x = 2 then 0 else x)
theorem zer_len (l : List Int) : (zer l).length = l.length := by unfold zer; rw [List.length_map]
theorem zer_bit {l : List Int} (h : TriL l) : BitL (zer l) := fun x hx => by
  obtain ⟨y, hy, rfl⟩ := List.mem_map.1 hx
  have := h y hy
  unfold Tri at this
  unfold Bit
  split <;> omega
theorem zeroed_ev {l : List Int} (hl : l.length < 140737488355328) : Ev (fun k => inquestref07_zeroed.f k l) (zer l) := by
  have key : ∀ (d i : Nat), l.length - i = d → i ≤ l.length → Ev (fun k => inquestref07_zeroed.l0 k l (zer (l.take i)) (i : Int)) (zer l) := by
    intro d
    induction d with
    | zero =>
      intro i hd hi
      obtain rfl : i = l.length := by omega
      rw [List.take_length]
      refine Ev.step (f := fun _ => some (zer l)) (fun k => ?_) (Ev.now _)
      simp only [inquestref07_zeroed.l0]
      rw [if_neg (by omega)]
    | succ d ih =>
      intro i hd hi
      have hlt : i < l.length := by omega
      have el : (zer (l.take i)).length = i := by rw [zer_len, List.length_take]; omega
      have e : zer (l.take (i + 1)) = zer (l.take i) ++ [if l[i] = 2 then 0 else l[i]] := by
        unfold zer
        rw [List.take_succ_eq_append_getElem hlt, List.map_append]
        rfl
      refine Ev.step (fun k => ?_) (ih (i + 1) (by omega) (by omega))
      simp only [inquestref07_zeroed.l0]
      rw [if_pos (by omega), if_pos (by omega), rd_at hlt, wrap_nat' (by omega), e]
      by_cases h2 : l[i] = 2
      · rw [if_pos h2, if_pos h2, if_pos (by omega)]
      · rw [if_neg h2, if_neg h2, if_pos (by omega)]
  exact key l.length 0 (by omega) (by omega)
section
variable {a0 : Int} {l1 : List S41} {l2 : List S68} {l3 l4 l5 : List Int} {bad : Int} {init : List Int} {fr : List (List Int)}
theorem read_ev (hi : init.length < 140737488355328) (hf : fr.length ≤ 256) (hr : ∀ i : Nat, i < fr.length → (rd_L9 fr (i : Int)).length < 140737488355328) : Ev (fun k => inquestref07_Read.f k bad init fr) (bad, zer init, fr.map zer) := by
  have key : ∀ (d i : Nat), fr.length - i = d → i ≤ fr.length → Ev (fun k => inquestref07_Read.l0 k (i : Int) bad init fr bad (zer init) ((fr.take i).map zer)) (bad, zer init, fr.map zer) := by
    intro d
    induction d with
    | zero =>
      intro i hd hi
      obtain rfl : i = fr.length := by omega
      rw [List.take_length]
      refine Ev.step (f := fun _ => some (bad, zer init, fr.map zer)) (fun k => ?_) (Ev.now _)
      simp only [inquestref07_Read.l0]
      rw [if_neg (by omega)]
    | succ d ih =>
      intro i hd hi
      have hlt : i < fr.length := by omega
      have el : ((fr.take i).map zer).length = i := by rw [List.length_map, List.length_take]; omega
      have e : (fr.take (i + 1)).map zer = (fr.take i).map zer ++ [zer (rd_L9 fr (i : Int))] := by
        rw [List.take_succ_eq_append_getElem hlt, List.map_append, rdL9_at hlt]
        rfl
      have hgo : Ev (fun k => (inquestref07_zeroed.f k (rd_L9 fr (i : Int))).bind fun t667 => (if ((fr.take i).map zer).length < 5864062014805 then (inquestref07_Read.l0 k ((i + 1 : Nat) : Int) bad init fr bad (zer init) ((fr.take i).map zer ++ [t667])) else (none))) (bad, zer init, fr.map zer) :=
        Ev.bind (zeroed_ev (hr i hlt)) (Ev.ifp (by omega) (by rw [← e]; exact ih (i + 1) (by omega) (by omega)))
      refine Ev.step (fun k => ?_) hgo
      simp only [inquestref07_Read.l0]
      rw [if_pos (by omega), if_pos (by omega), wrap_nat (by omega)]
  exact Ev.bind (zeroed_ev hi) (key fr.length 0 (by omega) (by omega))
theorem run_ev (hv : Valid a0 l1 l2 l3 l4 l5) (h1 : In41 l1) (h2 : In68 l2) (h3 : InU32 l3) (h4 : InU32 l4) (h5 : InU32 l5) (hp : FitP a0 l1 l4 bad init fr) : Ev (fun k => inquestref07_Run.f k a0 l1 l2 l3 l4 l5 bad init fr) (framesF l1 l2 init fr, 0) := by
  have hmn := hp.many
  have key : ∀ (d i : Nat), fr.length - i = d → i ≤ fr.length → ∀ (acc : List (List Int)) (s : List Int), acc.length = i → TriL s → s.length = l1.length → Ev (fun k => inquestref07_Run.l0 k acc s (i : Int) a0 l1 l2 l3 l4 l5 bad init fr) (acc ++ framesF l1 l2 s (fr.drop i), 0) := by
    intro d
    induction d with
    | zero =>
      intro i hd hi acc s ha hs ls
      obtain rfl : i = fr.length := by omega
      rw [List.drop_length]
      have e : acc ++ framesF l1 l2 s [] = acc := by unfold framesF; rw [List.append_nil]
      rw [e]
      refine Ev.step (f := fun _ => some (acc, 0)) (fun k => ?_) (Ev.now _)
      simp only [inquestref07_Run.l0]
      rw [if_neg (by omega)]
    | succ d ih =>
      intro i hd hi acc s ha hs ls
      have hlt : i < fr.length := by omega
      obtain ⟨r1, r2⟩ := hp.row i hlt
      have hF := frame_ok hv h1 h2 h3 h4 h5 hs r1 ls r2
      have hT := run_tri (l2 := l2) (base_tri hs r1) l2.length
      have e : acc ++ framesF l1 l2 s (fr.drop i) = (acc ++ [runV (baseF s (rd_L9 fr (i : Int))) l2 l2.length]) ++ framesF l1 l2 (nextF (runV (baseF s (rd_L9 fr (i : Int))) l2 l2.length) l1) (fr.drop (i + 1)) := by
        rw [drop_at hlt, rdL9_at hlt]
        show acc ++ (_ :: _) = _
        rw [List.append_assoc]
        rfl
      rw [e]
      have hgo : Ev (fun k => (inquestref07_Frame.f k a0 l1 l2 l3 l4 l5 s (rd_L9 fr (i : Int))).bind fun bt642 => (if acc.length < 5864062014805 then (inquestref07_Run.l0 k (acc ++ [bt642.1]) bt642.2.1 ((i + 1 : Nat) : Int) a0 l1 l2 l3 l4 l5 bad init fr) else (none))) ((acc ++ [runV (baseF s (rd_L9 fr (i : Int))) l2 l2.length]) ++ framesF l1 l2 (nextF (runV (baseF s (rd_L9 fr (i : Int))) l2 l2.length) l1) (fr.drop (i + 1)), 0) :=
        Ev.bind hF (Ev.ifp (by omega) (ih (i + 1) (by omega) (by omega) _ _ (by rw [List.length_append, ha]; rfl) (next_tri hT) (next_len _ _)))
      refine Ev.step (fun k => ?_) hgo
      simp only [inquestref07_Run.l0]
      rw [if_pos (by omega), if_pos (by omega), wrap_nat (by omega)]
  refine Ev.bind (fits_true hv h1 h2 h3 h4 h5 hp) (Ev.ifp rfl ?_)
  exact key fr.length 0 (by omega) (by omega) [] init rfl hp.tri hp.len
theorem frames_tri : ∀ (fr : List (List Int)) (s : List Int), TriL s → (∀ r ∈ fr, TriL r) → ∀ V ∈ framesF l1 l2 s fr, TriL V
  | [], s, _, _, V, hV => nomatch hV
  | r :: t, s, hs, hr, V, hV => by
    have hT := run_tri (l2 := l2) (base_tri hs (hr r (List.mem_cons_self ..))) l2.length
    unfold framesF at hV
    rcases List.mem_cons.1 hV with rfl | hV
    · exact hT
    · exact frames_tri t _ (next_tri hT) (fun r hr' => hr r (List.mem_cons_of_mem _ hr')) V hV
theorem FitP.rows (hp : FitP a0 l1 l4 bad init fr) : ∀ r ∈ fr, TriL r ∧ (r.length : Int) = a0 := fun r hr => by
  obtain ⟨i, hi, rfl⟩ := List.mem_iff_getElem.1 hr
  have := hp.row i hi
  rwa [rdL9_at hi] at this
theorem surely_ev (hv : Valid a0 l1 l2 l3 l4 l5) (h1 : In41 l1) (h2 : In68 l2) (h3 : InU32 l3) (h4 : InU32 l4) (h5 : InU32 l5) (hp : FitP a0 l1 l4 bad init fr) : Ev (fun k => inquestref07_Surely.f k a0 l1 l2 l3 l4 l5 bad init fr) (sureP l4 l5 bad (framesF l1 l2 init fr), 0) := by
  have hmn := hp.many
  have hbd := hp.bad
  have hT := frames_tri (l1 := l1) (l2 := l2) fr init hp.tri (fun r hr => (hp.rows r hr).1)
  have hlen := frames_len l1 l2 fr init
  have hn5 := hv.cons.1
  refine Ev.bind (run_ev hv h1 h2 h3 h4 h5 hp) (Ev.ifp rfl ?_)
  unfold sureP
  generalize framesF l1 l2 init fr = R at hT hlen ⊢
  have hrT : ∀ i : Nat, i < R.length → TriL (rd_L9 R (i : Int)) := fun i hi => by
    rw [rdL9_at hi]
    exact hT _ (List.getElem_mem hi)
  have w1 : wrap64 ((R.length : Int) - 1) = ((R.length - 1 : Nat) : Int) := by rw [wrap64_id (by omega) (by omega)]; omega
  have key1 : ∀ (i : Nat), i < R.length → ∀ (hnext : ∀ v, Ev (fun k => inquestref07_Surely.l0 k R v ((i + 1 : Nat) : Int) a0 l1 l2 l3 l4 l5) ((R.drop (i + 1)).foldl (sureC l5) v, 0)) (d j : Nat), l5.length - j = d → j ≤ l5.length → ∀ v, Ev (fun k => inquestref07_Surely.l1 k R v (i : Int) (j : Int) a0 l1 l2 l3 l4 l5) ((R.drop (i + 1)).foldl (sureC l5) (sureC (l5.drop j) v (rd_L9 R (i : Int))), 0) := by
    intro i hi hnext d
    induction d with
    | zero =>
      intro j hd hj v
      obtain rfl : j = l5.length := by omega
      rw [List.drop_length]
      refine Ev.step (fun k => ?_) (hnext v)
      simp only [inquestref07_Surely.l1]
      rw [if_neg (by omega), wrap_nat (by omega)]
    | succ d ih =>
      intro j hd hj v
      have hlt : j < l5.length := by omega
      have hx := h5 _ (List.getElem_mem hlt)
      have e : sureC (l5.drop j) v (rd_L9 R (i : Int)) = sureC (l5.drop (j + 1)) (andP v (valP (rd_L9 R (i : Int)) l5[j])) (rd_L9 R (i : Int)) := by
        rw [drop_at hlt]
        rfl
      rw [e]
      have hgo : Ev (fun k => (inquestref07_Value.f k (rd_L9 R (i : Int)) l5[j]).bind fun t684 => ((inquestref06_And1.f k v t684).bind fun t685 => (inquestref07_Surely.l1 k R t685 (i : Int) ((j + 1 : Nat) : Int) a0 l1 l2 l3 l4 l5))) ((R.drop (i + 1)).foldl (sureC l5) (sureC (l5.drop (j + 1)) (andP v (valP (rd_L9 R (i : Int)) l5[j])) (rd_L9 R (i : Int))), 0) :=
        Ev.bind (value_ev (hrT i hi) hx.1 hx.2) (Ev.bind (and1_ev _ _) (ih (j + 1) (by omega) (by omega) _))
      refine Ev.step (fun k => ?_) hgo
      simp only [inquestref07_Surely.l1]
      rw [if_pos (by omega), if_pos (by omega), if_pos (by omega), if_pos (by omega), rd_at hlt, wrap_nat (by omega)]
  have key0 : ∀ (d i : Nat), R.length - i = d → i ≤ R.length → ∀ v, Ev (fun k => inquestref07_Surely.l0 k R v (i : Int) a0 l1 l2 l3 l4 l5) ((R.drop i).foldl (sureC l5) v, 0) := by
    intro d
    induction d with
    | zero =>
      intro i hd hi v
      obtain rfl : i = R.length := by omega
      rw [List.drop_length]
      refine Ev.step (f := fun _ => some (v, 0)) (fun k => ?_) (Ev.now _)
      simp only [inquestref07_Surely.l0]
      rw [if_neg (by omega)]
    | succ d ih =>
      intro i hd hi v
      have hlt : i < R.length := by omega
      have e : (R.drop i).foldl (sureC l5) v = (R.drop (i + 1)).foldl (sureC l5) (sureC (l5.drop 0) v (rd_L9 R (i : Int))) := by
        rw [drop_at hlt, List.foldl_cons, rdL9_at hlt]
        rfl
      rw [e]
      refine Ev.step (fun k => ?_) (key1 i hlt (fun v => ih (i + 1) (by omega) (by omega) v) l5.length 0 (by omega) (by omega) v)
      simp only [inquestref07_Surely.l0]
      rw [if_pos (by omega)]
      rfl
  have hr0 : rd_L9 R ((R.length - 1 : Nat) : Int) = R.getD (R.length - 1) [] := by unfold rd_L9; rw [Int.toNat_natCast]
  have hx : 0 ≤ rd l4 bad ∧ rd l4 bad < 4294967296 := rd_u32 h4 bad
  dsimp only
  rw [w1]
  refine Ev.ifp (by omega) (Ev.ifp (by omega) (Ev.ifp (by omega) (Ev.ifp (by omega) (Ev.bind (value_ev (hrT (R.length - 1) (by omega)) hx.1 hx.2) ?_))))
  rw [hr0]
  exact key0 R.length 0 (by omega) (by omega) _
theorem FitP.zeroed (hp : FitP a0 l1 l4 bad init fr) : FitP a0 l1 l4 bad (zer init) (fr.map zer) := by
  refine ⟨hp.bad, (zer_bit hp.tri).tri, by rw [zer_len]; exact hp.len, by rw [List.length_map]; exact hp.many, fun i hi => ?_, fun i hi => ?_⟩
  · rw [List.length_map] at hi
    have := hp.row i hi
    rw [rdL9_at hi] at this
    rw [rdL9_at (by rw [List.length_map]; exact hi), List.getElem_map, zer_len]
    exact ⟨(zer_bit this.1).tri, this.2⟩
  · rw [zer_len] at hi
    rcases hp.reset i hi with e | e
    · exact .inl e
    · rw [rd_at hi] at e
      rw [rd_at (by rw [zer_len]; exact hi)]
      unfold zer
      rw [List.getElem_map]
      by_cases h2 : init[i] = 2
      · left
        rw [e, h2]
      · right
        rw [if_neg h2, e]
theorem fails_ev (hv : Valid a0 l1 l2 l3 l4 l5) (h1 : In41 l1) (h2 : In68 l2) (h3 : InU32 l3) (h4 : InU32 l4) (h5 : InU32 l5) (hp : FitP a0 l1 l4 bad init fr) : Ev (fun k => inquestref07_Fails.f k a0 l1 l2 l3 l4 l5 bad init fr) ((sureP l4 l5 bad (framesF l1 l2 (zer init) (fr.map zer)) == 1), 0) := by
  have hle := hv.le
  have hps := hv.pos
  have hln := hp.len
  have hmn := hp.many
  refine Ev.bind (fits_true hv h1 h2 h3 h4 h5 hp) (Ev.ifp rfl (Ev.bind (read_ev (by omega) (by omega) (fun i hi => by have := (hp.row i hi).2; omega)) ?_))
  exact Ev.bind (surely_ev hv h1 h2 h3 h4 h5 hp.zeroed) (Ev.now _)
end
end Go.Proofs.Yteiiodlgdbiimaa.F
end
section
namespace Go.Proofs.Yteiiodlgdbiimaa.F
open Go.RowKit Go.Shelf Go.Proofs.YteiiodlgdbiimaaW.PrintWords Go.Proofs.YteiiodlgdbiimaaW.PrintLast Go.Proofs.YteiiodlgdbiimaaW.PrintMore
set_option linter.unusedVariables false
set_option linter.unusedSimpArgs false
theorem lives24_is : inquestlaw24_lives.f 20 = some true := by kernel_rfl
theorem lives24_ev : Ev (fun k => inquestlaw24_lives.f k) true := Ev.of (fun k => inquestlaw24_lives.mono k) lives24_is
end Go.Proofs.Yteiiodlgdbiimaa.F
end
section
namespace Go.Proofs.Yteiiodlgdbiimaa.F
open Go.RowKit Go.Shelf Go.Proofs.YteiiodlgdbiimaaW.PrintWords Go.Proofs.YteiiodlgdbiimaaW.PrintLast Go.Proofs.YteiiodlgdbiimaaW.PrintMore
set_option linter.unusedVariables false
set_option linter.unusedSimpArgs false
theorem rows_in {l : List (List Int)} (h : ∀ r ∈ l, InU8 r ∧ r.length < 9223372036854775808) : InRows l := fun i => by
  unfold rd_L9
  rw [List.getD_eq_getElem?_getD]
  cases hg : l[i.toNat]? with
  | none => exact ⟨(fun x hx => nomatch hx), by decide⟩
  | some v => exact h v (List.mem_of_getElem? hg)
section
variable {a0 : Int} {l1 : List S41} {l2 : List S68} {l3 l4 l5 : List Int} {bad : Int} {init : List Int} {fr : List (List Int)}
theorem runs6_go (hv : Valid a0 l1 l2 l3 l4 l5) (h1 : In41 l1) (h2 : In68 l2) (h3 : InU32 l3) (h4 : InU32 l4) (h5 : InU32 l5) (hm : mayB a0 l1 l2 l3 l4 l5 = true) (hp : FitP a0 l1 l4 bad init fr) :
  Ev (fun k => inquestlaw24_StrashRuns.j0 k false a0 l1 l2 l3 l4 l5 bad init fr) true := by
 have hps := hv.pos
 have hle := hv.le
 have hmn := hp.many
 have hbd := hp.bad
 have hn4 := hv.bads
 have hn5 := hv.cons
 have hS := small_ok h1 h2 h3 h4 h5 (by omega) (by omega) hm
 have w1 : wrap64 (a0 + (l1.length : Int)) = a0 + (l1.length : Int) := wrap64_id (by omega) (by omega)
 have w2 : wrap64 (a0 + (l1.length : Int) + (l2.length : Int)) = a0 + (l1.length : Int) + (l2.length : Int) := wrap64_id (by omega) (by omega)
 have w3 : wrap64 (a0 + (l1.length : Int) + (l2.length : Int) + 1) = a0 + (l1.length : Int) + (l2.length : Int) + 1 := wrap64_id (by omega) (by omega)
 have hVars : Ev (fun k => inquestref03_Vars.f k a0 l1 l2 l3 l4 l5) (a0 + (l1.length : Int) + (l2.length : Int)) := by
  unfold inquestref03_Vars.f
  refine Ev.bind (mayr_ev hv h1 h2 h3 h4 h5) (Ev.ifp rfl ?_)
  rw [w1, w2]
  exact Ev.now _
 obtain ⟨n, hn⟩ : ∃ n : Nat, n = a0.toNat + l1.length + l2.length + 1 := ⟨_, rfl⟩
 have hbl := blank_len n
 have hsim := sim_run hv h1 h2 (blank_tri n) (by rw [hbl]; omega) (blank_blank (by omega))
 have hwv := with_valid hv h1 h2 h3 h4 h5 (fun i => by have := rd_tri (blank_tri n) i; unfold Tri at this; omega) (show ((blankL n).length : Int) = a0 + (l1.length : Int) + (l2.length : Int) + 1 by rw [hbl]; omega)
 unfold smallW at hS
 rw [← hn] at hS
 rw [hbl] at hsim hwv
 generalize wasW a0 l1 l2 (blankL n) = s at hS hsim hwv
 obtain ⟨hSh, hgl, k1, k2, k3, k4, k5, hv'⟩ := hwv
 have hsl := hSh.len
 have hll : (latM s.1 l1).length = l1.length := by unfold latM; rw [List.length_map]
 have hp' : FitP a0 (latM s.1 l1) (l4.map (litP s.1)) bad init fr := by
  refine ⟨by rw [List.length_map]; exact hbd, hp.tri, by rw [hll]; exact hp.len, hmn, hp.row, fun i hi => ?_⟩
  have hil : i < l1.length := by rw [← hp.len]; exact hi
  have e : (rd_T41 (latM s.1 l1) (i : Int)).f1 = (rd_T41 l1 (i : Int)).f1 := by
   rw [rd41_at (by rw [hll]; exact hil), rd41_at hil]
   simp only [latM, List.getElem_map]
  rw [e]
  exact hp.reset i hi
 have hF1 := fits_true hv' k1 k2 k3 k4 k5 hp'
 have hR := run_ev hv h1 h2 h3 h4 h5 hp
 have hR' := run_ev hv' k1 k2 k3 k4 k5 hp'
 have hA := hsim fr init init hp.tri hp.tri hp.len hp.len hp.rows (fun i _ => le3_refl _)
 have hZ := hsim (fr.map zer) (zer init) (zer init) (zer_bit hp.tri).tri (zer_bit hp.tri).tri (by rw [zer_len]; exact hp.len) (by rw [zer_len]; exact hp.len) (hp.zeroed).rows (fun i _ => le3_refl _)
 have hfl := frames_len l1 l2 fr init
 have hFa := fails_ev hv h1 h2 h3 h4 h5 hp
 have hFb := fails_ev hv' k1 k2 k3 k4 k5 hp'
 have hbits := frames_bit hv (fr.map zer) (zer init) (zer_bit hp.tri) (by rw [zer_len]; exact hp.len) (fun r hr => by
  obtain ⟨q, hq, rfl⟩ := List.mem_map.1 hr
  have := hp.rows q hq
  exact ⟨zer_bit this.1, by rw [zer_len]; exact this.2⟩)
 have hsure : sureP (l4.map (litP s.1)) (l5.map (litP s.1)) bad (framesF (latM s.1 l1) s.2 (zer init) (fr.map zer)) = sureP l4 l5 bad (framesF l1 l2 (zer init) (fr.map zer)) := by
  have hzl := frames_len l1 l2 (fr.map zer) (zer init)
  rw [List.length_map] at hzl
  generalize framesF (latM s.1 l1) s.2 (zer init) (fr.map zer) = N at hZ ⊢
  generalize framesF l1 l2 (zer init) (fr.map zer) = V at hZ hbits hzl ⊢
  have hl := hZ.len
  obtain ⟨m, hmq⟩ : ∃ m : Nat, bad = (m : Int) := ⟨bad.toNat, by omega⟩
  have hm4 : m < l4.length := by omega
  have hb4 := h4 _ (List.getElem_mem hm4)
  have hb4' := hn4.2 _ (List.getElem_mem hm4)
  rw [wrap64_id (by omega) (by omega)] at hb4'
  have hlit : ∀ c ∈ l5, 0 ≤ c ∧ c < 4294967296 ∧ c / 2 < (n : Int) := fun c hc => by
   have q1 := h5 c hc
   have q2 := hn5.2 c hc
   rw [wrap64_id (by omega) (by omega)] at q2
   exact ⟨q1.1, q1.2, by omega⟩
  unfold sureP
  have hV1 : V.length - 1 < V.length := by omega
  have hN1 : N.length - 1 < N.length := by omega
  have e1 : V.getD (V.length - 1) [] = V[V.length - 1] := by rw [List.getD_eq_getElem?_getD, List.getElem?_eq_getElem hV1, Option.getD_some]
  have e2 : N.getD (N.length - 1) [] = N[V.length - 1] := by rw [List.getD_eq_getElem?_getD, List.getElem?_eq_getElem hN1, Option.getD_some]; simp only [hl]
  have e3 : rd (l4.map (litP s.1)) bad = litP s.1 l4[m] := by rw [hmq]; exact rd_map2 hm4
  have e4 : rd l4 bad = l4[m] := by rw [hmq]; exact rd_at hm4
  rw [e1, e2, e3, e4]
  have hq := hZ.at (V.length - 1) hV1 (by omega)
  refine le_bit (sureP_mono (litP s.1) (R := SimF n s.1) (fun A B hAB c hc => hAB.lit c (hlit c hc).1 (hlit c hc).2.1 (hlit c hc).2.2) hZ _ _ (hq.lit _ hb4.1 hb4.2 (by omega))) ?_
  refine sureP_bit V _ (val_bit (hbits _ (List.getElem_mem hV1)).1 (by have := (hbits _ (List.getElem_mem hV1)).2; omega)) (fun W hW c hc => val_bit (hbits W hW).1 (by have := (hbits W hW).2; have := hlit c hc; omega))
 have hend : Ev (fun k => (inquestref07_Fails.f k a0 l1 l2 l3 l4 l5 bad init fr).bind fun bt734 => ((inquestref07_Fails.f k a0 (latM s.1 l1) s.2 (l3.map (litP s.1)) (l4.map (litP s.1)) (l5.map (litP s.1)) bad init fr).bind fun bt736 => (if bt736.2 = 0 then (if (bt734.1 == bt736.1) = true then ((inquestlaw24_lives.f k).bind fun t738 => (some t738)) else (some false)) else (some false)))) true := by
  refine Ev.bind hFa (Ev.bind hFb (Ev.ifp rfl (Ev.ifp ?_ (Ev.bind lives24_ev (Ev.now true)))))
  rw [hsure]
  exact beq_self_eq_true _
 have key1 : ∀ (f : Nat) (hf : f < fr.length) (V N : List (List Int)) (hVN : All2 (SimF n s.1) V N) (hl : V.length = fr.length) (next : Ev (fun k => inquestlaw24_StrashRuns.l0 k s.1 V N (V.length : Int) ((f + 1 : Nat) : Int) a0 l1 l2 l3 l4 l5 bad init fr a0 (latM s.1 l1) s.2 (l3.map (litP s.1)) (l4.map (litP s.1)) (l5.map (litP s.1))) true) (d v : Nat), n - v = d → v ≤ n →
   Ev (fun k => inquestlaw24_StrashRuns.l1 k s.1 V N (f : Int) (V.length : Int) (f : Int) (n : Int) (v : Int) a0 l1 l2 l3 l4 l5 bad init fr a0 (latM s.1 l1) s.2 (l3.map (litP s.1)) (l4.map (litP s.1)) (l5.map (litP s.1))) true := by
  intro f hf V N hVN hl next d
  have hNl := hVN.len
  have hSm := hVN.at f (by omega) (by omega)
  induction d with
  | zero =>
   intro v hd hvn
   obtain rfl : v = n := by omega
   refine Ev.step (fun k => ?_) next
   simp only [inquestlaw24_StrashRuns.l1]
   rw [if_neg (by omega), wrap_nat (by omega)]
  | succ d ih =>
   intro v hd hvn
   have hlt : v < n := by omega
   have hx := rd_u32 hSh.u32 (v : Int)
   have hval := hSm.val v hlt
   have hlen := hSm.len
   have hgo : Ev (fun k => (inquestref07_Value.f k (rd_L9 N (f : Int)) (rd s.1 (v : Int))).bind fun t742 => (if (f : Int) < (V.length : Int) then (if (v : Int) < ((rd_L9 V (f : Int)).length : Int) then (if (rd (rd_L9 V (f : Int)) (v : Int)) = 2 then (inquestlaw24_StrashRuns.l1 k s.1 V N (f : Int) (V.length : Int) (f : Int) (n : Int) ((v + 1 : Nat) : Int) a0 l1 l2 l3 l4 l5 bad init fr a0 (latM s.1 l1) s.2 (l3.map (litP s.1)) (l4.map (litP s.1)) (l5.map (litP s.1))) else (if (rd (rd_L9 V (f : Int)) (v : Int)) = t742 then (inquestlaw24_StrashRuns.l1 k s.1 V N (f : Int) (V.length : Int) (f : Int) (n : Int) ((v + 1 : Nat) : Int) a0 l1 l2 l3 l4 l5 bad init fr a0 (latM s.1 l1) s.2 (l3.map (litP s.1)) (l4.map (litP s.1)) (l5.map (litP s.1))) else (some false))) else (none)) else (none))) true := by
    rw [rdL9_at (show f < N.length by omega), rdL9_at (show f < V.length by omega)]
    refine Ev.bind (value_ev hSm.triN hx.1 hx.2) (Ev.ifp (by omega) (Ev.ifp (by omega) ?_))
    rcases hval with e | e
    · exact Ev.ifp e (ih (v + 1) (by omega) (by omega))
    ·
     by_cases h2 : rd V[f] (v : Int) = 2
     · exact Ev.ifp h2 (ih (v + 1) (by omega) (by omega))
     · exact Ev.ifn h2 (Ev.ifp e.symm (ih (v + 1) (by omega) (by omega)))
   refine Ev.step (fun k => ?_) hgo
   simp only [inquestlaw24_StrashRuns.l1]
   rw [if_pos (by omega), if_pos (by omega), if_pos (by omega), if_pos (by omega), if_pos (by omega), wrap_nat (by omega)]
 have key0 : ∀ (V N : List (List Int)) (hVN : All2 (SimF n s.1) V N) (hl : V.length = fr.length) (d f : Nat), fr.length - f = d → f ≤ fr.length → Ev (fun k => inquestlaw24_StrashRuns.l0 k s.1 V N (V.length : Int) (f : Int) a0 l1 l2 l3 l4 l5 bad init fr a0 (latM s.1 l1) s.2 (l3.map (litP s.1)) (l4.map (litP s.1)) (l5.map (litP s.1))) true := by
  intro V N hVN hl d
  induction d with
  | zero =>
   intro f hd hf
   refine Ev.step (fun k => ?_) hend
   simp only [inquestlaw24_StrashRuns.l0]
   rw [if_neg (by omega)]
  | succ d ih =>
   intro f hd hf
   have hlt : f < V.length := by omega
   have hlen := (hVN.at f hlt (by have := hVN.len; omega)).len
   refine Ev.step (fun k => ?_) (key1 f (by omega) V N hVN hl (ih (f + 1) (by omega) (by omega)) n 0 (by omega) (by omega))
   simp only [inquestlaw24_StrashRuns.l0]
   rw [if_pos (by omega), if_pos (by omega), if_pos (by omega), rdL9_at hlt, hlen]
   rfl
 have hj1 : Ev (fun k => inquestlaw24_StrashRuns.j1 k s.1 false a0 l1 l2 l3 l4 l5 bad init fr a0 (latM s.1 l1) s.2 (l3.map (litP s.1)) (l4.map (litP s.1)) (l5.map (litP s.1))) true := by
  have hgo : Ev (fun k => (inquestref07_Run.f k a0 l1 l2 l3 l4 l5 bad init fr).bind fun bt726 => ((inquestref07_Run.f k a0 (latM s.1 l1) s.2 (l3.map (litP s.1)) (l4.map (litP s.1)) (l5.map (litP s.1)) bad init fr).bind fun bt730 => (inquestlaw24_StrashRuns.l0 k s.1 bt726.1 bt730.1 (bt726.1.length : Int) 0 a0 l1 l2 l3 l4 l5 bad init fr a0 (latM s.1 l1) s.2 (l3.map (litP s.1)) (l4.map (litP s.1)) (l5.map (litP s.1))))) true :=
   Ev.bind hR (Ev.bind hR' (key0 _ _ hA hfl fr.length 0 (by omega) (by omega)))
  refine Ev.step (fun k => ?_) hgo
  simp only [inquestlaw24_StrashRuns.j1]
  rw [if_neg (by decide)]
 refine Ev.step (f := fun k => (strash_Small.f a0 l1 l2 l3 l4 l5).bind fun bt703 => (if bt703.2.2.2.2.2.2.2 = 0 then ((inquestref03_Vars.f k a0 l1 l2 l3 l4 l5).bind fun t724 => (if (bt703.2.2.2.2.2.2.1.length : Int) = (wrap64 (t724 + 1)) then ((inquestref03_Fits.f k bt703.1 bt703.2.1 bt703.2.2.1 bt703.2.2.2.1 bt703.2.2.2.2.1 bt703.2.2.2.2.2.1 bad init fr).bind fun t725 => (inquestlaw24_StrashRuns.j1 k bt703.2.2.2.2.2.2.1 (!t725) a0 l1 l2 l3 l4 l5 bad init fr bt703.1 bt703.2.1 bt703.2.2.1 bt703.2.2.2.1 bt703.2.2.2.2.1 bt703.2.2.2.2.2.1)) else (inquestlaw24_StrashRuns.j1 k bt703.2.2.2.2.2.2.1 true a0 l1 l2 l3 l4 l5 bad init fr bt703.1 bt703.2.1 bt703.2.2.1 bt703.2.2.2.1 bt703.2.2.2.2.1 bt703.2.2.2.2.2.1))) else (inquestlaw24_StrashRuns.j1 k bt703.2.2.2.2.2.2.1 true a0 l1 l2 l3 l4 l5 bad init fr bt703.1 bt703.2.1 bt703.2.2.1 bt703.2.2.2.1 bt703.2.2.2.2.1 bt703.2.2.2.2.2.1))) (fun k => ?_) ?_
 ·
  simp only [inquestlaw24_StrashRuns.j0]
  rw [if_neg (by decide)]
 ·
  refine Ev.bound hS (Ev.ifp rfl (Ev.bind hVars (Ev.ifp ?_ (Ev.bind hF1 hj1))))
  dsimp only
  rw [w3, hsl]
  omega
theorem runs6_ev (ha : -9223372036854775808 ≤ a0 ∧ a0 < 9223372036854775808) (n3 : l3.length < 9223372036854775808) (n4 : l4.length < 9223372036854775808) (n5 : l5.length < 9223372036854775808) (ni : init.length < 9223372036854775808)
    (h1 : In41 l1) (h2 : In68 l2) (h3 : InU32 l3) (h4 : InU32 l4) (h5 : InU32 l5) (hi : InU8 init) (hf : InRows fr) : Ev (fun k => inquestlaw24_StrashRuns.f k a0 l1 l2 l3 l4 l5 bad init fr) true := by
  have hliv : Ev (fun k => inquestlaw24_StrashRuns.j0 k true a0 l1 l2 l3 l4 l5 bad init fr) true := by
    refine Ev.step (fun k => ?_) (show Ev (fun k => (inquestlaw24_lives.f k).bind fun t846 => (some t846)) true from Ev.bind lives24_ev (Ev.now true))
    simp only [inquestlaw24_StrashRuns.j0]
    rw [if_pos trivial]
  unfold inquestlaw24_StrashRuns.f
  by_cases g1 : a0 > 300
  · exact Ev.bound (a := true) (by unfold inquestlaw24_great.f; rw [if_pos g1]) (Ev.ifp rfl hliv)
  by_cases g2 : (l1.length : Int) > 300
  · exact Ev.bound (a := true) (by unfold inquestlaw24_great.f; rw [if_neg g1, if_pos g2]) (Ev.ifp rfl hliv)
  by_cases g3 : (l2.length : Int) > 300
  · exact Ev.bound (a := true) (by unfold inquestlaw24_great.f; rw [if_neg g1, if_neg g2, if_pos g3]) (Ev.ifp rfl hliv)
  refine Ev.bound (by unfold inquestlaw24_great.f; rw [if_neg g1, if_neg g2, if_neg g3]) ?_
  generalize decide ((wrap64 ((wrap64 ((l3.length : Int) + (l4.length : Int))) + (l5.length : Int))) > 600) = b
  cases b
  · refine Ev.ifn (by decide) ?_
    by_cases g4 : (fr.length : Int) > 60
    · exact Ev.ifp g4 hliv
    · refine Ev.ifn g4 ?_
      obtain ⟨b, hb, hbt⟩ := fits_some (bad := bad) ha (by omega) (by omega) n3 n4 n5 h1 h2 h3 h4 h5 hi ni hf
      refine Ev.bind hb ?_
      cases b
      · exact hliv
      · obtain ⟨hm, hp⟩ := hbt rfl
        have hk : okIn l1 l2 = true := okIn_of h1 h2 (by omega) (by omega)
        exact runs6_go (valid_of_may hk hm).1 h1 h2 h3 h4 h5 hm hp
  · exact Ev.ifp rfl hliv
end
end Go.Proofs.Yteiiodlgdbiimaa.F
end
section
namespace Go.Proofs.Yteiiodlgdbiimaa.F
open Go.Joins Go.ChangeShapes Go.WideShapes Go.ChangeAt Go.Deep Go.RowKit Go.Proofs.YteiiodlgdbiimaaW.PrintWords Go.Proofs.YteiiodlgdbiimaaW.PrintLast Go.Proofs.YteiiodlgdbiimaaW.PrintMore
set_option linter.unusedVariables false
set_option linter.unusedSimpArgs false
theorem lt63 {n : Nat} (h : n ≤ 9223372036854775807) : n < 9223372036854775808 := by omega
end Go.Proofs.Yteiiodlgdbiimaa.F
end
section
namespace Go.Proofs.Yteiiodlgdbiimaa.F
open Go.Joins Go.ChangeShapes Go.WideShapes Go.ChangeAt Go.Deep Go.RowKit Go.Proofs.YteiiodlgdbiimaaW.PrintWords Go.Proofs.YteiiodlgdbiimaaW.PrintLast Go.Proofs.YteiiodlgdbiimaaW.PrintMore
set_option linter.unusedVariables false
set_option linter.unusedSimpArgs false
theorem openRows {H : Type} {enc : TypeId × Value → H} {w : World} {base : Nat} {sp : Nat → Bool} {held : Bool} {fuel : Nat} {v : Value} {x : DataW H × List MemPlace} (h : DataW.trod enc Try.prog w base sp held fuel 29 [v] = some x) :
    ∃ (A : Option Addr) (c : Nat) (l : List (List Int)), v = .slice A l.length c ∧ l.length ≤ c ∧ Kd.C (Kd.slice 5 (Kd.int .u8)) w A l.length l ∧ ∀ r ∈ l, InU8 r ∧ r.length < 9223372036854775808 := by
  rcases open_slice1 Try.underlying29 (by kernel_rfl) h with ⟨hcs, _⟩ | ⟨a, len, cap, m, n, V, D, Pl, hcs, hb, hl, hm, hmm, _, hi⟩
  · injection hcs with e1 _
    exact ⟨none, 0, [], e1, Nat.le_refl _, ⟨rfl, by simp, fun h => absurd h (by simp)⟩, fun g hg => by cases hg⟩
  · injection hcs with e1 _
    have hlm : len ≤ m := by rw [hmm]; split <;> omega
    obtain ⟨l, hll, hq⟩ := list_of (fun i (r : List Int) => ∃ (A : Option Addr) (c : Nat), V i = .slice A r.length c ∧ r.length ≤ c ∧ Kd.C (Kd.int .u8) w A r.length r ∧ InU8 r) len (fun i hlt => by
      obtain ⟨_, ht⟩ := hi i (by omega)
      obtain ⟨A, c, r, e, h1, h2, h3⟩ := openB ht
      exact ⟨r, A, c, e, h1, h2, h3⟩)
    refine ⟨some a, cap, l, by rw [hll]; exact e1, by omega, ⟨rfl, by simp only [maxLen] at hm; omega, fun _ => ⟨a, rfl, fun j p hj => ?_⟩⟩, fun r hr => ?_⟩
    · obtain ⟨A, c, e, h1, h2, _⟩ := hq j p hj
      have hjl := (List.getElem?_eq_some_iff.1 hj).1
      refine ⟨[.slice A p.length c], rfl, ⟨A, c, rfl, h1, h2⟩, fun i u hu => ?_⟩
      cases i with
      | zero =>
        cases hu
        have := (hi j (by omega)).1
        rw [e] at this
        show w.cell? (a.add (j * 1 + 0)) = _
        rw [Nat.mul_one, Nat.add_zero]
        exact this
      | succ i => simp at hu
    · obtain ⟨j, hj, rfl⟩ := List.mem_iff_getElem.1 hr
      obtain ⟨A, c, e, h1, h2, h3⟩ := hq j _ (List.getElem?_eq_getElem hj)
      exact ⟨h3, lt63 h2.2.1⟩
section
variable {H : Type} {enc : TypeId × Value → H} {w : World} {base : Nat} {spare : Nat → Bool} {held : Bool}
set_option maxRecDepth 100000 in
theorem open_trio {r : Reach} {b0 : Nat} {t : TypeId} {f0 f1 f2 : Field} {v : Value} {d : DataW H} {p : List MemPlace} (hs : Try.prog.underlying t = some (.struct #[f0, f1, f2])) (hone : oneCellFields Try.prog #[f0, f1, f2] = true) (hC : Try.prog.cellsOf t = 3)
    (hv : Value.okWide Try.prog w r b0 t v) (h : DataW.Trod enc Try.prog w base spare held t v d p) :
    ∃ (v0 v1 v2 : Value) (y0 y1 y2 : DataW H × List MemPlace) (n : Nat), v = .agg #[v0, v1, v2] ∧ d = .agg [y0.1, y1.1, y2.1] ∧ p = y0.2 ++ (y1.2 ++ y2.2) ∧
      DataW.trod enc Try.prog w base spare held n f0.type [v0] = some y0 ∧ DataW.trod enc Try.prog w base spare held n f1.type [v1] = some y1 ∧ DataW.trod enc Try.prog w base spare held n f2.type [v2] = some y2 := by
  obtain ⟨cs, rfl, hsz⟩ := okWide_struct hs hv
  obtain ⟨l⟩ := cs
  match l, hsz.trans hC with
  | [c0, c1, c2], _ =>
    obtain ⟨fuel, hf⟩ := h
    obtain ⟨xs, n, _, hx, _, hlen, hg⟩ := DataW.trod_struct hs hf
    obtain ⟨o0, k0⟩ := hone_of hone 0 f0 rfl
    obtain ⟨o1, k1⟩ := hone_of hone 1 f1 rfl
    obtain ⟨o2, k2⟩ := hone_of hone 2 f2 rfl
    match xs, hlen with
    | [y0, y1, y2], _ =>
      simp only [Prod.mk.injEq] at hx
      exact ⟨c0, c1, c2, y0, y1, y2, n, rfl, by simpa using hx.1, by simpa using hx.2, by simpa [Value.cells, o0, k0] using hg 0 f0 rfl, by simpa [Value.cells, o1, k1] using hg 1 f1 rfl, by simpa [Value.cells, o2, k2] using hg 2 f2 rfl⟩
end
set_option maxRecDepth 100000 in
theorem openTrace {H : Type} {enc : TypeId × Value → H} {w : World} {base : Nat} {sp : Nat → Bool} {held : Bool} {r : Reach} {b0 : Nat} {v : Value} {d : DataW H} {p : List MemPlace} (hv : Value.okWide Try.prog w r b0 31 v) (h : DataW.Trod enc Try.prog w base sp held 31 v d p) :
    ∃ (a0 : Int) (A1 : Option Addr) (c1 : Nat) (l1 : List Int) (A2 : Option Addr) (c2 : Nat) (l2 : List (List Int)),
      v = .agg #[.int .i64 a0, .slice A1 l1.length c1, .slice A2 l2.length c2] ∧ (-9223372036854775808 ≤ a0 ∧ a0 < 9223372036854775808) ∧
      (l1.length ≤ c1 ∧ Kd.C (Kd.int .u8) w A1 l1.length l1 ∧ InU8 l1) ∧ (l2.length ≤ c2 ∧ Kd.C (Kd.slice 5 (Kd.int .u8)) w A2 l2.length l2 ∧ ∀ r ∈ l2, InU8 r ∧ r.length < 9223372036854775808) := by
  obtain ⟨v0, v1, v2, y0, y1, y2, n, rfl, _, _, t0, t1, t2⟩ := open_trio Try.underlying31 (by kernel_rfl) (by kernel_rfl) hv h
  obtain ⟨a0, e0, _, w0⟩ := DataW.trod_int Try.underlying3 t0
  injection e0 with e0 _
  subst e0
  obtain ⟨A1, c1, l1, rfl, h1, k1, i1⟩ := openB t1
  obtain ⟨A2, c2, l2, rfl, h2, k2, i2⟩ := openRows t2
  exact ⟨a0, A1, c1, l1, A2, c2, l2, rfl, wf_i64 w0, ⟨h1, k1, i1⟩, ⟨h2, k2, i2⟩⟩
end Go.Proofs.Yteiiodlgdbiimaa.F
end
section
namespace Go.Proofs.Yteiiodlgdbiimaa.strashRuns
open Go.ChangeShapes Go.WideShapes Go.ChangeAt Go.RowKit Go.Proofs.Yteiiodlgdbiimaa.F Go.Proofs.YteiiodlgdbiimaaW.PrintWords Go.Proofs.YteiiodlgdbiimaaW.PrintLast Go.Proofs.YteiiodlgdbiimaaW.PrintMore
set_option linter.unusedVariables false
theorem own : ownKnob Try.prog.godebug = none := by kernel_rfl
theorem laidOut : laidOutB Try.prog = true := by kernel_rfl
set_option maxRecDepth 100000 in
theorem lifted (os : Os) (started : os.Started) (H : Type) (enc : TypeId × Value → H) :
    ReturnsInHanded {} Try.checked os 6 .any (Rows.strashRunsSpec.pre6 enc Try.prog Try.f6 Rows.strashRunsRow.domain false) (Rows.strashRunsSpec.post enc Try.prog Try.f6 false true false false) := by
  refine returnsInHanded_of_change_sized (C := Try.checked) own started (by kernel_rfl) Try.func6
    (ChangeSpec.witness6 (enc := enc) (C := Try.checked) false ⟨#[], #[.agg #[.int .i64 0, .slice none 0 0, .slice none 0 0, .slice none 0 0, .slice none 0 0, .slice none 0 0], .agg #[.int .i64 0, .slice none 0 0, .slice none 0 0]], []⟩ 8 (by kernel_rfl) (by kernel_rfl) (by kernel_rfl) (by kernel_rfl)) ?_
  intro W base args ds gs before hval0 hW hcnd hsz0 _
  have hval : ∀ (j : Nat) t v, Try.f6.params[j]? = some t → args[j]? = some v → Value.okWide Try.prog W .any base t v := hval0
  have hW' := hW
  obtain ⟨p, q, hA0, hV, rfl, hfz, hnd⟩ := hW
  have hA : DataW.TrodAll enc Try.prog W 0 (fun _ => true) true Try.f6.params.toList args.toList ds p := hA0
  rw [Try.params6] at hA hval
  obtain ⟨v0, vs0, d0, ds0, p0, q0, hargs, rfl, rfl, h0, r0⟩ := trodAll_cons hA
  obtain ⟨v1, vs1, d1, ds1, p1, q1, rfl, rfl, rfl, h1, r1⟩ := trodAll_cons r0
  obtain ⟨rfl, rfl, rfl⟩ := trodAll_nil r1
  obtain rfl : args = #[v0, v1] := by cases args; simp_all
  obtain ⟨rfl, rfl⟩ := trodVars_none hV
  have k0 := h0
  have lt0 : ∀ x ∈ p0, x.block < W.heap.size := by obtain ⟨m, hm⟩ := k0; exact DataW.trod_lt m _ _ _ hm
  obtain ⟨a0_0, A0_1, c0_1, l0_1, A0_2, c0_2, l0_2, A0_3, c0_3, l0_3, A0_4, c0_4, l0_4, A0_5, c0_5, l0_5, rfl, w0, ⟨hc0_1, hr0_1, w0_1⟩, ⟨hc0_2, hr0_2, w0_2⟩, ⟨hc0_3, hr0_3, w0_3⟩, ⟨hc0_4, hr0_4, w0_4⟩, ⟨hc0_5, hr0_5, w0_5⟩⟩ := openCirc (hval 0 26 v0 rfl rfl) h0
  have k1 := h1
  have lt1 : ∀ x ∈ p1, x.block < W.heap.size := by obtain ⟨m, hm⟩ := k1; exact DataW.trod_lt m _ _ _ hm
  obtain ⟨a1_0, A1_1, c1_1, l1_1, A1_2, c1_2, l1_2, rfl, w1, ⟨hc1_1, hr1_1, w1_1⟩, ⟨hc1_2, hr1_2, w1_2⟩⟩ := openTrace (hval 1 31 v1 rfl rfl) h1
  clear hA0 hval0 hsz0
  obtain ⟨k, hpure⟩ := Ev.rounds (runs6_ev (bad := a1_0) w0 (lt63 hr0_3.2.1) (lt63 hr0_4.2.1) (lt63 hr0_5.2.1) (lt63 hr1_1.2.1) w0_1 w0_2 w0_3 w0_4 w0_5 w1_1 (rows_in w1_2))
  refine (inquestlaw24_StrashRuns.calls k a0_0 A0_1 c0_1 l0_1 A0_2 c0_2 l0_2 A0_3 c0_3 l0_3 A0_4 c0_4 l0_4 A0_5 c0_5 l0_5 a1_0 A1_1 c1_1 l1_1 A1_2 c1_2 l1_2 true ⟨rfl⟩ W hr0_1 hc0_1 hr0_2 hc0_2 hr0_3 hc0_3 hr0_4 hc0_4 hr0_5 hc0_5 hr1_1 hc1_1 hr1_2 hc1_2 hpure).mono fun e W' ⟨he, bel⟩ => ?_
  subst he
  exact ⟨_, rfl, _, _, _, [], _, [], hW', trodAll_mk1 (shut_bool Try.underlying4 _), (trodAll_cons_mk (Below.trod laidOut (by kernel_rfl) (of_decide_eq_true (by kernel_rfl)) k0 bel lt0) (trodAll_cons_mk (Below.trod laidOut (by kernel_rfl) (of_decide_eq_true (by kernel_rfl)) k1 bel lt1) trodAll_mk0)), rfl, bel.frame _, fun h => by cases h⟩
theorem closed : joinedFacts Try.pinned.checked.prog 6 Try.f6 Rows.strashRunsSpec Rows.strashRunsRow = true := by
  unfold joinedFacts
  rw [may_enter, lifts_no, make_is]
  kernel_rfl
theorem over : Rows.strashRunsRow.holds Try.pinned (OpenSpec.ofChange Rows.strashRunsSpec) :=
  OpenClaim.holds_of_wide 6 Try.f6 rfl rfl rfl rfl rfl rfl rfl ⟨rfl, rfl, rfl, rfl, rfl⟩ rfl rfl rfl rfl rfl (by kernel_rfl) Try.func6 closed
    (of_decide_eq_true (by kernel_rfl)) (by unfold Func.isWrapper; first | (rw [if_pos (by decide +kernel)]; kernel_rfl) | (rw [if_neg (by decide +kernel)]; exact ⟨rfl, rfl⟩))
    (fun os started H enc _ => lifted os started H enc)
theorem proved : Rows.StrashRunsSaid := over
#print axioms proved
end Go.Proofs.Yteiiodlgdbiimaa.strashRuns
namespace Go.Proofs.Yteiiodlgdbiimaa
theorem strashRuns_holds : Rows.StrashRunsSaid := strashRuns.proved
end Go.Proofs.Yteiiodlgdbiimaa
end
