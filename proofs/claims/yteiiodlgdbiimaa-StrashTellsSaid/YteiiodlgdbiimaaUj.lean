/- What the proof of the law StrashTells needs, part 10: the walks of the functions that it reaches, and the plain words on what these compute. -/
import Derived.Test.YteiiodlgdbiimaaUi
section
namespace Go.Proofs.Yteiiodlgdbiimaa.F
open Go.RowKit Go.Proofs.YteiiodlgdbiimaaW.PrintWords Go.Proofs.YteiiodlgdbiimaaW.PrintLast Go.Proofs.YteiiodlgdbiimaaW.PrintMore
attribute [local go_sem] max2_int min2_int max_two min_two max_three min_three max_four min_four
set_option linter.unusedVariables false
set_option linter.unusedSimpArgs false
def inquestref24_lits.l0 : Nat → List Int → List Int → List Int → Int → Option (List Int)
  | 0, _, _, _, _ => none
  | k + 1, x0, x1, x5, x6 => if x6 < (x1.length : Int) then (if 0 ≤ x6 then ((inquestref24_Lit.f x0 (rd x1 x6)).bind fun t406 => (if x5.length < 35184372088832 then (inquestref24_lits.l0 k x0 x1 (x5 ++ [t406]) (wrap64 (x6 + 1))) else (none))) else (none)) else (some x5)
def inquestref24_lits.f (k : Nat) (l0 : List Int) (l1 : List Int) : Option (List Int) := inquestref24_lits.l0 k l0 l1 ([] : List Int) 0
set_option maxHeartbeats 8000000 in
set_option maxRecDepth 100000 in
theorem inquestref24_lits.calls (k : Nat) (A0 : Option Addr) (c0 : Nat) (l0 : List Int) (A1 : Option Addr) (c1 : Nat) (l1 : List Int) (r : List Int) (w : World) (hr0 : Kd.C (Kd.int .u32) w A0 l0.length l0) (hc0 : l0.length ≤ c0) (hr1 : Kd.C (Kd.int .u32) w A1 l1.length l1) (hc1 : l1.length ≤ c1) (h : inquestref24_lits.f k l0 l1 = some r) :
  Calls Try.prog 106 #[.slice A0 l0.length c0, .slice A1 l1.length c1] w fun e w' => ∃ v0_ : Value, e = .returned (v0_) ∧ Kd.R (Kd.int .u32) 39 w' w.heap.size (fun _ => True) v0_ r ∧ Below w.heap.size w w' := by
 have HR0 := Aside0.mk hr0
 have HC0 := Aside0.mk hc0
 clear hr0 hc0
 have HR1 := Aside0.mk hr1
 have HC1 := Aside0.mk hc1
 clear hr1 hc1
 have HB := Aside0.mk (Below.refl w.heap.size w)
 have H : (inquestref24_lits.l0 k l0 l1 ([] : List Int) 0) = some r := h
 clear h
 have H' := Aside0.mk H
 clear H
 go_enter Try.func106, Try.ntmps106
 go_wp2
 go_loopg [5, 6] k (fun kq v5 v6 w' => ∃ (x5_1 : List Int) (x6_1 : Int), v6 = .int .i64 x6_1 ∧ Aside0 (inquestref24_lits.l0 kq l0 l1 x5_1 x6_1 = some r) ∧ Aside0 (kq ≤ k) ∧ Aside0 (Kd.R (Kd.int .u32) 39 w' w.heap.size (fun _ => True) v5 x5_1) ∧ Aside0 (Below w.heap.size w w'))
 case atStart => exact ⟨(([] : List Int)), (0), (by first | rfl | (simp; done) | (simp [*]; done)), H', ⟨Nat.le_refl _⟩, ⟨by first | exact Kd.R_nil _ _ _ _ _ | exact Kd.N_nil _ _ _ _ _ | exact Kd.V_nil _ _ _ _ _ | exact Kd.Q_nil _ _ _ _ _ | exact Kd.S_nil _ _ _ _ _⟩, ⟨by repeat (first | (with_reducible first | exact HB.out | apply below_alloc | apply pw_below_drewN | apply below_drew1) | exact HB.out)⟩⟩
 case round =>
  clear H'
  try clear c1
  try clear p2
  obtain ⟨x5_1, x6_1, rfl, HA, HK1, HO_5, HB⟩ := hrel
  cases gk with
  | zero => exact absurd HA.out (by simp [inquestref24_lits.l0])
  | succ k1 =>
   have H := HA.out
   clear HA
   simp only [inquestref24_lits.l0] at H
   by_cases c3 : x6_1 < (l1.length : Int)
   ·
    rw [if_pos c3] at H
    have c3b0 : decide (x6_1 < (l1.length : Int)) = true := decide_eq_true c3
    clear c3
    by_cases c4 : 0 ≤ x6_1
    ·
     rw [if_pos c4] at H
     have c4b0 : decide (0 ≤ x6_1) = true := decide_eq_true c4
     clear c4
     replace H := Option.bind_eq_some_iff.mp H
     obtain ⟨t406, A50, H⟩ := H
     replace H : (if x5_1.length < 35184372088832 then (inquestref24_lits.l0 k1 l0 l1 (x5_1 ++ [t406]) (wrap64 (x6_1 + 1))) else (none)) = some r := H
     have A5 := Aside0.mk A50
     clear A50
     by_cases c6 : x5_1.length < 35184372088832
     ·
      rw [if_pos c6] at H
      have LMc6 := Aside0.mk c6
      clear c6
      obtain ⟨y407, hy407⟩ : ∃ y_ : List Int, y_ = (x5_1 ++ [t406]) := ⟨_, rfl⟩
      replace H : (inquestref24_lits.l0 k1 l0 l1 y407 (wrap64 (x6_1 + 1))) = some r := by first | (rw [hy407]; with_reducible exact H) | (have H2_ := (Option.bind_some _ _).symm.trans H; rw [hy407]; with_reducible exact H2_) | (have H2_ := (Option.bind_some _ _).symm.trans H; with_reducible exact H2_) | with_reducible exact H | (rw [hy407]; exact H) | exact H
      have Ny407 := Aside0.mk hy407
      clear hy407
      have H' := Aside0.mk H
      clear H
      have p405 : 0 ≤ (x6_1 : Int) := of_decide_eq_true (by first | (with_reducible assumption) | assumption)
      have q405 : x6_1 < (l1.length : Int) := of_decide_eq_true (by first | (with_reducible assumption) | assumption)
      obtain ⟨ad405, e405, hx405_0⟩ := Kd.at_int HR1.out x6_1 p405 q405
      cases e405
      replace hx405_0 := (HB.out.cell (World.block_lt_of_cell? w _ hx405_0)).trans hx405_0
      replace p405 := eq_true p405
      replace q405 := eq_true q405
      go_wp2_with (first | ((with_reducible refine gate_callee (f := 46) rfl ?_); refine goesL_ (some 19) rfl rfl Try.func46 (by kernel_rfl) rfl #[.slice A0 l0.length c0, .int .u32 (rd l1 x6_1)] rfl (by (try simp only [List.map_toArray, List.map_cons, List.map_nil]); first | done | rfl | (simp only [List.length_drop, List.length_take]; rfl)) ?_; (with_reducible refine (inquestref24_Lit.calls _ _ l0 (rd l1 x6_1) t406 _ ?side1 ?side2 A5.out).mono ?_); (case side1 => repeat (first | exact (Kd.C_below HR0.out HB.out) | (with_reducible refine Kd.C_alloc ?_ _) | (with_reducible refine Kd.C_drewN ?_ _) | (with_reducible refine Kd.C_drew ?_))); (case side2 => exact HC0.out); rintro e w' ⟨rfl, ⟨nd, rfl⟩⟩; refine ⟨_, rfl, ?_⟩) | ((with_reducible refine gate_builtin (b := .append) (xs := #[.tmp 13, .tmp 20]) rfl ?_); at_builtin; refine Kd.R_append (Kd.int .u32) (w0 := w) w.heap.size rfl (.tmp 13) (.tmp 20) 24 39 (.int .u32 0) 4 rfl Try.underlying24 info39 rfl (by decide) (by omega) u5 x5_1 t406 [.int .u32 t406] (fun _ => True) (fun _ => False) rfl rfl ?aP (fun _ hk => hk.elim) ?aF ?aO ?aB ?aS ?aL ?_; (case aP => exact rfl); (case aB => exact (by repeat (first | (with_reducible first | exact HB.out | apply below_alloc | apply pw_below_drewN | apply below_drew1) | exact HB.out))); (case aF => exact (fun _ _ => trivial)); (case aO => exact (by (with_reducible repeat (first | apply Kd.R_alloc | apply Kd.R_drewN | apply Kd.R_drew)); exact HO_5.out)); (case aS => exact (below_size (by repeat (first | (with_reducible first | exact HB.out | apply below_alloc | apply pw_below_drewN | apply below_drew1) | exact HB.out)))); (case aL => have := LMc6.out; omega); intro v408 w7 ho hb hg hat; rw [← Ny407.out] at ho; have n0_ := Aside0.mk (hb); have n1_ := Aside0.mk (ho); clear HB; clear HO_5; have HB := n0_; have HO409 := n1_; clear n0_ n1_; clear ho hb hg hat))
      go_roundg k1
      case measure => have := HK1.out; omega
      case rel => exact ⟨(y407), (wrap64 (x6_1 + 1)), (by first | rfl | (simp; done) | (simp [*]; done)), H', ⟨by have := HK1.out; omega⟩, ⟨by (with_reducible repeat (first | apply Kd.R_alloc | apply Kd.R_drewN | apply Kd.R_drew)); exact HO409.out⟩, ⟨by repeat (first | (with_reducible first | exact HB.out | apply below_alloc | apply pw_below_drewN | apply below_drew1) | exact HB.out)⟩⟩
     ·
      rw [if_neg c6] at H
      exact absurd H (by simp)
    ·
     rw [if_neg c4] at H
     exact absurd H (by simp)
   ·
    rw [if_neg c3] at H
    have c3b0 : decide (x6_1 < (l1.length : Int)) = false := decide_eq_false c3
    clear c3
    obtain rfl := Option.some.inj H
    go_wp2
    go_ret
    exact ⟨_, by first | rfl | (simp [errW_none, errW_some] <;> rfl) | (simp [*, errW_none, errW_some] <;> rfl), by (with_reducible repeat (first | apply Kd.R_alloc | apply Kd.R_drewN | apply Kd.R_drew)); exact HO_5.out, by repeat (first | (with_reducible first | exact HB.out | apply below_alloc | apply pw_below_drewN | apply below_drew1) | exact HB.out)⟩
end Go.Proofs.Yteiiodlgdbiimaa.F
end
section
namespace Go.Proofs.Yteiiodlgdbiimaa.F
open Go.RowKit Go.Shelf Go.Proofs.YteiiodlgdbiimaaW.PrintWords Go.Proofs.YteiiodlgdbiimaaW.PrintLast Go.Proofs.YteiiodlgdbiimaaW.PrintMore
set_option linter.unusedVariables false
set_option linter.unusedSimpArgs false
theorem opp_is {r : Int} (h0 : 0 ≤ r) (h1 : r < 4294967296) : inquestref24_opposite.f r = some (Go.bits .xor .u32 r 1) := by
  unfold inquestref24_opposite.f
  rw [Int.tmod_eq_emod_of_nonneg h0, xor_one h0 h1]
  by_cases h : r % 2 = 1
  · rw [if_pos h]
    congr 1
    omega
  · rw [if_neg h]
    congr 1
    omega
theorem rlit_is {tl : List Int} (ht : InU32 tl) {x : Int} (h0 : 0 ≤ x) (h1 : x < 4294967296) : inquestref24_Lit.f tl x = some (litP tl x) := by
  have hr := rd_u32 ht (x / 2)
  unfold inquestref24_Lit.f litP
  rw [half_u32 h0 h1, Int.tmod_eq_emod_of_nonneg h0, and_one h0 h1]
  by_cases hl : x / 2 < (tl.length : Int)
  · rw [if_neg (by omega), if_pos hl]
    by_cases hp : x % 2 = 1
    · rw [if_pos hp, if_pos (by omega), if_pos hl, opp_is hr.1 hr.2, hp]
      rfl
    · rw [if_neg hp, if_pos (by omega), if_pos hl, show x % 2 = 0 by omega, xor_zero32 hr.1 hr.2, if_pos hl]
  · rw [if_pos (by omega), if_neg hl]
def oneP (F : Int) (gs : List S68) (a b : Int) : Int × Bool :=
  if mn a b = 0 then (0, true) else if mx a b = Go.bits .xor .u32 (mn a b) 1 then (0, true) else if mn a b = 1 then (mx a b, true) else if mx a b = mn a b then (mx a b, true)
  else match idxG gs (mx a b) (mn a b) with
    | some j => (2 * (F + (j : Int)), true)
    | none => (0, false)
theorem gate_one (F : Int) (gs : List S68) (a b : Int) : gateP F gs a b = if (oneP F gs a b).2 = true then ((oneP F gs a b).1, gs) else (2 * (F + (gs.length : Int)), gs ++ [⟨mx a b, mn a b⟩]) := by
  unfold gateP oneP
  split
  · rfl
  split
  · rfl
  split
  · rfl
  split
  · rfl
  cases idxG gs (mx a b) (mn a b) <;> rfl
theorem one_loop {F : Int} {gs : List S68} {hi lo : Int} (hF : 0 ≤ F ∧ F ≤ 40000) (hg : gs.length ≤ 40000) : ∀ (d i : Nat), gs.length - i = d → i ≤ gs.length →
    Ev (fun k => inquestref24_one.l0 k gs F hi lo (i : Int)) (match idxG (gs.drop i) hi lo with | some m => (2 * (F + ((i + m : Nat) : Int)), true) | none => (0, false)) := by
  intro d
  induction d with
  | zero =>
    intro i hd hi'
    obtain rfl : i = gs.length := by omega
    rw [List.drop_length]
    refine Ev.step (f := fun _ => some (0, false)) (fun k => ?_) (Ev.now _)
    simp only [inquestref24_one.l0]
    rw [if_neg (by omega)]
  | succ d ih =>
    intro i hd hi'
    have hlt : i < gs.length := by omega
    have hn := ih (i + 1) (by omega) (by omega)
    rw [drop_at hlt]
    have hno : ¬ (gs[i].f0 = hi ∧ gs[i].f1 = lo) → (match idxG (gs[i] :: gs.drop (i + 1)) hi lo with | some m => (2 * (F + ((i + m : Nat) : Int)), true) | none => (0, false)) = (match idxG (gs.drop (i + 1)) hi lo with | some m => (2 * (F + ((i + 1 + m : Nat) : Int)), true) | none => (0, false)) := fun h => by
      have e : idxG (gs[i] :: gs.drop (i + 1)) hi lo = (idxG (gs.drop (i + 1)) hi lo).map (· + 1) := by
        rw [idxG]
        rw [if_neg h]
      rw [e]
      cases idxG (gs.drop (i + 1)) hi lo with
      | none => rfl
      | some m =>
        show (2 * (F + ((i + (m + 1) : Nat) : Int)), true) = _
        rw [show i + (m + 1) = i + 1 + m by omega]
    by_cases c0 : gs[i].f0 = hi
    · by_cases c1 : gs[i].f1 = lo
      · have e : idxG (gs[i] :: gs.drop (i + 1)) hi lo = some 0 := by unfold idxG; rw [if_pos ⟨c0, c1⟩]
        rw [e]
        refine Ev.step (f := fun _ => some (2 * (F + ((i + 0 : Nat) : Int)), true)) (fun k => ?_) (Ev.now _)
        simp only [inquestref24_one.l0]
        rw [if_pos (by omega), if_pos (by omega), rd68_at hlt, if_pos c0, if_pos c1]
        congr 2
        omega
      · rw [hno (fun h => c1 h.2)]
        refine Ev.step (fun k => ?_) hn
        simp only [inquestref24_one.l0]
        rw [if_pos (by omega), if_pos (by omega), rd68_at hlt, if_pos c0, if_neg c1, wrap_nat (by omega)]
    · rw [hno (fun h => c0 h.1)]
      refine Ev.step (fun k => ?_) hn
      simp only [inquestref24_one.l0]
      rw [if_pos (by omega), if_pos (by omega), rd68_at hlt, if_neg c0, wrap_nat (by omega)]
theorem one_ev {F : Int} {gs : List S68} {a b : Int} (hF : 0 ≤ F ∧ F ≤ 40000) (hg : gs.length ≤ 40000) (ha : 0 ≤ a ∧ a < 4294967296) (hb : 0 ≤ b ∧ b < 4294967296) : Ev (fun k => inquestref24_one.f k gs F a b) (oneP F gs a b) := by
  have key : ∀ hi lo : Int, mx a b = hi → mn a b = lo → (0 ≤ lo ∧ lo < 4294967296) → Ev (fun k => inquestref24_one.j0 k gs F hi lo) (oneP F gs a b) := fun hi lo e1 e2 hl => by
    unfold oneP
    rw [e1, e2]
    have hj2 : ∀ b : Bool, Ev (fun k => inquestref24_one.j2 k gs F hi lo b) (if b = true then (hi, true) else (match idxG gs hi lo with | some j => (2 * (F + (j : Int)), true) | none => (0, false))) := fun b => by
      cases b
      · have h0 := one_loop (hi := hi) (lo := lo) hF hg gs.length 0 (by omega) (by omega)
        rw [List.drop_zero] at h0
        have e : (match idxG gs hi lo with | some m => (2 * (F + ((0 + m : Nat) : Int)), true) | none => (0, false)) = (match idxG gs hi lo with | some j => (2 * (F + (j : Int)), true) | none => (0, false)) := by
          cases idxG gs hi lo with
          | none => rfl
          | some m => show (2 * (F + ((0 + m : Nat) : Int)), true) = _; rw [Nat.zero_add]
        rw [e] at h0
        refine Ev.step (fun k => ?_) h0
        simp only [inquestref24_one.j2]
        rw [if_neg (by decide)]
        rfl
      · refine Ev.step (f := fun _ => some (hi, true)) (fun k => ?_) (Ev.now _)
        simp only [inquestref24_one.j2]
        rw [if_pos trivial]
    have hj1t : Ev (fun k => inquestref24_one.j1 k gs F hi lo true) (0, true) := by
      refine Ev.step (f := fun _ => some (0, true)) (fun k => ?_) (Ev.now _)
      simp only [inquestref24_one.j1]
      rw [if_pos trivial]
    by_cases c0 : lo = 0
    · rw [if_pos c0]
      refine Ev.step (fun k => ?_) hj1t
      simp only [inquestref24_one.j0]
      rw [if_pos c0]
    rw [if_neg c0]
    by_cases c1 : hi = Go.bits .xor .u32 lo 1
    · rw [if_pos c1]
      refine Ev.step (fun k => ?_) hj1t
      simp only [inquestref24_one.j0]
      rw [if_neg c0, opp_is hl.1 hl.2]
      show inquestref24_one.j1 k gs F hi lo (hi == Go.bits .xor .u32 lo 1) = _
      rw [beq_iff_eq.2 c1]
    rw [if_neg c1]
    have hj1f : ∀ r, Ev (fun k => inquestref24_one.j1 k gs F hi lo false) r → Ev (fun k => inquestref24_one.j0 k gs F hi lo) r := fun r h => by
      refine Ev.step (fun k => ?_) h
      simp only [inquestref24_one.j0]
      rw [if_neg c0, opp_is hl.1 hl.2]
      show inquestref24_one.j1 k gs F hi lo (hi == Go.bits .xor .u32 lo 1) = _
      rw [beq_eq_false_iff_ne.2 c1]
    refine hj1f _ ?_
    by_cases c2 : lo = 1
    · rw [if_pos c2]
      refine Ev.step (fun k => ?_) (hj2 true)
      simp only [inquestref24_one.j1]
      rw [if_neg (by decide), if_pos c2]
    rw [if_neg c2]
    by_cases c3 : hi = lo
    · rw [if_pos c3]
      refine Ev.step (fun k => ?_) (hj2 true)
      simp only [inquestref24_one.j1]
      rw [if_neg (by decide), if_neg c2, beq_iff_eq.2 c3]
    · rw [if_neg c3]
      refine Ev.step (fun k => ?_) (hj2 false)
      simp only [inquestref24_one.j1]
      rw [if_neg (by decide), if_neg c2, beq_eq_false_iff_ne.2 c3]
  unfold inquestref24_one.f
  by_cases h : a < b
  · refine Ev.ifp h (key b a (by unfold mx; rw [if_pos h]) (by unfold mn; rw [if_neg (by omega)]) ha)
  · refine Ev.ifn h (key a b (by unfold mx; rw [if_neg h]) (by unfold mn; split <;> omega) hb)
theorem rlits_ev {tl l : List Int} (ht : InU32 tl) (hl : InU32 l) (hn : l.length ≤ 1000000) : Ev (fun k => inquestref24_lits.f k tl l) (l.map (litP tl)) := by
  have key : ∀ (d i : Nat), l.length - i = d → i ≤ l.length → Ev (fun k => inquestref24_lits.l0 k tl l ((l.take i).map (litP tl)) (i : Int)) (l.map (litP tl)) := by
    intro d
    induction d with
    | zero =>
      intro i hd hi
      obtain rfl : i = l.length := by omega
      rw [List.take_length]
      refine Ev.step (f := fun _ => some (l.map (litP tl))) (fun k => ?_) (Ev.now _)
      simp only [inquestref24_lits.l0]
      rw [if_neg (by omega)]
    | succ d ih =>
      intro i hd hi
      have hlt : i < l.length := by omega
      have hx := hl _ (List.getElem_mem hlt)
      have e : (l.take (i + 1)).map (litP tl) = (l.take i).map (litP tl) ++ [litP tl l[i]] := by rw [take_next hlt, List.map_append]; rfl
      have el : ((l.take i).map (litP tl)).length = i := by rw [List.length_map, List.length_take]; omega
      refine Ev.step (fun k => ?_) (ih (i + 1) (by omega) (by omega))
      simp only [inquestref24_lits.l0]
      rw [if_pos (by omega), if_pos (by omega), rd_at hlt, rlit_is ht hx.1 hx.2, Option.bind_some, if_pos (by omega), e, wrap_nat (by omega)]
  exact key l.length 0 (by omega) (by omega)
end Go.Proofs.Yteiiodlgdbiimaa.F
end
