/- The law ConeGrows in plain Lean, joined. -/
import Derived.Test.YteiiodlgdbiimaaXConeA
namespace Go.Proofs.Yteiiodlgdbiimaa.F
open Go.RowKit Go.Shelf Go.Proofs.YteiiodlgdbiimaaW.PrintWords Go.Proofs.YteiiodlgdbiimaaW.PrintLast Go.Proofs.YteiiodlgdbiimaaW.PrintMore
set_option linter.unusedVariables false
set_option linter.unusedSimpArgs false
section
variable {a0 : Int} {l1 : List S41} {l2 : List S68} {l3 l4 l5 : List Int} {lits more : List Int} {bad frames : Int}
/-- a row's bits lie among all: the inner loop -/
theorem rows_l3 {rows : List (List Bool)} {A : List Bool} {n i : Nat} {r : Bool} (hi : i < rows.length) (hA : A.length = n) (hn : n < 1000000) (hr : rows[i].length = n) (hsub : ∀ u : Int, 0 ≤ u → bitAt rows[i] u → bitAt A u)
    (hnext : Ev (fun k => inquestlaw09_ConeGrows.l2 k rows A (rows.length : Int) (wrap64 ((i : Int) + 1))) r) :
    Ev (fun k => inquestlaw09_ConeGrows.l3 k rows A (i : Int) (rows.length : Int) (i : Int) ((rd_L16 rows (i : Int)).length : Int) 0) r := by
  have hrd : rd_L16 rows (i : Int) = rows[i] := by simp [rd_L16, List.getD_eq_getElem?_getD, List.getElem?_eq_getElem hi]
  rw [hrd]
  have key : ∀ (d j : Nat), n - j = d → j ≤ n → Ev (fun k => inquestlaw09_ConeGrows.l3 k rows A (i : Int) (rows.length : Int) (i : Int) (rows[i].length : Int) (j : Int)) r := by
    intro d
    induction d with
    | zero =>
      intro j hd hj
      refine Ev.step (fun k => ?_) hnext
      simp only [inquestlaw09_ConeGrows.l3]
      rw [if_neg (by omega)]
    | succ d ih =>
      intro j hd hj
      have hlt : j < n := by omega
      refine Ev.step (fun k => ?_) (ih (j + 1) (by omega) (by omega))
      simp only [inquestlaw09_ConeGrows.l3]
      rw [if_pos (by omega), if_neg (by omega), if_pos (by omega), if_pos (by omega), if_pos (by omega), hrd, if_pos (by omega), wrap_nat (by omega)]
      by_cases hb : rdOf false rows[i] (j : Int) = true
      · rw [if_pos hb, if_pos (by omega), if_pos (show rdOf false A (j : Int) = true from hsub (j : Int) (by omega) hb)]
      · rw [if_neg hb]
  have := key n 0 (by omega) (by omega)
  exact this
theorem rows_l2 {rows : List (List Bool)} {A : List Bool} {n : Nat} (hA : A.length = n) (hn : n < 1000000) (hm : rows.length < 1000000) (hr : ∀ i (h : i < rows.length), rows[i].length = n) (hsub : ∀ i (h : i < rows.length), ∀ u : Int, 0 ≤ u → bitAt rows[i] u → bitAt A u) :
    Ev (fun k => inquestlaw09_ConeGrows.l2 k rows A (rows.length : Int) 0) true := by
  have key : ∀ (d i : Nat), rows.length - i = d → i ≤ rows.length → Ev (fun k => inquestlaw09_ConeGrows.l2 k rows A (rows.length : Int) (i : Int)) true := by
    intro d
    induction d with
    | zero =>
      intro i hd hi
      refine Ev.step (fun k => ?_) (Ev.bind lives09_ev (Ev.now true))
      simp only [inquestlaw09_ConeGrows.l2]
      rw [if_neg (by omega)]
    | succ d ih =>
      intro i hd hi
      have hlt : i < rows.length := by omega
      have hih := ih (i + 1) (by omega) (by omega)
      rw [← wrap_nat (by omega)] at hih
      refine Ev.step (fun k => ?_) (rows_l3 hlt hA hn (hr i hlt) (hsub i hlt) hih)
      simp only [inquestlaw09_ConeGrows.l2]
      rw [if_pos (by omega), if_pos (by omega), if_pos (by omega)]
  exact key rows.length 0 (by omega) (by omega)
theorem bad_bey (hv : Valid a0 l1 l2 l3 l4 l5) (hb : 0 ≤ bad ∧ bad < l4.length) : (l5 ++ [rd l4 bad]).any (beyW (a0 + (l1.length : Int) + (l2.length : Int))) = false := by
  rw [List.any_eq_false]
  intro x hx
  simp only [beyW, decide_eq_true_eq]
  rcases List.mem_append.1 hx with hx | hx
  · have := hv.cons.2 x hx
    omega
  · rw [List.mem_singleton] at hx
    subst hx
    have hm : rd l4 bad ∈ l4 := by
      obtain ⟨b, rfl⟩ := Int.eq_ofNat_of_zero_le hb.1
      rw [rd_at (by omega)]
      exact List.getElem_mem _
    have := hv.bads.2 _ hm
    omega
/-- the last part: frame by frame -/
theorem frames_ev (hk : okIn l1 l2 = true) (h3 : InU32 l3) (h4 : InU32 l4) (h5 : InU32 l5) (hm : mayB a0 l1 l2 l3 l4 l5 = true) (hv : Valid a0 l1 l2 l3 l4 l5) (hV : varsW a0 l1.length l2.length = a0 + (l1.length : Int) + (l2.length : Int)) :
    Ev (fun k => (cone_Frames.f a0 l1 l2 l3 l4 l5 bad frames).bind fun bt203 => (if bt203.2 = 0 then (if ([] : List Int).length + l5.length < 35184372088832 then ((some (([] : List Int) ++ l5 : List Int)).bind fun y208 => (if 0 ≤ bad then (if bad < (l4.length : Int) then (if y208.length < 35184372088832 then ((cone_Ever.f a0 l1 l2 l3 l4 l5 (y208 ++ [rd l4 bad])).bind fun bt215 => (if bt215.2 = 0 then (inquestlaw09_ConeGrows.j5 k bt203.1 bt215.1 ((bt203.1.length : Int) != frames)) else (inquestlaw09_ConeGrows.j5 k bt203.1 bt215.1 true))) else (none)) else (none)) else (none))) else (none)) else ((inquestlaw09_lives.f k).bind fun t207 => (some t207)))) true := by
  have hp := hv.pos
  have hle := hv.le
  by_cases hc : mayB a0 l1 l2 l3 l4 l5 = true ∧ 0 ≤ bad ∧ bad < l4.length ∧ 1 ≤ frames ∧ frames ≤ 256
  · have hF : cone_Frames.f a0 l1 l2 l3 l4 l5 bad frames = some ((List.range frames.toNat).map (fun j => rowAt a0 l1 l2 l4 l5 bad (frames.toNat - 1 - j)), 0) := by
      unfold cone_Frames.f
      rw [if_pos ⟨hk, u32s_of h4, u32s_of h5⟩, if_pos hc]
    have hcl := hv.cons.1
    have hb : 0 ≤ bad ∧ bad < l4.length := ⟨hc.2.1, hc.2.2.1⟩
    have hbb := bad_bey hv hb
    have hu : InU32 (l5 ++ [rd l4 bad]) := by
      intro x hx
      rcases List.mem_append.1 hx with hx | hx
      · exact h5 x hx
      · rw [List.mem_singleton] at hx
        subst hx
        obtain ⟨b, rfl⟩ := Int.eq_ofNat_of_zero_le hb.1
        rw [rd_at (by omega)]
        exact h4 _ (List.getElem_mem _)
    have hE := ever_is (a0 := a0) (l3 := l3) (l4 := l4) (l5 := l5) hk hu
    rw [if_pos ⟨hm, by rw [hV]; exact hbb⟩] at hE
    refine Ev.bound hF (Ev.ifp rfl (Ev.ifp (by simp; omega) ?_))
    refine Ev.bound (a := l5) (by simp) (Ev.ifp hb.1 (Ev.ifp hb.2 (Ev.ifp (by omega) ?_)))
    refine Ev.bound hE (Ev.ifp rfl ?_)
    generalize hrows : (List.range frames.toNat).map (fun j => rowAt a0 l1 l2 l4 l5 bad (frames.toNat - 1 - j)) = rows
    have hrl : rows.length = frames.toNat := by rw [← hrows]; simp
    have hAl := coneOf_len hk hv hbb true
    refine Ev.step (f := fun k => inquestlaw09_ConeGrows.l2 k rows (coneOf a0 l1 l2 (l5 ++ [rd l4 bad]) true) (rows.length : Int) 0) (fun k => ?_) (rows_l2 hAl (by omega) (by omega) (fun i hi => ?_) (fun i hi => ?_))
    · simp only [inquestlaw09_ConeGrows.j5]
      rw [if_neg]
      simp only [bne_iff_ne, ne_eq, Decidable.not_not]
      omega
    · have e : rows[i] = rowAt a0 l1 l2 l4 l5 bad (frames.toNat - 1 - i) := by simp [← hrows]
      rw [e]
      exact coneOf_len hk hv (litsAt_ok hk (u32s_of h4) (u32s_of h5) hv hb _).2.2 false
    · have e : rows[i] = rowAt a0 l1 l2 l4 l5 bad (frames.toNat - 1 - i) := by simp [← hrows]
      rw [e]
      exact rows_in hk (u32s_of h4) (u32s_of h5) hv hb hbb _
  · have hF : cone_Frames.f a0 l1 l2 l3 l4 l5 bad frames = some ([], 2) := by
      unfold cone_Frames.f
      rw [if_pos ⟨hk, u32s_of h4, u32s_of h5⟩, if_neg hc]
    exact Ev.bound hF (Ev.ifn (by decide) (Ev.bind lives09_ev (Ev.now true)))
/-- the loop over what counts ever -/
theorem ever_l1 (hk : okIn l1 l2 = true) (h3 : InU32 l3) (h4 : InU32 l4) (h5 : InU32 l5) (hm : mayB a0 l1 l2 l3 l4 l5 = true) (hv : Valid a0 l1 l2 l3 l4 l5) (hV : varsW a0 l1.length l2.length = a0 + (l1.length : Int) + (l2.length : Int))
    {E B : List Bool} {e : Int} {n : Nat} (hE : E.length = n) (hn : n < 1000000) (hB : e = 0 → B.length = n ∧ ∀ u : Int, 0 ≤ u → bitAt E u → bitAt B u) :
    Ev (fun k => inquestlaw09_ConeGrows.l1 k bad frames E B e (E.length : Int) 0 a0 l1 l2 l3 l4 l5) true := by
  have key : ∀ (d i : Nat), n - i = d → i ≤ n → Ev (fun k => inquestlaw09_ConeGrows.l1 k bad frames E B e (E.length : Int) (i : Int) a0 l1 l2 l3 l4 l5) true := by
    intro d
    induction d with
    | zero =>
      intro i hd hi
      refine Ev.step (fun k => ?_) (frames_ev (bad := bad) (frames := frames) hk h3 h4 h5 hm hv hV)
      simp only [inquestlaw09_ConeGrows.l1]
      rw [if_neg (by omega)]
    | succ d ih =>
      intro i hd hi
      refine Ev.step (fun k => ?_) (ih (i + 1) (by omega) (by omega))
      simp only [inquestlaw09_ConeGrows.l1]
      rw [if_pos (by omega), wrap_nat (by omega)]
      by_cases he : e = 0
      · obtain ⟨hbl, hsub⟩ := hB he
        rw [if_pos he, if_neg (by omega), if_pos (by omega), if_pos (by omega)]
        by_cases hb : rdOf false E (i : Int) = true
        · rw [if_pos hb, if_pos (by omega), if_pos (show rdOf false B (i : Int) = true from hsub (i : Int) (by omega) hb)]
        · rw [if_neg hb]
      · rw [if_neg he]
  exact key n 0 (by omega) (by omega)
/-- the loop over the latches -/
theorem next_l0 (hk : okIn l1 l2 = true) (h1 : In41 l1) (h3 : InU32 l3) (h4 : InU32 l4) (h5 : InU32 l5) (hL : InU32 lits) (hM : InU32 more) (hm : mayB a0 l1 l2 l3 l4 l5 = true) (hv : Valid a0 l1 l2 l3 l4 l5) (hV : varsW a0 l1.length l2.length = a0 + (l1.length : Int) + (l2.length : Int))
    (hl : lits.any (beyW (a0 + (l1.length : Int) + (l2.length : Int))) = false) (nl : lits.length ≤ 300) (nm : more.length ≤ 300) (n1 : l1.length ≤ 300) :
    Ev (fun k => inquestlaw09_ConeGrows.l0 k more bad frames (coneOf a0 l1 l2 lits true) (([] : List Int) ++ lits) (l1.length : Int) 0 a0 l1 l2 l3 l4 l5) true := by
  have hp := hv.pos
  have hle := hv.le
  have hEl := coneOf_len hk hv hl true
  obtain ⟨E, hE⟩ : ∃ E, coneOf a0 l1 l2 lits true = E := ⟨_, rfl⟩
  have key : ∀ (d i : Nat), l1.length - i = d → i ≤ l1.length → Ev (fun k => inquestlaw09_ConeGrows.l0 k more bad frames E (lits ++ nextsTo a0 E l1 i) (l1.length : Int) (i : Int) a0 l1 l2 l3 l4 l5) true := by
    intro d
    induction d with
    | zero =>
      intro i hd hi
      obtain rfl : i = l1.length := by omega
      have hun : InU32 (lits ++ nextsTo a0 E l1 l1.length) := by
        intro x hx
        rcases List.mem_append.1 hx with hx | hx
        · exact hL x hx
        · obtain ⟨j, hj, _, rfl⟩ := (next_iff l1.length).1 hx
          rw [rd41_at hj]
          exact (h1 _ (List.getElem_mem hj)).1
      have hln := nextsTo_len (a0 := a0) (row := E) (l1 := l1) l1.length
      have hba := any_app hl (next_bey hk hv E)
      have hO := of_is (a0 := a0) (l3 := l3) (l4 := l4) (l5 := l5) hk hun
      rw [if_pos ⟨hm, by rw [hV]; exact hba⟩] at hO
      have hag := again_is hk hv hl
      rw [hE] at hag
      rw [hag] at hO
      have hub : InU32 ((lits ++ nextsTo a0 E l1 l1.length) ++ more) := by
        intro x hx
        rcases List.mem_append.1 hx with hx | hx
        · exact hun x hx
        · exact hM x hx
      have hB := ever_is (a0 := a0) (l3 := l3) (l4 := l4) (l5 := l5) hk hub
      obtain ⟨B, e, hBe, hBp⟩ : ∃ B e, cone_Ever.f a0 l1 l2 l3 l4 l5 ((lits ++ nextsTo a0 E l1 l1.length) ++ more) = some (B, e) ∧ (e = 0 → B.length = (a0 + (l1.length : Int) + (l2.length : Int) + 1).toNat ∧ ∀ u : Int, 0 ≤ u → bitAt E u → bitAt B u) := by
        by_cases hc : mayB a0 l1 l2 l3 l4 l5 = true ∧ ((lits ++ nextsTo a0 E l1 l1.length) ++ more).any (beyW (varsW a0 l1.length l2.length)) = false
        · rw [if_pos hc] at hB
          rw [hV] at hc
          refine ⟨_, _, hB, fun _ => ⟨coneOf_len hk hv hc.2 true, ?_⟩⟩
          rw [← hE]
          exact more_has hk hv hl (by rw [hE]; exact hc.2) (fun x hx => List.mem_append_left _ (List.mem_append_left _ hx))
        · rw [if_neg hc] at hB
          exact ⟨_, _, hB, fun h => absurd h (by decide)⟩
      have hlast : Ev (fun k => (cone_Of.f a0 l1 l2 l3 l4 l5 (lits ++ nextsTo a0 E l1 l1.length)).bind fun bt189 => (if (lits ++ nextsTo a0 E l1 l1.length).length + more.length < 35184372088832 then ((cone_Ever.f a0 l1 l2 l3 l4 l5 ((lits ++ nextsTo a0 E l1 l1.length) ++ more)).bind fun bt196 => (if bt189.2 = 0 then ((inquestref00_Bools.f k bt189.1 E).bind fun t200 => (inquestlaw09_ConeGrows.j3 k bad frames E bt196.1 bt196.2 (!t200) a0 l1 l2 l3 l4 l5)) else (inquestlaw09_ConeGrows.j3 k bad frames E bt196.1 bt196.2 true a0 l1 l2 l3 l4 l5))) else (none))) true := by
        refine Ev.bound hO (Ev.ifp (by rw [List.length_append]; omega) (Ev.bound hBe (Ev.ifp rfl (Ev.bind (bools_ev E (by rw [hE] at hEl; omega)) ?_))))
        refine Ev.step (fun k => ?_) (ever_l1 (bad := bad) (frames := frames) hk h3 h4 h5 hm hv hV (by rw [hE] at hEl; exact hEl) (by omega) hBp)
        simp only [inquestlaw09_ConeGrows.j3]
        rw [if_neg (by simp)]
      refine Ev.step (fun k => ?_) hlast
      simp only [inquestlaw09_ConeGrows.l0]
      rw [if_neg (by omega)]
    | succ d ih =>
      intro i hd hi
      have hlt : i < l1.length := by omega
      have hln := nextsTo_len (a0 := a0) (row := E) (l1 := l1) i
      have hel : E.length = (a0 + (l1.length : Int) + (l2.length : Int) + 1).toNat := by rw [← hE]; exact hEl
      refine Ev.step (fun k => ?_) (ih (i + 1) (by omega) (by omega))
      simp only [inquestlaw09_ConeGrows.l0]
      rw [if_pos (by omega), wrap64_id (x := 1 + a0) (by omega) (by omega), wrap64_id (x := 1 + a0 + (i : Int)) (by omega) (by omega), if_pos (by omega), if_pos (by omega), wrap_nat (by omega)]
      have hnx : nextsTo a0 E l1 (i + 1) = if rdOf false E (1 + a0 + (i : Int)) = true then nextsTo a0 E l1 i ++ [(rd_T41 l1 (i : Int)).f0] else nextsTo a0 E l1 i := rfl
      by_cases hb : rdOf false E (1 + a0 + (i : Int)) = true
      · rw [if_pos hb, if_pos (by omega), if_pos (by omega), if_pos (by rw [List.length_append]; omega), hnx, if_pos hb, List.append_assoc]
      · rw [if_neg hb, hnx, if_neg hb]
  have h := key l1.length 0 (by omega) (by omega)
  rw [hE]
  simpa [nextsTo] using h
theorem grows_ev (h0 : -9223372036854775808 ≤ a0 ∧ a0 < 9223372036854775808) (h1 : In41 l1) (h2 : In68 l2) (h3 : InU32 l3) (h4 : InU32 l4) (h5 : InU32 l5) (hL : InU32 lits) (hM : InU32 more) :
    Ev (fun k => inquestlaw09_ConeGrows.f k a0 l1 l2 l3 l4 l5 lits more bad frames) true := by
  have hj0 : Ev (fun k => inquestlaw09_ConeGrows.j0 k lits more bad frames true a0 l1 l2 l3 l4 l5) true := by
    refine Ev.step (fun k => ?_) (Ev.bind lives09_ev (Ev.now true))
    simp only [inquestlaw09_ConeGrows.j0]
    rw [if_pos trivial]
  by_cases hg : 2000 < a0 ∨ 300 < (l1.length : Int) ∨ 300 < (l2.length : Int) ∨ 300 < (l5.length : Int)
  · have hgr : inquestlaw09_great.f a0 l1 l2 l3 l4 l5 0 ([] : List Int) ([] : List (List Int)) = some true := by
      unfold inquestlaw09_great.f
      by_cases g1 : a0 > 2000
      · rw [if_pos g1]
      · rw [if_neg g1]
        by_cases g2 : (l1.length : Int) > 300
        · rw [if_pos g2]
        · rw [if_neg g2]
          by_cases g3 : (l2.length : Int) > 300
          · rw [if_pos g3]
          · rw [if_neg g3, if_pos (by omega)]
    exact Ev.bound hgr (Ev.ifp rfl hj0)
  · have hgr : inquestlaw09_great.f a0 l1 l2 l3 l4 l5 0 ([] : List Int) ([] : List (List Int)) = some false := by
      unfold inquestlaw09_great.f
      rw [if_neg (by omega), if_neg (by omega), if_neg (by omega), if_neg (by omega)]
      rfl
    refine Ev.bound hgr (Ev.ifn (by decide) ?_)
    by_cases hl : (lits.length : Int) > 300
    · exact Ev.ifp hl hj0
    refine Ev.ifn hl ?_
    by_cases hmr : (more.length : Int) > 300
    · rw [decide_eq_true hmr]
      exact hj0
    rw [decide_eq_false hmr]
    have hk : okIn l1 l2 = true := okIn_of h1 h2 (by omega) (by omega)
    have hE := ever_is (a0 := a0) (l3 := l3) (l4 := l4) (l5 := l5) hk hL
    by_cases hc : mayB a0 l1 l2 l3 l4 l5 = true ∧ lits.any (beyW (varsW a0 l1.length l2.length)) = false
    · rw [if_pos hc] at hE
      obtain ⟨hm, hb⟩ := hc
      obtain ⟨hv, hV⟩ := valid_of_may hk hm
      rw [hV] at hb
      have hp := hv.pos
      have hle := hv.le
      have hEl := coneOf_len hk hv hb true
      have hj1 : Ev (fun k => inquestlaw09_ConeGrows.j1 k lits more bad frames (coneOf a0 l1 l2 lits true) ((((coneOf a0 l1 l2 lits true).length : Int)) != (wrap64 (a0 + (l1.length : Int) + (l2.length : Int) + 1))) a0 l1 l2 l3 l4 l5) true := by
        refine Ev.step (fun k => ?_) (next_l0 (bad := bad) (frames := frames) hk h1 h3 h4 h5 hL hM hm hv hV hb (by omega) (by omega) (by omega))
        simp only [inquestlaw09_ConeGrows.j1]
        rw [if_neg, if_pos (by simp; omega)]
        rw [wrap64_id (by omega) (by omega), hEl]
        simp only [bne_iff_ne, ne_eq, Decidable.not_not]
        omega
      have hall : Ev (fun k => (cone_Ever.f a0 l1 l2 l3 l4 l5 lits).bind fun bt174 => (if bt174.2 = 0 then ((inquestref03_May.f k a0 l1 l2 l3 l4 l5).bind fun t179 => (if t179 = true then ((inquestref03_Vars.f k a0 l1 l2 l3 l4 l5).bind fun t180 => (inquestlaw09_ConeGrows.j1 k lits more bad frames bt174.1 ((bt174.1.length : Int) != (wrap64 (t180 + 1))) a0 l1 l2 l3 l4 l5)) else (inquestlaw09_ConeGrows.j1 k lits more bad frames bt174.1 true a0 l1 l2 l3 l4 l5))) else (if (bt174.1.length : Int) = 0 then ((inquestlaw09_lives.f k).bind fun t178 => (some t178)) else (some false)))) true :=
        Ev.bound hE (Ev.ifp rfl (Ev.bind (mayr_ev hv h1 h2 h3 h4 h5) (Ev.ifp rfl (Ev.bind (varsr_ev hv h1 h2 h3 h4 h5) hj1))))
      refine Ev.step (fun k => ?_) hall
      simp only [inquestlaw09_ConeGrows.j0]
      rw [if_neg (by decide)]
    · rw [if_neg hc] at hE
      have hall : Ev (fun k => (cone_Ever.f a0 l1 l2 l3 l4 l5 lits).bind fun bt174 => (if bt174.2 = 0 then ((inquestref03_May.f k a0 l1 l2 l3 l4 l5).bind fun t179 => (if t179 = true then ((inquestref03_Vars.f k a0 l1 l2 l3 l4 l5).bind fun t180 => (inquestlaw09_ConeGrows.j1 k lits more bad frames bt174.1 ((bt174.1.length : Int) != (wrap64 (t180 + 1))) a0 l1 l2 l3 l4 l5)) else (inquestlaw09_ConeGrows.j1 k lits more bad frames bt174.1 true a0 l1 l2 l3 l4 l5))) else (if (bt174.1.length : Int) = 0 then ((inquestlaw09_lives.f k).bind fun t178 => (some t178)) else (some false)))) true :=
        Ev.bound hE (Ev.ifn (by decide) (Ev.ifp rfl (Ev.bind lives09_ev (Ev.now true))))
      refine Ev.step (fun k => ?_) hall
      simp only [inquestlaw09_ConeGrows.j0]
      rw [if_neg (by decide)]
end
end Go.Proofs.Yteiiodlgdbiimaa.F
