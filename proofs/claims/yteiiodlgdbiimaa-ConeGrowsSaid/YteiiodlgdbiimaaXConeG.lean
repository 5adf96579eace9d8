/- Ever is what Of tells again and again; more literals let no fewer count; what counts in a frame counts ever. -/
import Derived.Test.YteiiodlgdbiimaaXConeL
namespace Go.Proofs.Yteiiodlgdbiimaa.F
open Go.RowKit Go.Shelf Go.Proofs.YteiiodlgdbiimaaW.PrintWords Go.Proofs.YteiiodlgdbiimaaW.PrintLast Go.Proofs.YteiiodlgdbiimaaW.PrintMore
set_option linter.unusedVariables false
set_option linter.unusedSimpArgs false
section
variable {a0 : Int} {l1 : List S41} {l2 : List S68} {l3 l4 l5 : List Int}
theorem coneOk (hk : okIn l1 l2 = true) (hv : Valid a0 l1 l2 l3 l4 l5) {ls : List Int} (hl : ls.any (beyW (a0 + (l1.length : Int) + (l2.length : Int))) = false) (ever : Bool) :
    ConeIs a0 l1 l2 ls ever (a0 + (l1.length : Int) + (l2.length : Int) + 1).toNat (coneOf a0 l1 l2 ls ever) :=
  coneIs (hv.fine hk) rfl ls (fun x hx => by
    have h1 := List.any_eq_false.1 hl x hx
    have hp := hv.pos
    simp only [beyW, decide_eq_true_eq] at h1
    unfold vOf
    omega) ever
theorem next_iff {row : List Bool} {x : Int} : ∀ k : Nat, x ∈ nextsTo a0 row l1 k ↔ ∃ j : Nat, j < k ∧ rdOf false row (1 + a0 + (j : Int)) = true ∧ x = (rd_T41 l1 (j : Int)).f0
  | 0 => by simp [nextsTo]
  | k + 1 => by
    have ih := next_iff (row := row) (x := x) k
    unfold nextsTo
    by_cases hb : rdOf false row (1 + a0 + (k : Int)) = true
    · rw [if_pos hb, List.mem_append, List.mem_singleton, ih]
      constructor
      · rintro (⟨j, h1, h2⟩ | h)
        · exact ⟨j, by omega, h2⟩
        · exact ⟨k, by omega, hb, h⟩
      · rintro ⟨j, h1, h2, h3⟩
        by_cases e : j = k
        · subst e
          exact .inr h3
        · exact .inl ⟨j, by omega, h2, h3⟩
    · rw [if_neg hb, ih]
      constructor
      · rintro ⟨j, h1, h2⟩
        exact ⟨j, by omega, h2⟩
      · rintro ⟨j, h1, h2, h3⟩
        have e : j ≠ k := fun e => by subst e; exact hb h2
        exact ⟨j, by omega, h2, h3⟩
theorem next_bey (hk : okIn l1 l2 = true) (hv : Valid a0 l1 l2 l3 l4 l5) (row : List Bool) : (nextsTo a0 row l1 l1.length).any (beyW (a0 + (l1.length : Int) + (l2.length : Int))) = false := by
  rw [List.any_eq_false]
  intro x hx
  obtain ⟨j, hj, _, rfl⟩ := (next_iff l1.length).1 hx
  have e : rd_T41 l1 (j : Int) = l1[j] := by simp [rd_T41, List.getD_eq_getElem?_getD, List.getElem?_eq_getElem hj]
  rw [e]
  have hn := hv.next j hj
  have hp := hv.pos
  have hle := hv.le
  simp only [beyW, decide_eq_true_eq]
  rw [wrap64_id (by omega) (by omega)]
  omega
theorem succ_latch {j : Nat} (hj : j < l1.length) : succP a0 l1 l2 true (1 + a0 + (j : Int)) = [(rd_T41 l1 (j : Int)).f0] := by
  unfold succP
  rw [if_neg (by omega), if_pos ⟨by omega, rfl⟩]
  have : 1 + a0 + (j : Int) - 1 - a0 = (j : Int) := by omega
  rw [this]
theorem succ_ever {u x : Int} (h : x ∈ succP a0 l1 l2 false u) : x ∈ succP a0 l1 l2 true u := by
  unfold succP at h ⊢
  split
  · rename_i hc
    rw [if_pos hc] at h
    exact h
  · rename_i hc
    rw [if_neg hc, if_neg (by simp)] at h
    cases h
theorem succ_cases {u x : Int} (h : x ∈ succP a0 l1 l2 true u) : x ∈ succP a0 l1 l2 false u ∨ ∃ j : Nat, j < l1.length ∧ u = 1 + a0 + (j : Int) ∧ x = (rd_T41 l1 (j : Int)).f0 := by
  unfold succP at h
  split at h
  · rename_i hc
    left
    unfold succP
    rw [if_pos hc]
    exact h
  · rename_i hc
    split at h
    · rename_i hc2
      right
      refine ⟨(u - 1 - a0).toNat, by omega, by omega, ?_⟩
      rw [Int.toNat_of_nonneg (by omega)]
      exact List.mem_singleton.1 h
    · cases h
theorem latch_in (hk : okIn l1 l2 = true) (hv : Valid a0 l1 l2 l3 l4 l5) {ls : List Int} {n : Nat} {R : List Bool} (hR : ConeIs a0 l1 l2 ls true n R) {row : List Bool} (hsub : ∀ u : Int, 0 ≤ u → bitAt row u → bitAt R u) : ∀ x ∈ nextsTo a0 row l1 l1.length, 0 < vOf x → bitAt R (vOf x) := by
  intro x hx h0
  obtain ⟨j, hj, hb, rfl⟩ := (next_iff l1.length).1 hx
  have hp := hv.pos
  exact hR.closed (1 + a0 + (j : Int)) (by omega) (hsub _ (by omega) hb) _ (by rw [succ_latch hj]; exact List.mem_singleton.2 rfl) h0
theorem any_app {p : Int → Bool} {l m : List Int} (h : l.any p = false) (k : m.any p = false) : (l ++ m).any p = false := by rw [List.any_append, h, k]; rfl
theorem again_is (hk : okIn l1 l2 = true) (hv : Valid a0 l1 l2 l3 l4 l5) {ls : List Int} (hl : ls.any (beyW (a0 + (l1.length : Int) + (l2.length : Int))) = false) :
    coneOf a0 l1 l2 (ls ++ nextsTo a0 (coneOf a0 l1 l2 ls true) l1 l1.length) false = coneOf a0 l1 l2 ls true := by
  have hE := coneOk hk hv hl true
  generalize coneOf a0 l1 l2 ls true = E at hE ⊢
  have hN := coneOk hk hv (any_app hl (next_bey hk hv E)) false
  generalize coneOf a0 l1 l2 (ls ++ nextsTo a0 E l1 l1.length) false = N at hN ⊢
  have hp := hv.pos
  have hNE : ∀ u : Int, 0 ≤ u → bitAt N u → bitAt E u := fun u hu hb => (hN.least (fun v => 0 ≤ v ∧ bitAt E v) (fun x hx h0 => by
      rcases List.mem_append.1 hx with hx | hx
      · exact ⟨by omega, hE.root x hx h0⟩
      · exact ⟨by omega, latch_in hk hv hE (fun _ _ h => h) x hx h0⟩) (fun v hv' x hx h0 => ⟨by omega, hE.closed v hv'.1 hv'.2 x (succ_ever hx) h0⟩) u hu hb).2
  refine bits_eq hN.len hE.len (fun u hu => ⟨hNE u hu, fun hb => ?_⟩)
  refine (hE.least (fun v => 0 ≤ v ∧ bitAt N v) (fun x hx h0 => ⟨by omega, hN.root x (List.mem_append_left _ hx) h0⟩) (fun v hv' x hx h0 => ⟨by omega, ?_⟩) u hu hb).2
  rcases succ_cases hx with hx | ⟨j, hj, rfl, rfl⟩
  · exact hN.closed v hv'.1 hv'.2 x hx h0
  · exact hN.root _ (List.mem_append_right _ ((next_iff l1.length).2 ⟨j, hj, hNE _ hv'.1 hv'.2, rfl⟩)) h0
theorem more_has (hk : okIn l1 l2 = true) (hv : Valid a0 l1 l2 l3 l4 l5) {ls more : List Int} (hl : ls.any (beyW (a0 + (l1.length : Int) + (l2.length : Int))) = false) (hm : more.any (beyW (a0 + (l1.length : Int) + (l2.length : Int))) = false)
    (hs : ∀ x ∈ ls, x ∈ more) : ∀ u : Int, 0 ≤ u → bitAt (coneOf a0 l1 l2 ls true) u → bitAt (coneOf a0 l1 l2 more true) u := by
  have hE := coneOk hk hv hl true
  have hB := coneOk hk hv hm true
  intro u hu hb
  exact (hE.least (fun v => 0 ≤ v ∧ bitAt (coneOf a0 l1 l2 more true) v) (fun x hx h0 => ⟨by omega, hB.root x (hs x hx) h0⟩) (fun v hv' x hx h0 => ⟨by omega, hB.closed v hv'.1 hv'.2 x hx h0⟩) u hu hb).2
theorem rows_in (hk : okIn l1 l2 = true) (h4 : u32s l4 = true) (h5 : u32s l5 = true) (hv : Valid a0 l1 l2 l3 l4 l5) {bad : Int} (hb : 0 ≤ bad ∧ bad < l4.length) (hl : (l5 ++ [rd l4 bad]).any (beyW (a0 + (l1.length : Int) + (l2.length : Int))) = false) :
    ∀ (k : Nat) (u : Int), 0 ≤ u → bitAt (rowAt a0 l1 l2 l4 l5 bad k) u → bitAt (coneOf a0 l1 l2 (l5 ++ [rd l4 bad]) true) u := by
  have hA := coneOk hk hv hl true
  generalize coneOf a0 l1 l2 (l5 ++ [rd l4 bad]) true = A at hA ⊢
  intro k
  induction k with
  | zero =>
    intro u hu hb'
    have hR := coneOk hk hv (litsAt_ok hk h4 h5 hv hb 0).2.2 false
    refine (hR.least (fun v => 0 ≤ v ∧ bitAt A v) (fun x hx h0 => ⟨by omega, ?_⟩) (fun v hv' x hx h0 => ⟨by omega, hA.closed v hv'.1 hv'.2 x (succ_ever hx) h0⟩) u hu hb').2
    refine hA.root x ?_ h0
    rcases List.mem_append.1 hx with hx | hx
    · exact List.mem_append_right _ hx
    · exact List.mem_append_left _ hx
  | succ k ih =>
    intro u hu hb'
    have hR := coneOk hk hv (litsAt_ok hk h4 h5 hv hb (k + 1)).2.2 false
    refine (hR.least (fun v => 0 ≤ v ∧ bitAt A v) (fun x hx h0 => ⟨by omega, ?_⟩) (fun v hv' x hx h0 => ⟨by omega, hA.closed v hv'.1 hv'.2 x (succ_ever hx) h0⟩) u hu hb').2
    rcases List.mem_append.1 hx with hx | hx
    · exact latch_in hk hv hA ih x hx h0
    · exact hA.root x (List.mem_append_left _ hx) h0
end
end Go.Proofs.Yteiiodlgdbiimaa.F
