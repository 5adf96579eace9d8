/- What counts for literals is the least set of variables that holds them and is closed. -/
import Derived.Test.YteiiodlgdbiimaaXFramesP
namespace Go.Proofs.Yteiiodlgdbiimaa.F
open Go.RowKit Go.Shelf Go.Proofs.YteiiodlgdbiimaaW.PrintWords Go.Proofs.YteiiodlgdbiimaaW.PrintLast Go.Proofs.YteiiodlgdbiimaaW.PrintMore
set_option linter.unusedVariables false
set_option linter.unusedSimpArgs false
def bitAt (xs : List Bool) (u : Int) : Prop := xs.getD u.toNat false = true
def succP (a0 : Int) (l1 : List S41) (l2 : List S68) (ever : Bool) (v : Int) : List Int :=
  if 1 + a0 + (l1.length : Int) ≤ v then [(rd_T68 l2 (v - (1 + a0 + (l1.length : Int)))).f0, (rd_T68 l2 (v - (1 + a0 + (l1.length : Int)))).f1]
  else if a0 < v ∧ ever = true then [(rd_T41 l1 (v - 1 - a0)).f0] else []
section
variable {a0 : Int} {l1 : List S41} {l2 : List S68} {ever : Bool} {n : Nat} {s : List Bool × List Int}
theorem stepP_eq (v : Int) : stepP a0 l1 l2 ever s v = addsP (succP a0 l1 l2 ever v) s := by
  unfold stepP succP
  split
  · rfl
  · split <;> rfl
theorem succ_lt (hf : Fine a0 l1 l2 n) {v : Int} (h0 : 0 < v) (h1 : v < (n : Int)) : ∀ x ∈ succP a0 l1 l2 ever v, vOf x < (n : Int) := by
  have hp := hf.pos
  have hn := hf.num
  intro x hx
  unfold succP at hx
  split at hx
  · have hg := hf.g (v - (1 + a0 + (l1.length : Int))).toNat (by omega)
    rw [Int.toNat_of_nonneg (by omega)] at hg
    rcases List.mem_cons.1 hx with rfl | hx
    · exact hg.1
    · rw [List.mem_singleton.1 hx]
      exact hg.2
  · split at hx
    · rename_i hc1 hc2
      have hl := hf.l (v - 1 - a0).toNat (by omega)
      rw [Int.toNat_of_nonneg (by omega)] at hl
      rw [List.mem_singleton.1 hx]
      exact hl
    · cases hx
structure Jn (n : Nat) (s : List Bool × List Int) : Prop where
  inv : Inv n s
  iff : ∀ u : Int, 0 ≤ u → (bitAt s.1 u ↔ u ∈ s.2)
theorem Jn.start (n : Nat) : Jn n (List.replicate n false, []) := ⟨Inv.start n, fun u hu => by
  simp only [bitAt, List.not_mem_nil, iff_false, Bool.not_eq_true]
  rw [List.getD_eq_getElem?_getD]
  cases h : (List.replicate n false)[u.toNat]? with
  | none => rfl
  | some b =>
    have := List.mem_of_getElem? h
    rw [(List.mem_replicate.1 this).2]
    rfl⟩
theorem Jn.add (h : Jn n s) (x : Int) (hx : vOf x < (n : Int)) : Jn n (addP s x) := by
  refine ⟨h.inv.add x hx, fun u hu => ?_⟩
  have h1 := h.iff u hu
  unfold addP
  split
  · rename_i hc
    have hl : (vOf x).toNat < s.1.length := by rw [h.inv.len]; omega
    by_cases e : u = vOf x
    · subst e
      simp [bitAt, List.getD_eq_getElem?_getD, hl]
    · have e2 : (vOf x).toNat ≠ u.toNat := by omega
      have e3 : (s.1.set (vOf x).toNat true)[u.toNat]? = s.1[u.toNat]? := List.getElem?_set_ne e2
      unfold bitAt at h1 ⊢
      simp only [List.getD_eq_getElem?_getD, e3, List.mem_append, List.mem_singleton, e, or_false]
      simpa only [List.getD_eq_getElem?_getD] using h1
  · exact h1
theorem add_keeps (x : Int) : ∃ t, (addP s x).2 = s.2 ++ t := by
  unfold addP
  split
  · exact ⟨_, rfl⟩
  · exact ⟨[], by simp⟩
theorem add_root (h : Jn n s) (x : Int) (hx : vOf x < (n : Int)) (h0 : 0 < vOf x) : vOf x ∈ (addP s x).2 := by
  by_cases hc : 0 < vOf x ∧ s.1.getD (vOf x).toNat false = false
  · unfold addP
    rw [if_pos hc]
    simp
  · have hb : bitAt s.1 (vOf x) := by
      unfold bitAt
      cases hv : s.1.getD (vOf x).toNat false with
      | true => rfl
      | false => exact absurd ⟨h0, hv⟩ hc
    unfold addP
    rw [if_neg hc]
    exact (h.iff _ (by omega)).1 hb
theorem add_only {x u : Int} (h : u ∈ (addP s x).2) : u ∈ s.2 ∨ (u = vOf x ∧ 0 < u) := by
  unfold addP at h
  split at h
  · rename_i hc
    rcases List.mem_append.1 h with h | h
    · exact .inl h
    · rw [List.mem_singleton] at h
      exact .inr ⟨h, by omega⟩
  · exact .inl h
theorem Jn.adds : ∀ (l : List Int) (s : List Bool × List Int), (∀ x ∈ l, vOf x < (n : Int)) → Jn n s → Jn n (addsP l s)
  | [], _, _, h => h
  | x :: l, s, hl, h => Jn.adds l _ (fun y hy => hl y (List.mem_cons_of_mem _ hy)) (h.add x (hl x List.mem_cons_self))
theorem adds_keeps : ∀ (l : List Int) (s : List Bool × List Int), ∃ t, (addsP l s).2 = s.2 ++ t
  | [], s => ⟨[], by simp [addsP]⟩
  | x :: l, s => by
    obtain ⟨t, ht⟩ := adds_keeps l (addP s x)
    obtain ⟨t', ht'⟩ := add_keeps (s := s) x
    exact ⟨t' ++ t, by rw [addsP, ht, ht', List.append_assoc]⟩
theorem adds_root : ∀ (l : List Int) (s : List Bool × List Int), (∀ x ∈ l, vOf x < (n : Int)) → Jn n s → ∀ x ∈ l, 0 < vOf x → vOf x ∈ (addsP l s).2
  | [], _, _, _, x, hx, _ => by cases hx
  | y :: l, s, hl, h, x, hx, h0 => by
    rcases List.mem_cons.1 hx with rfl | hx
    · obtain ⟨t, ht⟩ := adds_keeps l (addP s x)
      rw [addsP, ht]
      exact List.mem_append_left _ (add_root h x (hl x List.mem_cons_self) h0)
    · exact adds_root l _ (fun z hz => hl z (List.mem_cons_of_mem _ hz)) (h.add y (hl y List.mem_cons_self)) x hx h0
theorem adds_only : ∀ (l : List Int) (s : List Bool × List Int) {u : Int}, u ∈ (addsP l s).2 → u ∈ s.2 ∨ ∃ x ∈ l, u = vOf x ∧ 0 < u
  | [], _, _, h => .inl h
  | y :: l, s, u, h => by
    rcases adds_only l (addP s y) h with h | ⟨x, hx, h⟩
    · rcases add_only h with h | h
      · exact .inl h
      · exact .inr ⟨y, List.mem_cons_self, h⟩
    · exact .inr ⟨x, List.mem_cons_of_mem _ hx, h⟩
theorem grow_spec (hf : Fine a0 l1 l2 n) : ∀ (k : Nat) (s : List Bool × List Int) (i : Nat), Jn n s → i ≤ s.2.length → n < k + i →
    (∀ j, j < i → ∀ x ∈ succP a0 l1 l2 ever (s.2.getD j 0), 0 < vOf x → vOf x ∈ s.2) →
    Jn n (growP a0 l1 l2 ever k s i) ∧ (∀ u ∈ s.2, u ∈ (growP a0 l1 l2 ever k s i).2) ∧ (∀ u ∈ (growP a0 l1 l2 ever k s i).2, ∀ x ∈ succP a0 l1 l2 ever u, 0 < vOf x → vOf x ∈ (growP a0 l1 l2 ever k s i).2) := by
  intro k
  induction k with
  | zero =>
    intro s i hJ hi hk _
    have := hJ.inv.le
    omega
  | succ k ih =>
    intro s i hJ hi hk hd
    unfold growP
    by_cases hlt : i < s.2.length
    · rw [if_pos hlt]
      have hmem : s.2.getD i 0 ∈ s.2 := by rw [List.getD_eq_getElem?_getD, List.getElem?_eq_getElem hlt]; exact List.getElem_mem hlt
      obtain ⟨hv0, hv1⟩ := hJ.inv.q _ hmem
      have hsl := succ_lt (ever := ever) hf hv0 hv1
      have hJ2 := Jn.adds _ s hsl hJ
      obtain ⟨t, ht⟩ := adds_keeps (succP a0 l1 l2 ever (s.2.getD i 0)) s
      have hr := adds_root _ s hsl hJ
      rw [stepP_eq]
      generalize hS : addsP (succP a0 l1 l2 ever (s.2.getD i 0)) s = s2 at hJ2 ht hr ⊢
      obtain ⟨r1, r2, r3⟩ := ih s2 (i + 1) hJ2 (by rw [ht, List.length_append]; omega) (by omega) (fun j hj x hx h0 => by
        have ej : s2.2.getD j 0 = s.2.getD j 0 := by
          rw [ht, List.getD_eq_getElem?_getD, List.getD_eq_getElem?_getD, List.getElem?_append_left (by omega)]
        rw [ej] at hx
        by_cases e : j = i
        · subst e
          exact hr x hx h0
        · rw [ht]
          exact List.mem_append_left _ (hd j (by omega) x hx h0))
      exact ⟨r1, fun u hu => r2 u (by rw [ht]; exact List.mem_append_left _ hu), r3⟩
    · rw [if_neg hlt]
      refine ⟨hJ, fun u hu => hu, fun u hu x hx h0 => ?_⟩
      obtain ⟨j, hj, rfl⟩ := List.mem_iff_getElem.1 hu
      refine hd j (by omega) x ?_ h0
      rw [List.getD_eq_getElem?_getD, List.getElem?_eq_getElem hj]
      exact hx
theorem grow_least (S : Int → Prop) (hS : ∀ u, S u → ∀ x ∈ succP a0 l1 l2 ever u, 0 < vOf x → S (vOf x)) : ∀ (k : Nat) (s : List Bool × List Int) (i : Nat), (∀ u ∈ s.2, S u) → ∀ u ∈ (growP a0 l1 l2 ever k s i).2, S u := by
  intro k
  induction k with
  | zero => exact fun s i h => h
  | succ k ih =>
    intro s i h
    unfold growP
    split
    · rename_i hlt
      refine ih _ _ (fun u hu => ?_)
      rw [stepP_eq] at hu
      rcases adds_only _ s hu with hu | ⟨x, hx, rfl, h0⟩
      · exact h u hu
      · refine hS (s.2.getD i 0) (h _ ?_) x hx h0
        rw [List.getD_eq_getElem?_getD, List.getElem?_eq_getElem hlt]
        exact List.getElem_mem hlt
    · exact h
end
/-- what coneOf comes to -/
structure ConeIs (a0 : Int) (l1 : List S41) (l2 : List S68) (lits : List Int) (ever : Bool) (n : Nat) (R : List Bool) : Prop where
  len : R.length = n
  pos : ∀ u : Int, 0 ≤ u → bitAt R u → 0 < u ∧ u < (n : Int)
  root : ∀ x ∈ lits, 0 < vOf x → bitAt R (vOf x)
  closed : ∀ u : Int, 0 ≤ u → bitAt R u → ∀ x ∈ succP a0 l1 l2 ever u, 0 < vOf x → bitAt R (vOf x)
  least : ∀ S : Int → Prop, (∀ x ∈ lits, 0 < vOf x → S (vOf x)) → (∀ u, S u → ∀ x ∈ succP a0 l1 l2 ever u, 0 < vOf x → S (vOf x)) → ∀ u : Int, 0 ≤ u → bitAt R u → S u
theorem coneIs {a0 : Int} {l1 : List S41} {l2 : List S68} {n : Nat} (hf : Fine a0 l1 l2 n) (hn : n = (a0 + (l1.length : Int) + (l2.length : Int) + 1).toNat) (lits : List Int) (hl : ∀ x ∈ lits, vOf x < (n : Int)) (ever : Bool) : ConeIs a0 l1 l2 lits ever n (coneOf a0 l1 l2 lits ever) := by
  unfold coneOf
  rw [← hn]
  have hJ := Jn.adds lits _ hl (Jn.start n)
  obtain ⟨h1, h2, h3⟩ := grow_spec (ever := ever) hf (n + 1) (addsP lits (List.replicate n false, [])) 0 hJ (Nat.zero_le _) (by omega) (fun j hj => by omega)
  refine ⟨h1.inv.len, fun u hu hb => h1.inv.q u ((h1.iff u hu).1 hb), fun x hx h0 => (h1.iff _ (by omega)).2 (h2 _ (adds_root lits _ hl (Jn.start n) x hx h0)), fun u hu hb x hx h0 => (h1.iff _ (by omega)).2 (h3 u ((h1.iff u hu).1 hb) x hx h0), fun S hr hc u hu hb => ?_⟩
  refine grow_least S hc _ _ _ (fun v hv => ?_) u ((h1.iff u hu).1 hb)
  rcases adds_only lits _ hv with hv | ⟨x, hx, rfl, h0⟩
  · cases hv
  · exact hr x hx h0
/-- a set of bits is one list -/
theorem bits_eq {xs ys : List Bool} {n : Nat} (hx : xs.length = n) (hy : ys.length = n) (h : ∀ u : Int, 0 ≤ u → (bitAt xs u ↔ bitAt ys u)) : xs = ys := by
  apply List.ext_getElem (by omega)
  intro i h1 h2
  have := h (i : Int) (by omega)
  unfold bitAt at this
  simp only [Int.toNat_natCast, List.getD_eq_getElem?_getD, List.getElem?_eq_getElem h1, List.getElem?_eq_getElem h2, Option.getD_some] at this
  cases e1 : xs[i] <;> cases e2 : ys[i] <;> rw [e1, e2] at this <;> simp at this <;> rfl
end Go.Proofs.Yteiiodlgdbiimaa.F
