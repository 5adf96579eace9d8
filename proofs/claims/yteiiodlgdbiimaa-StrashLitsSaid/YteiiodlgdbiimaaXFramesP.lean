/- The plain side of cone.Frames, and what its loop keeps. -/
import Derived.Test.YteiiodlgdbiimaaXRound
import Derived.Test.YteiiodlgdbiimaaXOf
namespace Go.Proofs.Yteiiodlgdbiimaa.F
open Go.RowKit Go.Shelf Go.Proofs.YteiiodlgdbiimaaW.PrintWords Go.Proofs.YteiiodlgdbiimaaW.PrintLast Go.Proofs.YteiiodlgdbiimaaW.PrintMore
set_option linter.unusedVariables false
set_option linter.unusedSimpArgs false

inductive Lay (vals : Nat → List Bool) : List Nat → (Nat → List Bool) → Prop
  | nil : Lay vals [] (fun _ => [])
  | snoc {ps : List Nat} {rows : Nat → List Bool} (p : Nat) : Lay vals ps rows → Lay vals (ps ++ [p]) (fun j => if j = p then vals ps.length else rows j)
theorem Lay.inv {vals : Nat → List Bool} {ps : List Nat} {p : Nat} {rows : Nat → List Bool} (h : Lay vals (ps ++ [p]) rows) : ∃ r0, Lay vals ps r0 ∧ rows = fun j => if j = p then vals ps.length else r0 j := by
  generalize e : ps ++ [p] = q at h
  cases h with
  | nil => simp at e
  | snoc p' h' =>
    obtain ⟨rfl, e2⟩ := List.append_inj' e rfl
    cases e2
    exact ⟨_, h', rfl⟩
theorem Lay.at_ {vals : Nat → List Bool} {n : Nat} : ∀ (k : Nat) (rows : Nat → List Bool), k ≤ n → Lay vals (backPlaces n k) rows → ∀ j, n - k ≤ j → j < n → rows j = vals (n - 1 - j)
  | 0, rows, hk, h, j, hj, hn => by omega
  | k + 1, rows, hk, h, j, hj, hn => by
    rw [backPlaces_succ] at h
    obtain ⟨r0, h0, rfl⟩ := h.inv
    rw [backPlaces_length]
    by_cases e : j = n - 1 - k
    · simp only [e, if_true]
      congr 1
      omega
    · simp only [e, if_false]
      exact Lay.at_ k r0 (by omega) h0 j (by omega) hn

/-- the nexts of the first k latches that count -/
def nextsTo (a0 : Int) (row : List Bool) (l1 : List S41) : Nat → List Int
  | 0 => []
  | k + 1 => if rdOf false row (1 + a0 + (k : Int)) = true then nextsTo a0 row l1 k ++ [(rd_T41 l1 (k : Int)).f0] else nextsTo a0 row l1 k
/-- the literals ahead of round k -/
def litsAt (a0 : Int) (l1 : List S41) (l2 : List S68) (l4 l5 : List Int) (bad : Int) : Nat → List Int
  | 0 => [rd l4 bad]
  | k + 1 => nextsTo a0 (coneOf a0 l1 l2 (litsAt a0 l1 l2 l4 l5 bad k ++ l5) false) l1 l1.length
def rowAt (a0 : Int) (l1 : List S41) (l2 : List S68) (l4 l5 : List Int) (bad : Int) (k : Nat) : List Bool := coneOf a0 l1 l2 (litsAt a0 l1 l2 l4 l5 bad k ++ l5) false
theorem nextsTo_mem {a0 : Int} {row : List Bool} {l1 : List S41} : ∀ (k : Nat), k ≤ l1.length → ∀ x ∈ nextsTo a0 row l1 k, ∃ j, ∃ (h : j < l1.length), x = l1[j].f0
  | 0, _, x, hx => by simp [nextsTo] at hx
  | k + 1, hk, x, hx => by
    unfold nextsTo at hx
    split at hx
    · rcases List.mem_append.1 hx with hx | hx
      · exact nextsTo_mem k (by omega) x hx
      · refine ⟨k, by omega, ?_⟩
        rw [List.mem_singleton.1 hx]
        simp [rd_T41, List.getD_eq_getElem?_getD, List.getElem?_eq_getElem (show k < l1.length by omega)]
    · exact nextsTo_mem k (by omega) x hx
theorem nextsTo_len {a0 : Int} {row : List Bool} {l1 : List S41} : ∀ (k : Nat), (nextsTo a0 row l1 k).length ≤ k
  | 0 => by simp [nextsTo]
  | k + 1 => by
    have := nextsTo_len (a0 := a0) (row := row) (l1 := l1) k
    unfold nextsTo
    split
    · simp; omega
    · omega
theorem litsAt_ok {a0 : Int} {l1 : List S41} {l2 : List S68} {l3 l4 l5 : List Int} (hk : okIn l1 l2 = true) (h4 : u32s l4 = true) (h5 : u32s l5 = true) (hv : Valid a0 l1 l2 l3 l4 l5) {bad : Int} (hb : 0 ≤ bad ∧ bad < l4.length) (k : Nat) :
    (litsAt a0 l1 l2 l4 l5 bad k).length ≤ l1.length + 1 ∧ u32s (litsAt a0 l1 l2 l4 l5 bad k ++ l5) = true ∧ (litsAt a0 l1 l2 l4 l5 bad k ++ l5).any (beyW (a0 + (l1.length : Int) + (l2.length : Int))) = false := by
  have h1 : u32s (l1.map (·.f0)) = true := by
    simp only [okIn, Bool.and_eq_true] at hk
    exact hk.1.1.2
  have key : (litsAt a0 l1 l2 l4 l5 bad k).length ≤ l1.length + 1 ∧ ∀ x ∈ litsAt a0 l1 l2 l4 l5 bad k, (0 ≤ x ∧ x < 4294967296) ∧ wrap64 (x / 2) ≤ a0 + (l1.length : Int) + (l2.length : Int) := by
    cases k with
    | zero =>
      refine ⟨by simp [litsAt], fun x hx => ?_⟩
      have hx : x = rd l4 bad := by simpa [litsAt] using hx
      obtain ⟨m, rfl⟩ := Int.eq_ofNat_of_zero_le hb.1
      have hm : m < l4.length := by omega
      have e : rd l4 (m : Int) = l4[m] := by simp [rd, List.getD_eq_getElem?_getD, List.getElem?_eq_getElem hm]
      rw [hx, e]
      exact ⟨u32s_mem h4 (List.getElem_mem hm), hv.bads.2 _ (List.getElem_mem hm)⟩
    | succ k =>
      refine ⟨by have := nextsTo_len (a0 := a0) (row := coneOf a0 l1 l2 (litsAt a0 l1 l2 l4 l5 bad k ++ l5) false) (l1 := l1) l1.length; simp only [litsAt]; omega, fun x hx => ?_⟩
      obtain ⟨j, hj, rfl⟩ := nextsTo_mem _ (Nat.le_refl _) x hx
      have h2 := u32s_mem h1 (List.mem_map_of_mem (List.getElem_mem hj))
      have h3 := hv.next j hj
      refine ⟨h2, ?_⟩
      rw [wrap64_id (by omega) (by omega)]
      exact h3.2
  refine ⟨key.1, ?_, ?_⟩
  · rw [u32s, List.all_append, Bool.and_eq_true]
    refine ⟨List.all_eq_true.2 fun x hx => by have := (key.2 x hx).1; simp; omega, h5⟩
  · rw [List.any_append, Bool.or_eq_false_iff]
    refine ⟨List.any_eq_false.2 fun x hx => by have := (key.2 x hx).2; simp only [beyW, decide_eq_true_eq]; omega, List.any_eq_false.2 fun x hx => by have := hv.cons.2 x hx; simp only [beyW, decide_eq_true_eq]; omega⟩
theorem coneOf_len {a0 : Int} {l1 : List S41} {l2 : List S68} {l3 l4 l5 : List Int} (hk : okIn l1 l2 = true) (hv : Valid a0 l1 l2 l3 l4 l5) {ls : List Int} (hl : ls.any (beyW (a0 + (l1.length : Int) + (l2.length : Int))) = false) (ever : Bool) :
    (coneOf a0 l1 l2 ls ever).length = (a0 + (l1.length : Int) + (l2.length : Int) + 1).toNat := by
  have hp := hv.pos
  refine (Inv.grow (hv.fine hk) _ _ _ (Inv.adds ls _ (fun x hx => ?_) (Inv.start _))).len
  have h1 := List.any_eq_false.1 hl x hx
  simp only [beyW, decide_eq_true_eq] at h1
  unfold vOf
  omega
def cone_Frames.f (a0_0 : Int) (l0_1 : List (S41)) (l0_2 : List (S68)) (l0_3 : List Int) (l0_4 : List Int) (l0_5 : List Int) (a1 : Int) (a2 : Int) : Option ((List (List Bool)) × Int) :=
  if okIn l0_1 l0_2 = true ∧ u32s l0_4 = true ∧ u32s l0_5 = true then
    if mayB a0_0 l0_1 l0_2 l0_3 l0_4 l0_5 = true ∧ 0 ≤ a1 ∧ a1 < l0_4.length ∧ 1 ≤ a2 ∧ a2 ≤ 256 then some ((List.range a2.toNat).map (fun j => rowAt a0_0 l0_1 l0_2 l0_4 l0_5 a1 (a2.toNat - 1 - j)), 0) else some ([], 2)
  else none
theorem Frames_of {a0 : Int} {l1 : List S41} {l2 : List S68} {l3 l4 l5 : List Int} (hk : okIn l1 l2 = true) (h4 : u32s l4 = true) (h5 : u32s l5 = true) (hm : mayB a0 l1 l2 l3 l4 l5 = true) {bad : Int} (hb : 0 ≤ bad ∧ bad < l4.length) (k : Nat) :
    cone_of.f a0 l1 l2 l3 l4 l5 (litsAt a0 l1 l2 l4 l5 bad k ++ l5) false = some (rowAt a0 l1 l2 l4 l5 bad k, 0) := by
  obtain ⟨hv, hV⟩ := valid_of_may hk hm
  have h := litsAt_ok hk h4 h5 hv hb k
  unfold cone_of.f
  rw [if_pos ⟨hk, h.2.1⟩, if_pos ⟨hm, by rw [hV]; exact h.2.2⟩]
  rfl

/-- what the loop of Frames keeps -/
structure FrSt (a0 : Int) (A1 : Option Addr) (c1 : Nat) (l1 : List S41) (A2 : Option Addr) (c2 : Nat) (l2 : List S68) (A3 : Option Addr) (c3 : Nat) (l3 : List Int) (A4 : Option Addr) (c4 : Nat) (l4 : List Int) (A5 : Option Addr) (c5 : Nat) (l5 : List Int) (w0 : World) (b8 b9 g n : Nat) (v9 : Value) (rows : Nat → List Bool) (W : World) : Prop where
  below : Below w0.heap.size w0 W
  k3 : W.heap[w0.heap.size]? = some (.cells #[.int .i64 a0, .slice A1 l1.length c1, .slice A2 l2.length c2, .slice A3 l3.length c3, .slice A4 l4.length c4, .slice A5 l5.length c5] 26 (0, 0))
  h8 : w0.heap.size ≤ b8
  h9 : w0.heap.size ≤ b9
  hg : w0.heap.size ≤ g
  k8 : W.heap[b8]? = some (.cells #[.slice (some ⟨g, 0, none⟩) n n] 43 (0, 0))
  k9 : W.heap[b9]? = some (.cells #[v9] 24 (0, 0))
  kg : ∃ (f : Nat → Nat) (arr : Array Value), W.heap[g]? = some (.cells arr 33 (0, 0)) ∧ arr.size = n ∧ ∀ j, j < n → ∃ v, arr[j]? = some v ∧ Kd.R Kd.bool 4 W w0.heap.size (fun k => f k = j) v (rows j)
section
variable {P : Program} {ops : Array Oper} {o : Oper} {a : Act} {Q : Exit → Act → World → Prop} {Kc : Act → World → Prop}
theorem skip_step {W w1 : World} (hw : Region.wanted o (yielded ops a.tmps) = true) (hN : o.dst = none) (hrun : (execOp a.eval o).run P W = .ok .skip w1) (h : Kc a w1) : if Region.wanted o (yielded ops a.tmps) = true then Oper.wp P o a W Kc Q else Kc (a.put none undef) W := by
  rw [if_pos hw]
  unfold Oper.wp
  rw [hrun]
  show Kc (a.put o.dst undef) w1
  rw [hN]
  exact h
end
section
variable {P : Program} {ops : Array Oper} {rest : List Oper} {o : Oper} {a : Act} {Q : Exit → Act → World → Prop} {m : Nat}
theorem gate_store_in {F : Fence} {t : TypeId} {p x : Operand} {W : World} (_ho : o.op = .store t p x) (h : wpListIn F m P ops Q (o :: rest) a W) : wpListIn F m P ops Q (o :: rest) a W := h
theorem gate_dst_in {F : Fence} {N : Tmp} {W : World} (_hN : o.dst = some N) (h : wpListIn F m P ops Q (o :: rest) a W) : wpListIn F m P ops Q (o :: rest) a W := h
theorem skip_in (l : Nat) {W W' : World} (hN : o.dst = none) (hgd : o.guard = none) (hd : noDefer o = true) (hrun : (execOp a.eval o).run P W = .ok .skip W') (h : ∀ w1, w1 = W' → wpListIn (Fence.wide.inRound l) m P ops Q rest a w1) : wpListIn (Fence.wide.inRound l) m P ops Q (o :: rest) a W := by
  refine wpListIn_plain hgd fun K hK => op_rd l hd (next := K) (fun _ _ h => h) ?_
  unfold Oper.wp
  rw [hrun]
  show K (a.put o.dst undef) W'
  rw [hN]
  exact hK _ _ (h _ rfl)
end
section
variable {a0 : Int} {A1 : Option Addr} {c1 : Nat} {l1 : List S41} {A2 : Option Addr} {c2 : Nat} {l2 : List S68} {A3 : Option Addr} {c3 : Nat} {l3 : List Int} {A4 : Option Addr} {c4 : Nat} {l4 : List Int} {A5 : Option Addr} {c5 : Nat} {l5 : List Int} {w0 : World} {b8 b9 g n : Nat} {v9 : Value} {rows : Nat → List Bool} {W W' : World}
theorem FrSt.step (h : FrSt a0 A1 c1 l1 A2 c2 l2 A3 c3 l3 A4 c4 l4 A5 c5 l5 w0 b8 b9 g n v9 rows W) (hb : Below W.heap.size W W') : FrSt a0 A1 c1 l1 A2 c2 l2 A3 c3 l3 A4 c4 l4 A5 c5 l5 w0 b8 b9 g n v9 rows W' := by
  obtain ⟨f, arr, k, hs, hr⟩ := h.kg
  exact ⟨below_step h.below hb, blk_below h.k3 hb, h.h8, h.h9, h.hg, blk_below h.k8 hb, blk_below h.k9 hb, f, arr, blk_below k hb, hs, fun j hj => by obtain ⟨v, e, hR⟩ := hr j hj; exact ⟨v, e, Kd.R_below hR hb⟩⟩
theorem blk_row {b : Nat} {cs : Array Value} {t : TypeId} {row : Option Nat} (h : W.heap[b]? = some (.cells cs t (0, 0))) (hg : W.grownBy W' row) (hr : ∀ r, row = some r → ∃ o : Obj, W.heap[r]? = some o ∧ o.isCells = false) : W'.heap[b]? = some (.cells cs t (0, 0)) :=
  (hg.block b (blk_lt h) (fun e => by obtain ⟨o, ho, hc⟩ := hr b e.symm; rw [h] at ho; cases ho; cases hc)).trans h
theorem R_row {α : Type} {d : Kd α} {e base : Nat} {ok : Nat → Prop} {v : Value} {xs : List α} {row : Option Nat} (h : d.R e W base ok v xs) (hg : W.grownBy W' row) (hr : ∀ r, row = some r → ∃ o : Obj, W.heap[r]? = some o ∧ o.isCells = false) : d.R e W' base ok v xs :=
  Kd.R_mono (Kd.R_grown (Kd.R_bound h) hg (fun k hk e => by
    obtain ⟨_, _, _, q, _, cells, hc⟩ := hk
    obtain ⟨o, ho, hn⟩ := hr k e.symm
    rw [hc] at ho
    cases ho
    cases hn)) (fun _ hk => hk.1)
theorem FrSt.grown (h : FrSt a0 A1 c1 l1 A2 c2 l2 A3 c3 l3 A4 c4 l4 A5 c5 l5 w0 b8 b9 g n v9 rows W) {row : Option Nat} (hg : W.grownBy W' row) (hr : ∀ r, row = some r → w0.heap.size ≤ r ∧ ∃ o : Obj, W.heap[r]? = some o ∧ o.isCells = false) : FrSt a0 A1 c1 l1 A2 c2 l2 A3 c3 l3 A4 c4 l4 A5 c5 l5 w0 b8 b9 g n v9 rows W' := by
  have hr2 := fun r e => (hr r e).2
  obtain ⟨f, arr, k, hs, hR⟩ := h.kg
  exact ⟨h.below.grown hg h.below.size (fun r e => (hr r e).1), blk_row h.k3 hg hr2, h.h8, h.h9, h.hg, blk_row h.k8 hg hr2, blk_row h.k9 hg hr2, f, arr, blk_row k hg hr2, hs, fun j hj => by obtain ⟨v, e, hv⟩ := hR j hj; exact ⟨v, e, R_row hv hg hr2⟩⟩
theorem FrSt.appended (h : FrSt a0 A1 c1 l1 A2 c2 l2 A3 c3 l3 A4 c4 l4 A5 c5 l5 w0 b8 b9 g n v9 rows W) {xs : List Int} (hR : Kd.R (Kd.int .u32) 39 W w0.heap.size (fun _ => True) v9 xs) (hB : Below w0.heap.size w0 W') (hg : W.grownBy W' v9.ownBlock) : FrSt a0 A1 c1 l1 A2 c2 l2 A3 c3 l3 A4 c4 l4 A5 c5 l5 w0 b8 b9 g n v9 rows W' := by
  obtain ⟨f, arr, k, hs, hr⟩ := h.kg
  exact ⟨hB, blk_grown h.k3 hg (Kd.R_ne hR h.k3 (by decide)), h.h8, h.h9, h.hg, blk_grown h.k8 hg (Kd.R_ne hR h.k8 (by decide)), blk_grown h.k9 hg (Kd.R_ne hR h.k9 (by decide)), f, arr, blk_grown k hg (Kd.R_ne hR k (by decide)), hs, fun j hj => by obtain ⟨v, e, hv⟩ := hr j hj; exact ⟨v, e, Kd.R_over hv hR (by decide) hg⟩⟩
theorem FrSt.put9 (h : FrSt a0 A1 c1 l1 A2 c2 l2 A3 c3 l3 A4 c4 l4 A5 c5 l5 w0 b8 b9 g n v9 rows W) (u : Value) : FrSt a0 A1 c1 l1 A2 c2 l2 A3 c3 l3 A4 c4 l4 A5 c5 l5 w0 b8 b9 g n u rows (W.setCell ⟨b9, 0, none⟩ u) := by
  obtain ⟨f, arr, k, hs, hr⟩ := h.kg
  refine ⟨h.below.setCell (p := ⟨b9, 0, none⟩) h.h9 u, blk_far h.k3 (p := ⟨b9, 0, none⟩) (blk_ne h.k3 h.k9 (by decide)) u, h.h8, h.h9, h.hg, blk_far h.k8 (p := ⟨b9, 0, none⟩) (blk_ne h.k8 h.k9 (by decide)) u, by simpa using blk_set h.k9 0 u, f, arr, blk_far k (p := ⟨b9, 0, none⟩) (blk_ne k h.k9 (by decide)) u, hs, fun j hj => ?_⟩
  obtain ⟨v, e, hv⟩ := hr j hj
  exact ⟨v, e, Kd.R_set hv h.k9 (by decide) 0 u⟩
def RowsLt (g n B : Nat) (W : World) : Prop := ∀ arr : Array Value, W.heap[g]? = some (.cells arr 33 (0, 0)) → ∀ j v q, j < n → arr[j]? = some v → v.ownBlock = some q → q < B
theorem FrSt.lt (h : FrSt a0 A1 c1 l1 A2 c2 l2 A3 c3 l3 A4 c4 l4 A5 c5 l5 w0 b8 b9 g n v9 rows W) : RowsLt g n W.heap.size W := by
  obtain ⟨f, arr, k, hs, hr⟩ := h.kg
  intro arr' k' j v q hj e hq
  rw [k] at k'
  cases k'
  obtain ⟨v', e', hv⟩ := hr j hj
  rw [e] at e'
  cases e'
  exact Kd.R_lt hv q hq
theorem RowsLt.below {B : Nat} (h : RowsLt g n B W) {arr : Array Value} (k : W.heap[g]? = some (.cells arr 33 (0, 0))) (hb : Below W.heap.size W W') : RowsLt g n B W' := by
  intro arr' k' j v q hj e hq
  rw [blk_below k hb] at k'
  cases k'
  exact h arr k j v q hj e hq
theorem FrSt.putg (h : FrSt a0 A1 c1 l1 A2 c2 l2 A3 c3 l3 A4 c4 l4 A5 c5 l5 w0 b8 b9 g n v9 rows W) (p : Nat) (u : Value) (xs : List Bool) (hu : Kd.R Kd.bool 4 W w0.heap.size (fun _ => True) u xs) {B : Nat} (hB : ∀ k, u.ownBlock = some k → B ≤ k) (hap : RowsLt g n B W) : FrSt a0 A1 c1 l1 A2 c2 l2 A3 c3 l3 A4 c4 l4 A5 c5 l5 w0 b8 b9 g n v9 (fun j => if j = p then xs else rows j) (W.setCell ⟨g, p, none⟩ u) := by
  obtain ⟨f, arr, k, hs, hr⟩ := h.kg
  refine ⟨h.below.setCell (p := ⟨g, p, none⟩) h.hg u, blk_far h.k3 (p := ⟨g, p, none⟩) (blk_ne h.k3 k (by decide)) u, h.h8, h.h9, h.hg, blk_far h.k8 (p := ⟨g, p, none⟩) (blk_ne h.k8 k (by decide)) u, blk_far h.k9 (p := ⟨g, p, none⟩) (blk_ne h.k9 k (by decide)) u, (fun q => if some q = u.ownBlock then p else f q), arr.setIfInBounds p u, blk_set k p u, by simp [hs], fun j hj => ?_⟩
  obtain ⟨v, e, hv⟩ := hr j hj
  by_cases ej : j = p
  · subst ej
    refine ⟨u, by rw [Array.getElem?_setIfInBounds_self_of_lt (by omega)], ?_⟩
    have h1 := Kd.R_mono (Kd.R_set (Kd.R_tight rfl hu) k (by decide) j u) (ok' := fun q => (if some q = u.ownBlock then j else f q) = j) (fun q hq => by rw [if_pos hq])
    simpa using h1
  · refine ⟨v, by rw [Array.getElem?_setIfInBounds_ne (fun h => ej h.symm)]; exact e, ?_⟩
    simp only [ej, if_false]
    refine Kd.R_mono (Kd.R_set (Kd.R_tight rfl hv) k (by decide) p u) (fun q hq => ?_)
    have hne : ¬ some q = u.ownBlock := fun e1 => by
      have h1 := hB q e1.symm
      have h2 := hap arr k j v q hj e hq.symm
      omega
    show (if some q = u.ownBlock then p else f q) = j
    rw [if_neg hne]
    exact hv.1 q hq.symm
theorem FrSt.rowOk (h : FrSt a0 A1 c1 l1 A2 c2 l2 A3 c3 l3 A4 c4 l4 A5 c5 l5 w0 b8 b9 g n v9 rows W) : RowOk g n W := fun j hj => by
  obtain ⟨f, arr, k, hs, hr⟩ := h.kg
  obtain ⟨v, e, hv⟩ := hr j hj
  obtain ⟨A, c, rfl⟩ := Kd.R_slice hv
  exact ⟨A, _, c, (blk_cell k j).trans e⟩
theorem FrSt.owns (h : FrSt a0 A1 c1 l1 A2 c2 l2 A3 c3 l3 A4 c4 l4 A5 c5 l5 w0 b8 b9 g n v9 rows W) (rs : List (List Bool)) (hl : rs.length = n) (hn : n ≤ 256) (hr : ∀ j (hj : j < rs.length), rows j = rs[j]) : Kd.S (Kd.slice 4 Kd.bool) 33 W w0.heap.size (fun _ => True) (.slice (some ⟨g, 0, none⟩) n n) rs := by
  obtain ⟨f, arr, k, hs, hR⟩ := h.kg
  have hal : arr.toList.length = n := by simp [hs]
  refine ⟨f, fun _ _ => trivial, arr.toList, ⟨?_, .inr ⟨g, n, arr, by rw [List.length_zipIdx, hl], h.hg, k, by rw [List.length_zipIdx, hl]; exact Nat.le_refl _, by simp only [maxLen]; omega, ?_, ?_⟩⟩, ?_, fun j p hj => ?_⟩
  · rw [List.length_zipIdx, hl, hal]
    show n = n * 1
    omega
  · rw [hs]
    show n = n * 1
    omega
  · rw [List.length_zipIdx, hl]
    show arr.toList.take (n * 1) = arr.toList
    rw [List.take_of_length_le (by omega)]
  · rw [List.length_zipIdx, hl, hal]
    show n = n * 1
    omega
  · rw [List.getElem?_zipIdx] at hj
    cases he : rs[j]? with
    | none => rw [he] at hj; cases hj
    | some x =>
      rw [he] at hj
      simp only [Option.map_some, Nat.zero_add, Option.some.injEq] at hj
      subst hj
      obtain ⟨hj', rfl⟩ := List.getElem?_eq_some_iff.1 he
      obtain ⟨v, e, hv⟩ := hR j (by omega)
      rw [hr j hj'] at hv
      refine ⟨v, ?_, Kd.R_mono (Kd.R_types hv k (by decide)) (fun q hq => ⟨⟨trivial, by simp [Value.ownBlock]; exact hq.2⟩, hq.1⟩)⟩
      show (arr.toList.drop (j * 1)).take 1 = [v]
      rw [Nat.mul_one]
      have hv' : arr.toList[j]? = some v := by simpa using e
      obtain ⟨h1, h2⟩ := List.getElem?_eq_some_iff.1 hv'
      rw [List.drop_eq_getElem_cons h1, h2]
      rfl
theorem FrSt.reads (h : FrSt a0 A1 c1 l1 A2 c2 l2 A3 c3 l3 A4 c4 l4 A5 c5 l5 w0 b8 b9 g n v9 rows W) (rs : List (List Bool)) (hl : rs.length = n) (hn : n ≤ 256) (hr : ∀ j (hj : j < rs.length), rows j = rs[j]) : Kd.C (Kd.slice 4 Kd.bool) W (some ⟨g, 0, none⟩) rs.length rs := by
  refine ⟨rfl, by omega, fun _ => ⟨_, rfl, fun j p hj => ?_⟩⟩
  obtain ⟨hj', rfl⟩ := List.getElem?_eq_some_iff.1 hj
  obtain ⟨f, arr, k, hs, hR⟩ := h.kg
  obtain ⟨v, e, hv⟩ := hR j (by omega)
  rw [hr j hj'] at hv
  obtain ⟨A, c, rfl, hc, hC⟩ := Kd.R_reads hv
  refine ⟨[_], rfl, ⟨A, c, rfl, hc, hC⟩, fun i u hu => ?_⟩
  cases i with
  | zero =>
    have : Value.slice A rs[j].length c = u := by simpa using hu
    subst this
    have e1 : (⟨g, 0, none⟩ : Addr).add (j * (Kd.slice 4 Kd.bool).sz + 0) = ⟨g, j, none⟩ := by
      have : (Kd.slice 4 Kd.bool).sz = 1 := rfl
      rw [this]
      cases j <;> simp [Addr.add]
    rw [e1]
    exact (blk_cell k j).trans e
  | succ i => simp at hu
theorem FrSt.backKeeps (h : FrSt a0 A1 c1 l1 A2 c2 l2 A3 c3 l3 A4 c4 l4 A5 c5 l5 w0 b8 b9 g n v9 rows W') : BackKeeps b8 g n n W W' := ⟨fun _ => (blk_cell h.k8 0).trans rfl, fun _ => h.rowOk⟩
theorem keepsOthers_below (hb : Below W.heap.size W W') : KeepsOthers W W' := ⟨hb.size, fun k o hk _ => (hb.block k (blk_lt hk)).trans hk⟩
theorem keepsOthers_R {α : Type} {d : Kd α} {e base : Nat} {ok : Nat → Prop} {v : Value} {xs : List α} (h : d.R e W base ok v xs) (hg : W.grownBy W' v.ownBlock) : KeepsOthers W W' := KeepsOthers.of_grownBy hg (fun j o e ho => by
  obtain ⟨inner, hi⟩ := Kd.R_own h
  obtain ⟨cells, hc⟩ := own_typed hi j e
  rw [hc] at ho
  cases ho
  rfl)
end
end Go.Proofs.Yteiiodlgdbiimaa.F
