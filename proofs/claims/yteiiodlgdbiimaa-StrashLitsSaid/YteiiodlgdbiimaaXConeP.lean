/- The plain side of cone: what add, grow and of come to, and that the queue never outgrows the variables. -/
import Derived.Test.YteiiodlgdbiimaaXAdd
namespace Go.Proofs.Yteiiodlgdbiimaa.F
open Go.RowKit Go.Shelf Go.Proofs.YteiiodlgdbiimaaW.PrintWords Go.Proofs.YteiiodlgdbiimaaW.PrintLast Go.Proofs.YteiiodlgdbiimaaW.PrintMore
set_option linter.unusedVariables false
set_option linter.unusedSimpArgs false

def stepP (a0 : Int) (l1 : List S41) (l2 : List S68) (ever : Bool) (s : List Bool × List Int) (v : Int) : List Bool × List Int :=
  if 1 + a0 + (l1.length : Int) ≤ v then addP (addP s (rd_T68 l2 (v - (1 + a0 + (l1.length : Int)))).f0) (rd_T68 l2 (v - (1 + a0 + (l1.length : Int)))).f1
  else if a0 < v ∧ ever = true then addP s (rd_T41 l1 (v - 1 - a0)).f0 else s
def growP (a0 : Int) (l1 : List S41) (l2 : List S68) (ever : Bool) : Nat → List Bool × List Int → Nat → List Bool × List Int
  | 0, s, _ => s
  | k + 1, s, i => if i < s.2.length then growP a0 l1 l2 ever k (stepP a0 l1 l2 ever s (s.2.getD i 0)) (i + 1) else s
def addsP : List Int → List Bool × List Int → List Bool × List Int
  | [], s => s
  | x :: xs, s => addsP xs (addP s x)
/-- what the walk needs of a circuit: n variables in all, each literal's variable among them -/
structure Fine (a0 : Int) (l1 : List S41) (l2 : List S68) (n : Nat) : Prop where
  pos : 0 ≤ a0
  num : 1 + a0 + (l1.length : Int) + (l2.length : Int) = (n : Int)
  le : n ≤ 16385
  g : ∀ k, k < l2.length → vOf (rd_T68 l2 (k : Int)).f0 < (n : Int) ∧ vOf (rd_T68 l2 (k : Int)).f1 < (n : Int)
  l : ∀ k, k < l1.length → vOf (rd_T41 l1 (k : Int)).f0 < (n : Int)
structure Inv (n : Nat) (s : List Bool × List Int) : Prop where
  len : s.1.length = n
  q : ∀ v ∈ s.2, 0 < v ∧ v < (n : Int)
  cnt : s.2.length = s.1.count true
theorem Inv.le {n : Nat} {s : List Bool × List Int} (h : Inv n s) : s.2.length ≤ n := by
  rw [h.cnt, ← h.len]
  exact List.count_le_length
theorem count_set (xs : List Bool) (i : Nat) (h : i < xs.length) (hf : xs.getD i false = false) : (xs.set i true).count true = xs.count true + 1 := by
  induction xs generalizing i with
  | nil => simp at h
  | cons b xs ih =>
    cases i with
    | zero =>
      have : b = false := by simpa using hf
      subst this
      simp
    | succ i =>
      rw [List.set_cons_succ, List.count_cons, List.count_cons, ih i (by simpa using h) (by simpa using hf)]
      omega
theorem addP_len (s : List Bool × List Int) (x : Int) : s.2.length ≤ (addP s x).2.length := by
  unfold addP
  split
  · simp
  · exact Nat.le_refl _
theorem Inv.add {n : Nat} {s : List Bool × List Int} (h : Inv n s) (x : Int) (hx : vOf x < (n : Int)) : Inv n (addP s x) := by
  unfold addP
  split
  · rename_i hc
    refine ⟨by rw [List.length_set]; exact h.len, fun v hv => ?_, ?_⟩
    · rcases List.mem_append.1 hv with hv | hv
      · exact h.q v hv
      · rw [List.mem_singleton.1 hv]
        exact ⟨hc.1, hx⟩
    · rw [List.length_append, List.length_singleton, count_set _ _ (by rw [h.len]; omega) hc.2, h.cnt]
  · exact h
theorem Inv.step {a0 : Int} {l1 : List S41} {l2 : List S68} {ever : Bool} {n : Nat} {s : List Bool × List Int} (hf : Fine a0 l1 l2 n) (h : Inv n s) (v : Int) (hv : 0 < v ∧ v < (n : Int)) : Inv n (stepP a0 l1 l2 ever s v) := by
  have h0 := hf.pos
  have hn := hf.num
  unfold stepP
  split
  · rename_i hc
    have hg := hf.g (v - (1 + a0 + (l1.length : Int))).toNat (by omega)
    rw [Int.toNat_of_nonneg (by omega)] at hg
    exact (h.add _ hg.1).add _ hg.2
  · split
    · rename_i hc1 hc2
      have hl := hf.l (v - 1 - a0).toNat (by omega)
      rw [Int.toNat_of_nonneg (by omega)] at hl
      exact h.add _ hl
    · exact h
theorem Inv.grow {a0 : Int} {l1 : List S41} {l2 : List S68} {ever : Bool} {n : Nat} (hf : Fine a0 l1 l2 n) : ∀ (k : Nat) (s : List Bool × List Int) (i : Nat), Inv n s → Inv n (growP a0 l1 l2 ever k s i)
  | 0, s, i, h => h
  | k + 1, s, i, h => by
    unfold growP
    split
    · rename_i hi
      exact Inv.grow hf k _ _ (h.step hf _ (h.q _ (by rw [List.getD_eq_getElem?_getD, List.getElem?_eq_getElem hi]; exact List.getElem_mem hi)))
    · exact h
theorem Inv.adds {n : Nat} : ∀ (l : List Int) (s : List Bool × List Int), (∀ x ∈ l, vOf x < (n : Int)) → Inv n s → Inv n (addsP l s)
  | [], s, _, h => h
  | x :: l, s, hl, h => Inv.adds l _ (fun y hy => hl y (List.mem_cons_of_mem _ hy)) (h.add x (hl x List.mem_cons_self))
theorem addsP_append (l m : List Int) (s : List Bool × List Int) : addsP (l ++ m) s = addsP m (addsP l s) := by
  induction l generalizing s with
  | nil => rfl
  | cons x l ih => exact ih _
theorem Inv.start (n : Nat) : Inv n (List.replicate n false, []) := ⟨List.length_replicate, fun v hv => by simp at hv, by simp [List.count_replicate]⟩
end Go.Proofs.Yteiiodlgdbiimaa.F
