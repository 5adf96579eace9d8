/- A circuit that may be has each literal's variable among its own. -/
import Derived.Test.YteiiodlgdbiimaaXConeP
namespace Go.Proofs.Yteiiodlgdbiimaa.F
open Go.RowKit Go.Shelf Go.Proofs.YteiiodlgdbiimaaW.PrintWords Go.Proofs.YteiiodlgdbiimaaW.PrintLast Go.Proofs.YteiiodlgdbiimaaW.PrintMore
set_option linter.unusedVariables false
set_option linter.unusedSimpArgs false

def u32s (l : List Int) : Bool := l.all fun x => decide (0 ≤ x) && decide (x < 4294967296)
theorem u32s_mem {l : List Int} (h : u32s l = true) {x : Int} (hx : x ∈ l) : 0 ≤ x ∧ x < 4294967296 := by
  have := List.all_eq_true.1 h x hx
  simpa using this
/-- numbers as memory holds them: literals of 32 bits, lists that fit -/
def okIn (l1 : List S41) (l2 : List S68) : Bool := decide (l1.length ≤ 1099511627776) && decide (l2.length ≤ 1099511627776) && u32s (l1.map (·.f0)) && u32s (l2.map (·.f0)) && u32s (l2.map (·.f1))
theorem wrap64_id {x : Int} (h0 : -9223372036854775808 ≤ x) (h1 : x < 9223372036854775808) : wrap64 x = x := by unfold wrap64; omega
theorem u32_id {x : Int} (h0 : 0 ≤ x) (h1 : x < 4294967296) : IntKind.u32.wrap x = x := by
  simp [IntKind.wrap, IntKind.bits, IntKind.signed]
  omega
theorem vOf_u32 {x : Int} (h0 : 0 ≤ x) (h1 : x < 4294967296) : vOf x = x / 2 := by unfold vOf; rw [wrap64_id (by omega) (by omega)]
theorem gatesOk_at : ∀ (l : List S68) (o : Int), 0 ≤ o → o + (l.length : Int) < 4294967296 → gatesOk o l = true → ∀ k (h : k < l.length), l[k].f0 / 2 < o + 1 + (k : Int) ∧ l[k].f1 ≤ l[k].f0
  | [], o, _, _, _, k, h => by simp at h
  | x :: l, o, h0, h1, hg, k, h => by
    simp only [gatesOk, Bool.and_eq_true, Bool.not_eq_true', decide_eq_false_iff_not] at hg
    rw [List.length_cons] at h1
    rw [u32_id (by omega) (by omega)] at hg
    obtain ⟨⟨ha, hb⟩, hc⟩ := hg
    cases k with
    | zero => simp only [List.getElem_cons_zero]; omega
    | succ k =>
      have := gatesOk_at l (o + 1) (by omega) (by omega) hc k (by simpa using h)
      simp only [List.getElem_cons_succ]
      omega
structure Valid (a0 : Int) (l1 : List S41) (l2 : List S68) (l3 l4 l5 : List Int) : Prop where
  pos : 0 ≤ a0
  le : a0 + (l1.length : Int) + (l2.length : Int) ≤ 16384
  next : ∀ k (h : k < l1.length), 0 ≤ l1[k].f0 ∧ l1[k].f0 / 2 ≤ a0 + (l1.length : Int) + (l2.length : Int)
  reset : ∀ k (h : k < l1.length), l1[k].f1 ≤ 2
  gate : ∀ k (h : k < l2.length), 0 ≤ l2[k].f1 ∧ l2[k].f1 ≤ l2[k].f0 ∧ l2[k].f0 / 2 < a0 + (l1.length : Int) + 1 + (k : Int)
  outs : l3.length ≤ 1024 ∧ ∀ x ∈ l3, wrap64 (x / 2) ≤ a0 + (l1.length : Int) + (l2.length : Int)
  bads : l4.length ≤ 1024 ∧ ∀ x ∈ l4, wrap64 (x / 2) ≤ a0 + (l1.length : Int) + (l2.length : Int)
  cons : l5.length ≤ 1024 ∧ ∀ x ∈ l5, wrap64 (x / 2) ≤ a0 + (l1.length : Int) + (l2.length : Int)
theorem varsW_id {a0 : Int} {n m : Nat} (h0 : -9223372036854775808 ≤ a0) (h1 : a0 < 4611686018427387904) (hn : n ≤ 1099511627776) (hm : m ≤ 1099511627776) : varsW a0 n m = a0 + (n : Int) + (m : Int) := by
  unfold varsW
  rw [wrap64_id (x := a0 + (n : Int)) (by omega) (by omega), wrap64_id (by omega) (by omega)]
theorem listOk_iff {V : Int} {l : List Int} : listOk V l = true ↔ l.length ≤ 1024 ∧ ∀ x ∈ l, wrap64 (x / 2) ≤ V := by
  unfold listOk beyW
  simp only [Bool.and_eq_true, Bool.not_eq_true', decide_eq_false_iff_not, List.any_eq_false, decide_eq_true_eq]
  constructor
  · rintro ⟨h, k⟩
    exact ⟨by omega, fun x hx => by have := k x hx; omega⟩
  · rintro ⟨h, k⟩
    exact ⟨by omega, fun x hx => by have := k x hx; omega⟩
theorem valid_of_may {a0 : Int} {l1 : List S41} {l2 : List S68} {l3 l4 l5 : List Int} (hk : okIn l1 l2 = true) (h : mayB a0 l1 l2 l3 l4 l5 = true) : Valid a0 l1 l2 l3 l4 l5 ∧ varsW a0 l1.length l2.length = a0 + (l1.length : Int) + (l2.length : Int) := by
  simp only [okIn, Bool.and_eq_true, decide_eq_true_eq] at hk
  obtain ⟨⟨⟨⟨hn, hm⟩, h10⟩, h20⟩, h21⟩ := hk
  simp only [mayB, Bool.and_eq_true, Bool.not_eq_true', decide_eq_false_iff_not] at h
  obtain ⟨⟨⟨⟨⟨⟨⟨ha, hb⟩, hc⟩, hd⟩, he⟩, hf⟩, hg⟩, hi⟩ := h
  have hV := varsW_id (a0 := a0) (n := l1.length) (m := l2.length) (by omega) (by omega) hn hm
  rw [hV] at hc hd he hf hg
  rw [wrap64_id (by omega) (by omega), u32_id (by omega) (by omega)] at hi
  refine ⟨⟨by omega, by omega, fun k h => ?_, fun k h => ?_, fun k h => ?_, listOk_iff.1 hd, listOk_iff.1 he, listOk_iff.1 hf⟩, hV⟩
  · have h1 := List.all_eq_true.1 hg l1[k] (List.getElem_mem h)
    have h2 := u32s_mem h10 (List.mem_map_of_mem (List.getElem_mem h))
    simp only [latchOk, beyW, Bool.and_eq_true, Bool.not_eq_true', decide_eq_false_iff_not] at h1
    rw [wrap64_id (by omega) (by omega)] at h1
    omega
  · have h1 := List.all_eq_true.1 hg l1[k] (List.getElem_mem h)
    simp only [latchOk, beyW, Bool.and_eq_true, Bool.not_eq_true', decide_eq_false_iff_not] at h1
    omega
  · have h1 := gatesOk_at l2 _ (by omega) (by omega) hi k h
    have h2 := u32s_mem h21 (List.mem_map_of_mem (List.getElem_mem h))
    exact ⟨h2.1, h1.2, by omega⟩
theorem Valid.fine {a0 : Int} {l1 : List S41} {l2 : List S68} {l3 l4 l5 : List Int} (hk : okIn l1 l2 = true) (h : Valid a0 l1 l2 l3 l4 l5) : Fine a0 l1 l2 (a0 + (l1.length : Int) + (l2.length : Int) + 1).toNat := by
  simp only [okIn, Bool.and_eq_true, decide_eq_true_eq] at hk
  obtain ⟨⟨⟨⟨hn, hm⟩, h10⟩, h20⟩, h21⟩ := hk
  have h0 := h.pos
  have h1 := h.le
  refine ⟨h0, by omega, by omega, fun k hk => ?_, fun k hk => ?_⟩
  · have e : rd_T68 l2 (k : Int) = l2[k] := by simp [rd_T68, List.getD_eq_getElem?_getD, List.getElem?_eq_getElem hk]
    rw [e]
    have hg := h.gate k hk
    have h2 := u32s_mem h20 (List.mem_map_of_mem (List.getElem_mem hk))
    have h3 := u32s_mem h21 (List.mem_map_of_mem (List.getElem_mem hk))
    rw [vOf_u32 h2.1 h2.2, vOf_u32 h3.1 h3.2]
    omega
  · have e : rd_T41 l1 (k : Int) = l1[k] := by simp [rd_T41, List.getD_eq_getElem?_getD, List.getElem?_eq_getElem hk]
    rw [e]
    have hg := h.next k hk
    have h2 := u32s_mem h10 (List.mem_map_of_mem (List.getElem_mem hk))
    rw [vOf_u32 h2.1 h2.2]
    omega
end Go.Proofs.Yteiiodlgdbiimaa.F
