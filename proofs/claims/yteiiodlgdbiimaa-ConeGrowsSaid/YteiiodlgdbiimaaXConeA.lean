/- The law ConeGrows in plain Lean: what the printed function computes answers true. -/
import Derived.Test.YteiiodlgdbiimaaFd3
import Derived.Test.YteiiodlgdbiimaaXConeG
import Derived.Test.YteiiodlgdbiimaaXOpen
namespace Go.Proofs.Yteiiodlgdbiimaa.F
open Go.RowKit Go.Shelf Go.Proofs.YteiiodlgdbiimaaW.PrintWords Go.Proofs.YteiiodlgdbiimaaW.PrintLast Go.Proofs.YteiiodlgdbiimaaW.PrintMore
set_option linter.unusedVariables false
set_option linter.unusedSimpArgs false
theorem Ev.ifp {α : Type} {c : Prop} [Decidable c] {g f : Nat → Option α} {r : α} (hc : c) (h : Ev g r) : Ev (fun k => if c then g k else f k) r := Ev.congr (fun k => if_pos hc) h
theorem Ev.ifn {α : Type} {c : Prop} [Decidable c] {g f : Nat → Option α} {r : α} (hc : ¬ c) (h : Ev f r) : Ev (fun k => if c then g k else f k) r := Ev.congr (fun k => if_neg hc) h
theorem Ev.bound {α β : Type} {o : Option α} {a : α} {f : Nat → α → Option β} {r : β} (h : o = some a) (k : Ev (fun n => f n a) r) : Ev (fun n => o.bind (f n)) r := Ev.congr (fun n => by rw [h]; rfl) k
theorem half_u32 {x : Int} (h0 : 0 ≤ x) (h1 : x < 4294967296) : (Int.tdiv x 2) % 4294967296 = x / 2 := by
  rw [Int.tdiv_eq_ediv_of_nonneg h0]
  omega
theorem wrap_nat {i : Nat} (h : i < 1000000000) : wrap64 ((i : Int) + 1) = ((i + 1 : Nat) : Int) := by
  have e : ((i + 1 : Nat) : Int) = (i : Int) + 1 := by push_cast; rfl
  rw [e]
  exact wrap64_id (by omega) (by omega)
theorem rd_at {l : List Int} {i : Nat} (h : i < l.length) : rd l (i : Int) = l[i] := by simp [rd, List.getD_eq_getElem?_getD, List.getElem?_eq_getElem h]
theorem rd41_at {l : List S41} {i : Nat} (h : i < l.length) : rd_T41 l (i : Int) = l[i] := by simp [rd_T41, List.getD_eq_getElem?_getD, List.getElem?_eq_getElem h]
theorem rd68_at {l : List S68} {i : Nat} (h : i < l.length) : rd_T68 l (i : Int) = l[i] := by simp [rd_T68, List.getD_eq_getElem?_getD, List.getElem?_eq_getElem h]
theorem lits_ev {l : List Int} {V : Int} (hu : InU32 l) (hl : l.length ≤ 1024) (hb : ∀ x ∈ l, wrap64 (x / 2) ≤ V) : Ev (fun k => inquestref03_lits.f k l V) true := by
  have key : ∀ (d i : Nat), l.length - i = d → i ≤ l.length → Ev (fun k => inquestref03_lits.l0 k l V (i : Int)) true := by
    intro d
    induction d with
    | zero =>
      intro i hd hi
      refine Ev.step (f := fun _ => some true) (fun k => ?_) (Ev.now true)
      simp only [inquestref03_lits.l0]
      rw [if_neg (by omega), decide_eq_true (by omega)]
    | succ d ih =>
      intro i hd hi
      have hlt : i < l.length := by omega
      have hx := hu _ (List.getElem_mem hlt)
      have hy := hb _ (List.getElem_mem hlt)
      rw [wrap64_id (by omega) (by omega)] at hy
      refine Ev.step (fun k => ?_) (ih (i + 1) (by omega) (by omega))
      simp only [inquestref03_lits.l0]
      rw [if_pos (by omega), if_pos (by omega), rd_at hlt, half_u32 hx.1 hx.2, if_neg (by omega), wrap_nat (by omega)]
  exact key l.length 0 (by omega) (by omega)
section
variable {a0 : Int} {l1 : List S41} {l2 : List S68} {l3 l4 l5 : List Int}
theorem mayr_ev (hv : Valid a0 l1 l2 l3 l4 l5) (h1 : In41 l1) (h2 : In68 l2) (h3 : InU32 l3) (h4 : InU32 l4) (h5 : InU32 l5) : Ev (fun k => inquestref03_May.f k a0 l1 l2 l3 l4 l5) true := by
  have hp := hv.pos
  have hle := hv.le
  obtain ⟨V, hV⟩ : ∃ V, a0 + (l1.length : Int) + (l2.length : Int) = V := ⟨_, rfl⟩
  have hend : Ev (fun k => (inquestref03_lits.f k l3 V).bind fun t166 => (if t166 = true then ((inquestref03_lits.f k l4 V).bind fun t167 => (if t167 = true then ((inquestref03_lits.f k l5 V).bind fun t168 => (some t168)) else (some false))) else (some false))) true := by
    refine Ev.bind (lits_ev h3 hv.outs.1 (by rw [← hV]; exact hv.outs.2)) (Ev.ifp rfl ?_)
    refine Ev.bind (lits_ev h4 hv.bads.1 (by rw [← hV]; exact hv.bads.2)) (Ev.ifp rfl ?_)
    exact Ev.bind (lits_ev h5 hv.cons.1 (by rw [← hV]; exact hv.cons.2)) (Ev.now true)
  have key2 : ∀ (d i : Nat), l2.length - i = d → i ≤ l2.length → Ev (fun k => inquestref03_May.l1 k V (i : Int) a0 l1 l2 l3 l4 l5) true := by
    intro d
    induction d with
    | zero =>
      intro i hd hi
      refine Ev.step (fun k => ?_) hend
      simp only [inquestref03_May.l1]
      rw [if_neg (by omega)]
    | succ d ih =>
      intro i hd hi
      have hlt : i < l2.length := by omega
      have hx := h2 _ (List.getElem_mem hlt)
      have hy := hv.gate i hlt
      refine Ev.step (fun k => ?_) (ih (i + 1) (by omega) (by omega))
      simp only [inquestref03_May.l1]
      rw [if_pos (by omega), if_pos (by omega), rd68_at hlt, half_u32 hx.1.1 hx.1.2, wrap64_id (x := a0 + (l1.length : Int)) (by omega) (by omega), wrap64_id (x := a0 + (l1.length : Int) + 1) (by omega) (by omega), wrap64_id (x := a0 + (l1.length : Int) + 1 + (i : Int)) (by omega) (by omega), if_neg (by omega), if_neg (by omega), wrap_nat (by omega)]
  have key1 : ∀ (d i : Nat), l1.length - i = d → i ≤ l1.length → Ev (fun k => inquestref03_May.l0 k V (i : Int) a0 l1 l2 l3 l4 l5) true := by
    intro d
    induction d with
    | zero =>
      intro i hd hi
      refine Ev.step (fun k => ?_) (key2 l2.length 0 (by omega) (by omega))
      simp only [inquestref03_May.l0]
      rw [if_neg (by omega)]
      rfl
    | succ d ih =>
      intro i hd hi
      have hlt : i < l1.length := by omega
      have hx := h1 _ (List.getElem_mem hlt)
      have hy := hv.next i hlt
      have hz := hv.reset i hlt
      refine Ev.step (fun k => ?_) (ih (i + 1) (by omega) (by omega))
      simp only [inquestref03_May.l0]
      rw [if_pos (by omega), if_pos (by omega), rd41_at hlt, half_u32 hx.1.1 hx.1.2, if_neg (by omega), if_neg (by omega), wrap_nat (by omega)]
  have hj : Ev (fun k => inquestref03_May.j0 k false a0 l1 l2 l3 l4 l5) true := by
    refine Ev.step (fun k => ?_) (key1 l1.length 0 (by omega) (by omega))
    simp only [inquestref03_May.j0]
    rw [if_neg (by decide), wrap64_id (x := a0 + (l1.length : Int)) (by omega) (by omega), wrap64_id (x := a0 + (l1.length : Int) + (l2.length : Int)) (by omega) (by omega), hV, if_neg (by omega)]
    rfl
  refine Ev.congr (fun k => ?_) hj
  unfold inquestref03_May.f
  rw [if_neg (by omega), if_neg (by omega), if_neg (by omega), decide_eq_false (by omega)]
theorem varsr_ev (hv : Valid a0 l1 l2 l3 l4 l5) (h1 : In41 l1) (h2 : In68 l2) (h3 : InU32 l3) (h4 : InU32 l4) (h5 : InU32 l5) : Ev (fun k => inquestref03_Vars.f k a0 l1 l2 l3 l4 l5) (a0 + (l1.length : Int) + (l2.length : Int)) := by
  have hp := hv.pos
  have hle := hv.le
  refine Ev.bind (mayr_ev hv h1 h2 h3 h4 h5) (Ev.ifp rfl ?_)
  rw [wrap64_id (x := a0 + (l1.length : Int)) (by omega) (by omega), wrap64_id (x := a0 + (l1.length : Int) + (l2.length : Int)) (by omega) (by omega)]
  exact Ev.now _
theorem okIn_of (h1 : In41 l1) (h2 : In68 l2) (n1 : l1.length ≤ 1099511627776) (n2 : l2.length ≤ 1099511627776) : okIn l1 l2 = true := by
  simp only [okIn, u32s, Bool.and_eq_true, decide_eq_true_eq, List.all_eq_true, List.mem_map]
  refine ⟨⟨⟨⟨n1, n2⟩, ?_⟩, ?_⟩, ?_⟩
  · rintro x ⟨g, hg, rfl⟩
    exact (h1 g hg).1
  · rintro x ⟨g, hg, rfl⟩
    exact (h2 g hg).1
  · rintro x ⟨g, hg, rfl⟩
    exact (h2 g hg).2
theorem u32s_of {l : List Int} (h : InU32 l) : u32s l = true := by
  simp only [u32s, Bool.and_eq_true, decide_eq_true_eq, List.all_eq_true]
  exact h
theorem ever_is (hk : okIn l1 l2 = true) {ls : List Int} (hu : InU32 ls) : cone_Ever.f a0 l1 l2 l3 l4 l5 ls = if mayB a0 l1 l2 l3 l4 l5 = true ∧ ls.any (beyW (varsW a0 l1.length l2.length)) = false then some (coneOf a0 l1 l2 ls true, 0) else some ([], 2) := by
  unfold cone_Ever.f cone_of.f
  rw [if_pos ⟨hk, u32s_of hu⟩]
  split <;> rfl
theorem of_is (hk : okIn l1 l2 = true) {ls : List Int} (hu : InU32 ls) : cone_Of.f a0 l1 l2 l3 l4 l5 ls = if mayB a0 l1 l2 l3 l4 l5 = true ∧ ls.any (beyW (varsW a0 l1.length l2.length)) = false then some (coneOf a0 l1 l2 ls false, 0) else some ([], 2) := by
  unfold cone_Of.f cone_of.f
  rw [if_pos ⟨hk, u32s_of hu⟩]
  split <;> rfl
end
theorem bools_ev (xs : List Bool) (hn : xs.length < 1000000) : Ev (fun k => inquestref00_Bools.f k xs xs) true := by
  have key : ∀ (d i : Nat), xs.length - i = d → i ≤ xs.length → Ev (fun k => inquestref00_Bools.l0 k xs xs xs (xs.length : Int) (i : Int)) true := by
    intro d
    induction d with
    | zero =>
      intro i hd hi
      refine Ev.step (f := fun _ => some true) (fun k => ?_) (Ev.now true)
      simp only [inquestref00_Bools.l0]
      rw [if_neg (by omega), beq_self_eq_true]
    | succ d ih =>
      intro i hd hi
      refine Ev.step (fun k => ?_) (ih (i + 1) (by omega) (by omega))
      simp only [inquestref00_Bools.l0]
      rw [if_pos (by omega), if_pos (by omega), if_pos (by omega), if_neg (by omega), if_pos (by omega), if_neg (by simp), wrap_nat (by omega)]
  exact key xs.length 0 (by omega) (by omega)
theorem lives09_ev : Ev (fun k => inquestlaw09_lives.f k) true := Ev.of (fun k => inquestlaw09_lives.mono k) (k := 20) (by kernel_rfl)
end Go.Proofs.Yteiiodlgdbiimaa.F
