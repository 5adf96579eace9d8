/- What the proof of the law StrashSmall needs, part 6: the walks of the functions that it reaches, and the plain words on what these compute. -/
import Derived.Deep.RegionLaw
import Derived.IntWalk
import Derived.Laws.BitsAllLaws
import Derived.Laws.CopyOwn
import Derived.Shelf.Abstract
import Derived.StillTailTactics
import Derived.Test.YteiiodlgdbiimaaSe
section
namespace Go.Proofs.Yteiiodlgdbiimaa.F
open Go.RowKit Go.Shelf Go.Proofs.YteiiodlgdbiimaaW.PrintWords Go.Proofs.YteiiodlgdbiimaaW.PrintLast Go.Proofs.YteiiodlgdbiimaaW.PrintMore
set_option linter.unusedVariables false
set_option linter.unusedSimpArgs false
def Nice (g : S68) : Prop := 2 ≤ g.f1 ∧ g.f1 < g.f0 ∧ g.f1 / 2 ≠ g.f0 / 2 ∧ g.f0 < 4294967296
structure ShW (F : Int) (tl : List Int) (gs : List S68) (k : Nat) : Prop where
  len : tl.length = k
  u32 : InU32 tl
  inb : ∀ v : Nat, v < k → rd tl (v : Int) / 2 < F + (gs.length : Int)
  nice : ∀ (j : Nat) (g : S68), gs[j]? = some g → Nice g ∧ g.f0 / 2 < F + (j : Int)
  ap : Apart68 gs
  few : gs.length = 0 ∨ F + (gs.length : Int) ≤ (k : Int)
theorem rd_snoc' {l : List Int} {y : Int} {v : Nat} (h : v < l.length) : rd (l ++ [y]) (v : Int) = rd l (v : Int) := by
  unfold rd
  rw [List.getD_eq_getElem?_getD, List.getD_eq_getElem?_getD, List.getElem?_append_left (by simp; omega)]
theorem rd_last' {l : List Int} {y : Int} : rd (l ++ [y]) (l.length : Int) = y := by
  unfold rd
  simp
section
variable {F : Int} {tl : List Int} {gs : List S68} {k : Nat}
theorem ShW.litb (h : ShW F tl gs k) (hf : 1 ≤ F ∧ F ≤ 40000) {x : Int} (h0 : 0 ≤ x) (h1 : x < 4294967296) : litP tl x / 2 < F + (gs.length : Int) := by
  unfold litP
  split
  · rename_i hlt
    have hr := rd_u32 h.u32 (x / 2)
    obtain ⟨v, hv⟩ : ∃ v : Nat, x / 2 = (v : Int) := ⟨(x / 2).toNat, by omega⟩
    have hlen := h.len
    have hi := h.inb v (by omega)
    rw [and_one h0 h1, hv]
    rw [hv] at hr
    rcases (show x % 2 = 0 ∨ x % 2 = 1 by omega) with e | e
    · rw [e, xor_zero32 hr.1 hr.2]
      exact hi
    · rw [e, xor_one hr.1 hr.2]
      omega
  · omega
theorem ShW.snoc (h : ShW F tl gs k) {y : Int} (hy : 0 ≤ y ∧ y < 4294967296) (hyb : y / 2 < F + (gs.length : Int)) : ShW F (tl ++ [y]) gs (k + 1) := by
  have hlen := h.len
  have hfw := h.few
  refine ⟨by rw [List.length_append, hlen]; rfl, fun x hx => ?_, fun v hv => ?_, h.nice, h.ap, by omega⟩
  · rcases List.mem_append.1 hx with hx | hx
    · exact h.u32 x hx
    · rw [List.mem_singleton.1 hx]
      exact hy
  · by_cases e : v = k
    · subst e
      have e1 : rd (tl ++ [y]) (v : Int) = y := by rw [← hlen]; exact rd_last'
      rw [e1]
      exact hyb
    · rw [rd_snoc' (by omega)]
      exact h.inb v (by omega)
theorem ShW.gate (h : ShW F tl gs k) (hf : 1 ≤ F ∧ F ≤ 40000) (hg : gs.length ≤ 40000) (hk : F ≤ (k : Int)) {a b : Int} (ha : 0 ≤ a ∧ a < 4294967296) (hb : 0 ≤ b ∧ b < 4294967296) (hai : a / 2 < F + (gs.length : Int)) (hbi : b / 2 < F + (gs.length : Int)) :
    ShW F (tl ++ [(gateP F gs a b).1]) (gateP F gs a b).2 (k + 1) := by
  have hHI : (0 ≤ mx a b ∧ mx a b < 4294967296) ∧ mx a b / 2 < F + (gs.length : Int) := by unfold mx; split <;> exact ⟨by omega, by omega⟩
  have hLO : (0 ≤ mn a b ∧ mn a b < 4294967296) ∧ mn a b / 2 < F + (gs.length : Int) := by unfold mn; split <;> exact ⟨by omega, by omega⟩
  have hML : mn a b ≤ mx a b := by unfold mn mx; split <;> split <;> omega
  unfold gateP
  generalize mx a b = hi at hHI hML ⊢
  generalize mn a b = lo at hLO hML ⊢
  have hlen := h.len
  have hfw := h.few
  by_cases c0 : lo = 0
  · rw [if_pos c0]
    exact h.snoc ⟨by dsimp only; omega, by dsimp only; omega⟩ (by dsimp only; omega)
  rw [if_neg c0]
  by_cases c1 : hi = Go.bits .xor .u32 lo 1
  · rw [if_pos c1]
    exact h.snoc ⟨by dsimp only; omega, by dsimp only; omega⟩ (by dsimp only; omega)
  rw [if_neg c1]
  by_cases c2 : lo = 1
  · rw [if_pos c2]
    exact h.snoc hHI.1 hHI.2
  rw [if_neg c2]
  by_cases c3 : hi = lo
  · rw [if_pos c3]
    exact h.snoc hHI.1 hHI.2
  rw [if_neg c3]
  rw [xor_one hLO.1.1 hLO.1.2] at c1
  cases hx : idxG gs hi lo with
  | some j =>
    have hjl := idxG_lt hx
    exact h.snoc ⟨by dsimp only; omega, by dsimp only; omega⟩ (by dsimp only; omega)
  | none =>
    dsimp only
    have hno := idxG_none gs hx
    refine ⟨by simp [hlen], fun x hx => ?_, fun v hv => ?_, fun j g hj => ?_, Apart68.snoc h.ap hno, by simp; omega⟩
    · rcases List.mem_append.1 hx with hx | hx
      · exact h.u32 x hx
      · rw [List.mem_singleton.1 hx]
        omega
    · rw [List.length_append, List.length_singleton]
      by_cases e : v = k
      · subst e
        have e1 : rd (tl ++ [2 * (F + (gs.length : Int))]) (v : Int) = 2 * (F + (gs.length : Int)) := by rw [← hlen]; exact rd_last'
        rw [e1]
        omega
      · rw [rd_snoc' (by omega)]
        have := h.inb v (by omega)
        omega
    · by_cases e : j < gs.length
      · rw [List.getElem?_append_left e] at hj
        exact h.nice j g hj
      · have hjl := (List.getElem?_eq_some_iff.1 hj).1
        rw [List.length_append, List.length_singleton] at hjl
        obtain rfl : j = gs.length := by omega
        rw [List.getElem?_append_right (Nat.le_refl _), Nat.sub_self] at hj
        cases hj
        refine ⟨⟨by dsimp only; omega, by dsimp only; omega, by dsimp only; omega, by dsimp only; omega⟩, by dsimp only; omega⟩
theorem run_shape {l2 : List S68} {is : List Int} (hf : 1 ≤ F ∧ F ≤ 20000) (h2 : In68 l2) (hi : ∀ i : Int, 0 ≤ rd is i ∧ rd is i ≤ 2) : ∀ k : Nat, k ≤ 40000 → ShW F (runW F l2 is k).1 (runW F l2 is k).2 k
  | 0, _ => ⟨rfl, (fun x hx => nomatch hx), (fun v hv => absurd hv (Nat.not_lt_zero v)), (fun j g hj => by cases hj), (fun i j g h hi hj => by cases hi), .inl rfl⟩
  | k + 1, hk => by
    have hS := run_shape hf h2 hi k (by omega)
    have hx := hi (k : Int)
    unfold runW
    generalize runW F l2 is k = s at hS ⊢
    have hfw := hS.few
    unfold stepW
    by_cases h : rd is (k : Int) = 2
    · rw [if_neg (by simpa using h)]
      by_cases hk2 : (k : Int) < F
      · rw [if_pos hk2]
        exact hS.snoc ⟨by omega, by omega⟩ (by omega)
      · rw [if_neg hk2]
        have hu := rd68_ok h2 ((k : Int) - F)
        exact hS.gate ⟨hf.1, by omega⟩ (by omega) (by omega) (litP_u32 hS.u32 hu.1.1 hu.1.2) (litP_u32 hS.u32 hu.2.1 hu.2.2) (hS.litb ⟨hf.1, by omega⟩ hu.1.1 hu.1.2) (hS.litb ⟨hf.1, by omega⟩ hu.2.1 hu.2.2)
    · rw [if_pos h]
      exact hS.snoc ⟨by omega, by omega⟩ (by omega)
end
def latM (tl : List Int) (l1 : List S41) : List S41 := l1.map (fun g => ⟨litP tl g.f0, g.f1⟩)
theorem map_u32 {tl l : List Int} (ht : InU32 tl) (hl : InU32 l) : InU32 (l.map (litP tl)) := fun x hx => by
  obtain ⟨y, hy, rfl⟩ := List.mem_map.1 hx
  have := hl y hy
  exact litP_u32 ht this.1 this.2
theorem lat_in {tl : List Int} {l1 : List S41} (ht : InU32 tl) (h1 : In41 l1) : In41 (latM tl l1) := fun g hg => by
  obtain ⟨y, hy, rfl⟩ := List.mem_map.1 hg
  have := h1 y hy
  exact ⟨litP_u32 ht this.1.1 this.1.2, this.2⟩
theorem with_valid {a0 : Int} {l1 : List S41} {l2 : List S68} {l3 l4 l5 is : List Int} (hv : Valid a0 l1 l2 l3 l4 l5) (h1 : In41 l1) (h2 : In68 l2) (h3 : InU32 l3) (h4 : InU32 l4) (h5 : InU32 l5) (hi : ∀ i : Int, 0 ≤ rd is i ∧ rd is i ≤ 2) (hil : (is.length : Int) = a0 + (l1.length : Int) + (l2.length : Int) + 1) :
    ShW (1 + a0 + (l1.length : Int)) (wasW a0 l1 l2 is).1 (wasW a0 l1 l2 is).2 is.length ∧ (wasW a0 l1 l2 is).2.length ≤ l2.length ∧ In41 (latM (wasW a0 l1 l2 is).1 l1) ∧ In68 (wasW a0 l1 l2 is).2 ∧ InU32 (l3.map (litP (wasW a0 l1 l2 is).1)) ∧ InU32 (l4.map (litP (wasW a0 l1 l2 is).1)) ∧ InU32 (l5.map (litP (wasW a0 l1 l2 is).1)) ∧
    Valid a0 (latM (wasW a0 l1 l2 is).1 l1) (wasW a0 l1 l2 is).2 (l3.map (litP (wasW a0 l1 l2 is).1)) (l4.map (litP (wasW a0 l1 l2 is).1)) (l5.map (litP (wasW a0 l1 l2 is).1)) := by
  have hp := hv.pos
  have hle := hv.le
  have hS : ShW (1 + a0 + (l1.length : Int)) (wasW a0 l1 l2 is).1 (wasW a0 l1 l2 is).2 is.length := run_shape ⟨by omega, by omega⟩ h2 hi is.length (by omega)
  generalize wasW a0 l1 l2 is = s at hS ⊢
  have hfw := hS.few
  have hg : s.2.length ≤ l2.length := by omega
  have ho : ∀ l : List Int, InU32 l → l.length ≤ 1024 → (l.map (litP s.1)).length ≤ 1024 ∧ ∀ x ∈ l.map (litP s.1), wrap64 (x / 2) ≤ a0 + ((latM s.1 l1).length : Int) + (s.2.length : Int) := fun l hl hn => by
    refine ⟨by rw [List.length_map]; exact hn, fun x hx => ?_⟩
    obtain ⟨y, hy, rfl⟩ := List.mem_map.1 hx
    have hu := hl y hy
    have hb := hS.litb ⟨by omega, by omega⟩ hu.1 hu.2
    have hr := litP_u32 hS.u32 hu.1 hu.2
    unfold latM
    rw [wrap64_id (by omega) (by omega), List.length_map]
    omega
  refine ⟨hS, hg, lat_in hS.u32 h1, fun g hgm => ?_, map_u32 hS.u32 h3, map_u32 hS.u32 h4, map_u32 hS.u32 h5, ⟨hp, by unfold latM; rw [List.length_map]; omega, fun k hk => ?_, fun k hk => ?_, fun k hk => ?_, ho l3 h3 hv.outs.1, ho l4 h4 hv.bads.1, ho l5 h5 hv.cons.1⟩⟩
  · obtain ⟨j, hj⟩ := List.getElem?_of_mem hgm
    obtain ⟨⟨n1, n2, n3, n4⟩, n5⟩ := hS.nice j g hj
    exact ⟨⟨by omega, by omega⟩, by omega, by omega⟩
  · have hk' : k < l1.length := by unfold latM at hk; rw [List.length_map] at hk; exact hk
    have hu := h1 _ (List.getElem_mem hk')
    have hb := hS.litb ⟨by omega, by omega⟩ hu.1.1 hu.1.2
    have hr := litP_u32 hS.u32 hu.1.1 hu.1.2
    have e : ((latM s.1 l1)[k]).f0 = litP s.1 l1[k].f0 := by simp only [latM, List.getElem_map]
    have el : (latM s.1 l1).length = l1.length := by unfold latM; rw [List.length_map]
    rw [e, el]
    exact ⟨hr.1, by omega⟩
  · have hk' : k < l1.length := by unfold latM at hk; rw [List.length_map] at hk; exact hk
    have e : ((latM s.1 l1)[k]).f1 = l1[k].f1 := by simp only [latM, List.getElem_map]
    rw [e]
    exact hv.reset k hk'
  · obtain ⟨⟨n1, n2, n3, n4⟩, n5⟩ := hS.nice k s.2[k] (List.getElem?_eq_getElem hk)
    have el : (latM s.1 l1).length = l1.length := by unfold latM; rw [List.length_map]
    rw [el]
    exact ⟨by omega, by omega, by omega⟩
end Go.Proofs.Yteiiodlgdbiimaa.F
end
section
namespace Go.Proofs.Yteiiodlgdbiimaa.F
open Go.RowKit Go.Shelf Go.Proofs.YteiiodlgdbiimaaW.PrintWords Go.Proofs.YteiiodlgdbiimaaW.PrintLast Go.Proofs.YteiiodlgdbiimaaW.PrintMore
set_option linter.unusedVariables false
set_option linter.unusedSimpArgs false
def Tri (x : Int) : Prop := x = 0 ∨ x = 1 ∨ x = 2
def TriL (l : List Int) : Prop := ∀ x ∈ l, Tri x
theorem rd_tri {l : List Int} (h : TriL l) (i : Int) : Tri (rd l i) := by
  unfold rd
  rw [List.getD_eq_getElem?_getD]
  cases hg : l[i.toNat]? with
  | none => exact .inl rfl
  | some v => exact h v (List.mem_of_getElem? hg)
end Go.Proofs.Yteiiodlgdbiimaa.F
end
section
namespace Go.Proofs.Yteiiodlgdbiimaa.F
open Go.RowKit Go.Proofs.YteiiodlgdbiimaaW.PrintWords Go.Proofs.YteiiodlgdbiimaaW.PrintLast Go.Proofs.YteiiodlgdbiimaaW.PrintMore
attribute [local go_sem] max2_int min2_int max_two min_two max_three min_three max_four min_four
set_option linter.unusedVariables false
set_option linter.unusedSimpArgs false
end Go.Proofs.Yteiiodlgdbiimaa.F
end
section
namespace Go.Proofs.Yteiiodlgdbiimaa.F
open Go.RowKit Go.Proofs.YteiiodlgdbiimaaW.PrintWords Go.Proofs.YteiiodlgdbiimaaW.PrintLast Go.Proofs.YteiiodlgdbiimaaW.PrintMore
attribute [local go_sem] max2_int min2_int max_two min_two max_three min_three max_four min_four
set_option linter.unusedVariables false
set_option linter.unusedSimpArgs false
end Go.Proofs.Yteiiodlgdbiimaa.F
end
section
namespace Go.Proofs.Yteiiodlgdbiimaa.F
open Go.RowKit Go.Proofs.YteiiodlgdbiimaaW.PrintWords Go.Proofs.YteiiodlgdbiimaaW.PrintLast Go.Proofs.YteiiodlgdbiimaaW.PrintMore
attribute [local go_sem] max2_int min2_int max_two min_two max_three min_three max_four min_four
set_option linter.unusedVariables false
set_option linter.unusedSimpArgs false
end Go.Proofs.Yteiiodlgdbiimaa.F
end
section
namespace Go.Proofs.Yteiiodlgdbiimaa.F
open Go.RowKit Go.Proofs.YteiiodlgdbiimaaW.PrintWords Go.Proofs.YteiiodlgdbiimaaW.PrintLast Go.Proofs.YteiiodlgdbiimaaW.PrintMore
attribute [local go_sem] max2_int min2_int max_two min_two max_three min_three max_four min_four
set_option linter.unusedVariables false
set_option linter.unusedSimpArgs false
end Go.Proofs.Yteiiodlgdbiimaa.F
end
section
namespace Go.Proofs.Yteiiodlgdbiimaa.F
open Go.RowKit Go.Proofs.YteiiodlgdbiimaaW.PrintWords Go.Proofs.YteiiodlgdbiimaaW.PrintLast Go.Proofs.YteiiodlgdbiimaaW.PrintMore
attribute [local go_sem] max2_int min2_int max_two min_two max_three min_three max_four min_four
set_option linter.unusedVariables false
set_option linter.unusedSimpArgs false
end Go.Proofs.Yteiiodlgdbiimaa.F
end
section
namespace Go.Proofs.Yteiiodlgdbiimaa.F
open Go.RowKit Go.Shelf Go.Proofs.YteiiodlgdbiimaaW.PrintWords Go.Proofs.YteiiodlgdbiimaaW.PrintLast Go.Proofs.YteiiodlgdbiimaaW.PrintMore
set_option linter.unusedVariables false
set_option linter.unusedSimpArgs false
section
variable {a0 : Int} {l1 : List S41} {l2 : List S68} {l3 l4 l5 state inputs : List Int}
def okF (a0 : Int) (l1 : List S41) (l2 : List S68) (l3 l4 l5 state inputs : List Int) : Prop :=
  mayB a0 l1 l2 l3 l4 l5 = true ∧ (state.all (fun x => decide (x ≤ 2)) = true ∧ state.length = l1.length) ∧ (inputs.all (fun x => decide (x ≤ 2)) = true ∧ (inputs.length : Int) = a0)
instance : Decidable (okF a0 l1 l2 l3 l4 l5 state inputs) := by unfold okF; infer_instance
end
end Go.Proofs.Yteiiodlgdbiimaa.F
end
section
namespace Go.Proofs.Yteiiodlgdbiimaa.F
open Go.RowKit Go.Shelf Go.Proofs.YteiiodlgdbiimaaW.PrintWords Go.Proofs.YteiiodlgdbiimaaW.PrintLast Go.Proofs.YteiiodlgdbiimaaW.PrintMore
set_option linter.unusedVariables false
set_option linter.unusedSimpArgs false
theorem rd_map2 {α : Type} {f : α → Int} {l : List α} {i : Nat} (h : i < l.length) : rd (l.map f) (i : Int) = f l[i] := by
  unfold rd
  rw [List.getD_eq_getElem?_getD, Int.toNat_natCast, List.getElem?_map, List.getElem?_eq_getElem h]
  rfl
section
variable {a0 : Int} {l1 : List S41} {l2 : List S68} {l3 l4 l5 is : List Int}
def Blank (is : List Int) : Prop := rd is 0 = 0 ∧ ∀ v : Nat, 0 < v → v < is.length → rd is (v : Int) = 2
end
section
variable {a0 : Int} {l1 : List S41} {l2 : List S68} {l3 l4 l5 : List Int}
end
end Go.Proofs.Yteiiodlgdbiimaa.F
end
section
namespace Go.Proofs.Yteiiodlgdbiimaa.F
open Go.RowKit Go.Proofs.YteiiodlgdbiimaaW.PrintWords Go.Proofs.YteiiodlgdbiimaaW.PrintLast Go.Proofs.YteiiodlgdbiimaaW.PrintMore
attribute [local go_sem] max2_int min2_int max_two min_two max_three min_three max_four min_four
set_option linter.unusedVariables false
set_option linter.unusedSimpArgs false
def bits_Mul64.f (a0 : Int) (a1 : Int) : Option (Int × Int) := some (IntKind.u64.wrap ((IntKind.u64.wrap ((IntKind.u64.wrap ((a0 / 4294967296) * (a1 / 4294967296))) + ((IntKind.u64.wrap ((IntKind.u64.wrap ((a0 / 4294967296) * (Go.bits .and .u64 a1 4294967295))) + ((IntKind.u64.wrap ((Go.bits .and .u64 a0 4294967295) * (Go.bits .and .u64 a1 4294967295))) / 4294967296))) / 4294967296))) + ((IntKind.u64.wrap ((Go.bits .and .u64 (IntKind.u64.wrap ((IntKind.u64.wrap ((a0 / 4294967296) * (Go.bits .and .u64 a1 4294967295))) + ((IntKind.u64.wrap ((Go.bits .and .u64 a0 4294967295) * (Go.bits .and .u64 a1 4294967295))) / 4294967296))) 4294967295) + (IntKind.u64.wrap ((Go.bits .and .u64 a0 4294967295) * (a1 / 4294967296))))) / 4294967296)), IntKind.u64.wrap (a0 * a1))
set_option maxHeartbeats 8000000 in
set_option maxRecDepth 100000 in
theorem bits_Mul64.calls (a0 : Int) (a1 : Int) (r1 : Int) (r2 : Int) (w : World) (h : bits_Mul64.f a0 a1 = some (r1, r2)) :
    Calls Try.prog 179 #[.int .u64 a0, .int .u64 a1] w fun e w' => e = .returned (.tuple #[.int .u64 r1, .int .u64 r2]) ∧ Drawn0 w w' := by
  have H : (some (IntKind.u64.wrap ((IntKind.u64.wrap ((IntKind.u64.wrap ((a0 / 4294967296) * (a1 / 4294967296))) + ((IntKind.u64.wrap ((IntKind.u64.wrap ((a0 / 4294967296) * (Go.bits .and .u64 a1 4294967295))) + ((IntKind.u64.wrap ((Go.bits .and .u64 a0 4294967295) * (Go.bits .and .u64 a1 4294967295))) / 4294967296))) / 4294967296))) + ((IntKind.u64.wrap ((Go.bits .and .u64 (IntKind.u64.wrap ((IntKind.u64.wrap ((a0 / 4294967296) * (Go.bits .and .u64 a1 4294967295))) + ((IntKind.u64.wrap ((Go.bits .and .u64 a0 4294967295) * (Go.bits .and .u64 a1 4294967295))) / 4294967296))) 4294967295) + (IntKind.u64.wrap ((Go.bits .and .u64 a0 4294967295) * (a1 / 4294967296))))) / 4294967296)), IntKind.u64.wrap (a0 * a1))) = some (r1, r2) := h
  clear h
  simp only [Option.some.injEq, Prod.mk.injEq] at H
  obtain ⟨rfl, rfl⟩ := H
  go_enter Try.func179, Try.ntmps179
  go_wp2
  go_ret2
  exact ⟨by first | rfl | (simp; done) | (simp [*]; done), by repeat (first | exact Drawn0.refl _ | apply Drawn0.step)⟩
end Go.Proofs.Yteiiodlgdbiimaa.F
end
section
namespace Go.Proofs.Yteiiodlgdbiimaa.F
open Go.RowKit Go.Proofs.YteiiodlgdbiimaaW.PrintWords Go.Proofs.YteiiodlgdbiimaaW.PrintLast Go.Proofs.YteiiodlgdbiimaaW.PrintMore
attribute [local go_sem] max2_int min2_int max_two min_two max_three min_three max_four min_four
set_option linter.unusedVariables false
set_option linter.unusedSimpArgs false
def bits_Mul.f (a0 : Int) (a1 : Int) : Option (Int × Int) := (bits_Mul64.f a0 a1).bind fun bt307 => (some (bt307.1, bt307.2))
set_option maxHeartbeats 8000000 in
set_option maxRecDepth 100000 in
theorem bits_Mul.calls (a0 : Int) (a1 : Int) (r1 : Int) (r2 : Int) (w : World) (h : bits_Mul.f a0 a1 = some (r1, r2)) :
    Calls Try.prog 146 #[.int .u64 a0, .int .u64 a1] w fun e w' => e = .returned (.tuple #[.int .u64 r1, .int .u64 r2]) ∧ Drawn0 w w' := by
  have H : ((bits_Mul64.f a0 a1).bind fun bt307 => (some (bt307.1, bt307.2))) = some (r1, r2) := h
  clear h
  replace H := Option.bind_eq_some_iff.mp H
  obtain ⟨⟨t307, t308⟩, A30, H⟩ := H
  replace H : (some (t307, t308)) = some (r1, r2) := H
  have A3 := Aside0.mk A30
  clear A30
  simp only [Option.some.injEq, Prod.mk.injEq] at H
  obtain ⟨rfl, rfl⟩ := H
  go_enter Try.func146, Try.ntmps146
  go_wp2_with (first | ((with_reducible refine gate_callee (f := 179) rfl ?_); refine goesL_ (some 25) rfl rfl Try.func179 (by kernel_rfl) rfl #[.int .u64 a0, .int .u64 a1] rfl (by (try simp only [List.map_toArray, List.map_cons, List.map_nil]); first | done | rfl | (simp only [List.length_drop, List.length_take]; rfl)) ?_; (with_reducible refine (bits_Mul64.calls a0 a1 t307 t308 _ A3.out).mono ?_); rintro e w' ⟨rfl, ⟨nd, rfl⟩⟩; refine ⟨_, rfl, ?_⟩))
  go_ret2
  exact ⟨by first | rfl | (simp; done) | (simp [*]; done), by repeat (first | exact Drawn0.refl _ | apply Drawn0.step)⟩
end Go.Proofs.Yteiiodlgdbiimaa.F
end
section
namespace Go.Proofs.Yteiiodlgdbiimaa.F
open Go.RowKit Go.Shelf Go.Proofs.YteiiodlgdbiimaaW.PrintWords Go.Proofs.YteiiodlgdbiimaaW.PrintLast Go.Proofs.YteiiodlgdbiimaaW.PrintMore
set_option linter.unusedVariables false
set_option linter.unusedSimpArgs false
theorem u64_id {x : Int} (h0 : 0 ≤ x) (h1 : x < 18446744073709551616) : IntKind.u64.wrap x = x := by
  simp [IntKind.wrap, IntKind.bits, IntKind.signed]
  omega
theorem mul_one_u64 (n : Nat) (h : n ≤ 1000000) : bits_Mul.f 1 (n : Int) = some (0, (n : Int)) := by
  have e1 : Go.bits .and .u64 (n : Int) 4294967295 = (n : Int) := by
    have := u64_and_nat n 4294967295 (by omega) (by omega)
    rw [show ((4294967295 : Nat) : Int) = 4294967295 from rfl] at this
    rw [this, show (4294967295 : Nat) = 2 ^ 32 - 1 from rfl, Nat.and_two_pow_sub_one_eq_mod, Nat.mod_eq_of_lt (by omega)]
  have e2 : Go.bits .and .u64 1 4294967295 = 1 := by decide
  have e3 : Go.bits .and .u64 0 4294967295 = 0 := by decide
  have e4 : ((1 : Int) / 4294967296) = 0 := by decide
  have e5 : ((n : Int) / 4294967296) = 0 := by omega
  simp only [bits_Mul.f, bits_Mul64.f, Option.bind_some]
  rw [e1, e2, e4, e5]
  simp only [Int.one_mul, Int.zero_mul, Int.mul_zero]
  have e6 : IntKind.u64.wrap 0 = 0 := by decide
  simp only [u64_id (x := (n : Int)) (by omega) (by omega), e5, e6, Int.add_zero, e3, e4]
  rfl
def slices_Repeat_uint8_uint8.f (l0 : List Int) (a1 : Int) : Option (List Int) :=
  match l0 with
  | [x] => if 0 ≤ a1 ∧ a1 ≤ 1000000 then some (List.replicate a1.toNat x) else none
  | _ => none
def someX (x : Value) (j n : Nat) : List Value := List.replicate j x ++ List.replicate (n - j) (.int .u8 0)
theorem splice_someX (x : Value) (j m n : Nat) (h : j + m ≤ n) : splice (someX x j n) j (List.replicate m x) = someX x (j + m) n := by
  unfold splice someX
  have e1 : n - j = m + (n - (j + m)) := by omega
  generalize n - (j + m) = d at e1 ⊢
  rw [e1, List.length_replicate, List.take_append_of_le_length (by simp), List.take_of_length_le (by simp), List.drop_append]
  simp [List.drop_replicate, ← List.append_assoc, List.replicate_append_replicate]
theorem info5x : (Try.prog.info? 5).map (·.size) = some 1 := by kernel_rfl
theorem made_someX (x : Value) (n : Nat) : madeCells #[.int .u8 0] n = (someX x 0 n).toArray := by
  apply Array.ext'
  apply List.ext_getElem
  · simp [someX, size_madeCells]
  · intro i h1 h2
    simp [someX, madeCells, Nat.mod_one]
theorem copy1 {W : World} {ad : Addr} {x : Value} {n j : Nat} {v : Value} (h : W.cell? ad = some x) (hj : (List.replicate (Nat.min 1 n) x)[j]? = some v) : W.cell? (ad.add j) = some v := by
  rw [List.getElem?_replicate] at hj
  split at hj
  · rename_i hlt
    have : Nat.min 1 n ≤ 1 := Nat.min_le_left 1 n
    obtain rfl : j = 0 := by omega
    rw [← Option.some.inj hj]
    simpa [Addr.add] using h
  · cases hj
theorem one_rep (k : Nat) (x : Int) : ∀ v ∈ List.replicate k (Value.int .u8 x), v.oneCell' = true := fun v hv => by
  rw [List.eq_of_mem_replicate hv]
  rfl
set_option maxHeartbeats 4000000 in
set_option maxRecDepth 100000 in
theorem slices_Repeat_uint8_uint8.calls (A0 : Option Addr) (c0 : Nat) (l0 : List Int) (a1 : Int) (r : List Int) (w : World) (hr0 : Kd.C (Kd.int .u8) w A0 l0.length l0) (hc0 : l0.length ≤ c0)
  (h : slices_Repeat_uint8_uint8.f l0 a1 = some r) :
  Calls Try.prog 100 #[.slice A0 l0.length c0, .int .i64 a1] w fun e w' => ∃ v0_ : Value, e = .returned (v0_) ∧ Kd.R (Kd.int .u8) 5 w' w.heap.size (fun _ => True) v0_ r ∧ Below w.heap.size w w' := by
 unfold slices_Repeat_uint8_uint8.f at h
 split at h
 case h_2 => cases h
 case h_1 x =>
 split at h
 case isFalse => cases h
 case isTrue hn =>
 obtain ⟨n, rfl⟩ := Int.eq_ofNat_of_zero_le hn.1
 have hn6 : n ≤ 1000000 := by omega
 obtain rfl := Option.some.inj h
 clear h hn
 obtain ⟨ad, e, hx0⟩ := Kd.at_int hr0 0 (by omega) (by simp)
 cases e
 have hx : w.cell? ad = some (.int .u8 x) := by simpa [rd, Addr.add] using hx0
 clear hx0
 have HR := Aside0.mk hr0
 clear hr0
 have HM := Aside0.mk (fun W => bits_Mul.calls 1 (n : Int) 0 (n : Int) W (mul_one_u64 n hn6))
 have hmk : ∀ W : World, (Instr.makeSlice 28 (.int .i64 (n : Int)) (.int .i64 (n : Int))).run Try.prog W = .ok (.slice (some ⟨W.heap.size, 0, none⟩) n n) (W.alloc (.cells (madeCells #[.int .u8 0] n) 5)) := fun W =>
  run_make_row' (P := Try.prog) 28 5 (.int .u8 0) 1 Try.underlying28 info5 rfl .i64 .i64 n (by omega) (by omega) W
 rw [Int.toNat_natCast]
 go_enter Try.func100, Try.ntmps100
 go_wp2_with (first | (go_at_call 146; refine (HM.out _).mono ?_; rintro e w1 ⟨rfl, ⟨nd, rfl⟩⟩) | ((with_reducible refine gate_dst (N := 30) rfl ?_); refine slice_event rfl (N := 30) rfl (n := n) (c := n) (cs := madeCells #[.int .u8 0] n) (t := 5) ?hr ?_; (case hr => first | (go_simp; done) | (go_simp; rfl)); intro g hg_ w2 BK hb2; have GE := Aside0.mk (show w.heap.size ≤ g from by rw [hg_]; exact (below_drewN' w nd).size); clear hg_; have HB := Aside0.mk (below_step (below_drewN' w nd) hb2); have hx2 := pw_cell_below hb2 (show (w.drewN nd).cell? ad = _ from hx); clear hb2; clear hx; have HBK := Aside0.mk (show w2.heap[g]? = some (.cells (someX (.int .u8 x) 0 n).toArray 5 (0, 0)) from by rw [← made_someX (.int .u8 x) n]; exact BK); clear BK) | ((with_reducible refine gate_builtin (b := .copy) (xs := #[.tmp 31, .tmp 32]) rfl ?_); refine wpList_copy_splice (B := w.heap.size) (w0 := w) rfl (.tmp 31) (.tmp 32) 28 28 ?h0 5 Try.underlying28 info5x (some ⟨g, 0, none⟩) (some ad) n n 1 c0 ?h1 ?h2 g 0 (someX (.int .u8 x) 0 n) 5 HBK.out (List.replicate (Nat.min 1 n) (.int .u8 x)) ?h4 ?h5 ?h6 (one_rep _ _) HB.out GE.out ?_; (case h0 => rfl); (case h1 => rfl); (case h2 => rfl); (case h4 => simp); (case h5 => exact fun _ => ⟨rfl, ad, rfl, fun j v hj => copy1 hx2 hj⟩); (case h6 => have : Nat.min 1 n ≤ n := Nat.min_le_right 1 n; simp [someX]; omega); intro w3 HBK3 HB3; have HBK3 := Aside0.mk HBK3.out; have HB3 := Aside0.mk HB3; rw [splice_someX _ _ _ _ (by have : Nat.min 1 n ≤ n := Nat.min_le_right 1 n; omega)] at HBK3; clear HBK HB))
 go_loopg [8] n (fun gg v8 wr => ∃ j : Nat, n - j ≤ gg ∧ v8 = .int .i64 j ∧ Aside0 (j ≤ n ∧ (1 ≤ j ∨ n = 0)) ∧ Aside0 (wr.heap[g]? = some (.cells (someX (.int .u8 x) j n).toArray 5 (0, 0))) ∧ Aside0 (Below w.heap.size w wr))
 case atStart => exact ⟨Nat.min 1 n, by omega, rfl, ⟨Nat.min_le_right 1 n, by show 1 ≤ Nat.min 1 n ∨ n = 0; rcases Nat.eq_zero_or_pos n with h | h; exact .inr h; exact .inl (Nat.le_min.2 ⟨Nat.le_refl _, h⟩)⟩, ⟨by rw [Nat.zero_add] at HBK3; exact HBK3.out⟩, HB3⟩
 case round =>
  clear HBK3 HB3
  obtain ⟨j, hg, rfl, HJ, HK, HB⟩ := hrel
  have hj1 := HJ.out.1
  by_cases hlt : j < n
  ·
   have hltz : (j : Int) < (n : Int) := by omega
   go_wp2
   obtain ⟨m, hm1, hm2, hm⟩ : ∃ m : Nat, m = Nat.min j (n - j) ∧ j + m ≤ n ∧ (1 ≤ m) := by
    refine ⟨Nat.min j (n - j), rfl, ?_, ?_⟩
    ·
     have : Nat.min j (n - j) ≤ n - j := Nat.min_le_right _ _
     omega
    · exact Nat.le_min.2 ⟨by have := HJ.out.2; omega, by omega⟩
   have HMM := Aside0.mk hm1
   clear hm1
   have hnj : ¬ n = j := by omega
   have HSRC := Aside0.mk (show ∀ (q : Nat) v, (List.replicate m (Value.int .u8 x))[q]? = some v → wr.cell? ((⟨g, 0, none⟩ : Addr).add q) = some v from fun q v hq => by
    rw [List.getElem?_replicate] at hq
    split at hq
    ·
     rename_i hqm
     have hmj : m ≤ j := by rw [HMM.out]; exact Nat.min_le_left _ _
     rw [← Option.some.inj hq, add_plain]
     refine (blk_cell HK.out q).trans ?_
     simp only [someX, List.getElem?_toArray]
     rw [List.getElem?_append_left (by simp; omega), List.getElem?_replicate, if_pos (by omega)]
    · cases hq)
   have HLEN := Aside0.mk (show (List.replicate m (Value.int .u8 x)).length = Nat.min j (n - j) from by rw [List.length_replicate]; exact HMM.out)
   go_region_law ((with_reducible refine step_copy_splice (B := w.heap.size) (w0 := w) ?hgd (.tmp 41) (.tmp 44) 28 28 ?h0 5 Try.underlying28 info5x (some ⟨g, j, none⟩) (some ⟨g, 0, none⟩) (n - j) (n - j) j n ?h1 ?h2 g j (someX (.int .u8 x) j n) 5 ?hK (List.replicate m (.int .u8 x)) HLEN.out ?h5 ?h6 (one_rep _ _) ?hB GE.out ?_); (case hgd => rfl); (case h0 => rfl); (case h1 => simp [Act.eval, Act.put]); (case h2 => simp [Act.eval, Act.put]); (case hK => exact HK.out); (case hB => exact below_drew HB.out); (case h5 => exact fun _ => ⟨rfl, _, rfl, HSRC.out⟩); (case h6 => simp [someX]; omega); intro w3 HBK3 HB3; have HBK3 := Aside0.mk HBK3.out; have HB3 := Aside0.mk HB3)
   have HBK4 := Aside0.mk (show w3.heap[g]? = some (.cells (someX (.int .u8 x) (j + m) n).toArray 5 (0, 0)) from by rw [← splice_someX _ _ _ _ hm2]; exact HBK3.out)
   clear HBK3 HSRC HLEN
   go_wp2
   go_roundg (n - (j + m))
   case measure => omega
   case rel => exact ⟨j + m, by omega, by simp only [Value.int.injEq, true_and, Int.natCast_add]; exact IntWalk.i64_in _ (by omega), ⟨hm2, .inl (by omega)⟩, HBK4, HB3⟩
  ·
   have hltz : ¬ (j : Int) < (n : Int) := by omega
   have hjn : j = n := by omega
   subst hjn
   go_wp2
   go_ret
   refine ⟨_, rfl, ?_, HB.out⟩
   refine Kd.R_of_own (enc := Value.int .u8) (h1 := fun _ => rfl) ?_ (fun _ _ => trivial)
   rw [List.length_replicate]
   exact ⟨by simp [encs], .inr ⟨g, j, (someX (.int .u8 x) j j).toArray, rfl, GE.out, HK.out, Nat.le_refl _, by simp only [maxLen]; omega, by simp [someX], by simp [someX, encs]⟩⟩
end Go.Proofs.Yteiiodlgdbiimaa.F
end
section
namespace Go.Proofs.Yteiiodlgdbiimaa.F
open Go.RowKit Go.Proofs.YteiiodlgdbiimaaW.PrintWords Go.Proofs.YteiiodlgdbiimaaW.PrintLast Go.Proofs.YteiiodlgdbiimaaW.PrintMore
attribute [local go_sem] max2_int min2_int max_two min_two max_three min_three max_four min_four
set_option linter.unusedVariables false
set_option linter.unusedSimpArgs false
def slices_Max_uint8_uint8.l0 : Nat → List Int → Int → Int → Option (Int)
  | 0, _, _, _ => none
  | k + 1, x0, x3, x4 => if x4 < (x0.length : Int) then (if 0 ≤ x4 then (slices_Max_uint8_uint8.l0 k x0 (mx x3 (rd x0 x4)) (wrap64 (x4 + 1))) else (none)) else (some x3)
def slices_Max_uint8_uint8.f (k : Nat) (l0 : List Int) : Option (Int) := if (l0.length : Int) < 1 then (none) else (if 0 < (l0.length : Int) then (slices_Max_uint8_uint8.l0 k l0 (rd l0 0) 1) else (none))
set_option maxHeartbeats 8000000 in
set_option maxRecDepth 100000 in
theorem slices_Max_uint8_uint8.calls (k : Nat) (A0 : Option Addr) (c0 : Nat) (l0 : List Int) (r : Int) (w : World) (hr0 : Kd.C (Kd.int .u8) w A0 l0.length l0) (hc0 : l0.length ≤ c0) (h : slices_Max_uint8_uint8.f k l0 = some r) :
    Calls Try.prog 102 #[.slice A0 l0.length c0] w fun e w' => e = .returned (.int .u8 r) ∧ Below w.heap.size w w' := by
  have HR0 := Aside0.mk hr0
  have HC0 := Aside0.mk hc0
  clear hr0 hc0
  have HB := Aside0.mk (Below.refl w.heap.size w)
  have H : (if (l0.length : Int) < 1 then (none) else (if 0 < (l0.length : Int) then (slices_Max_uint8_uint8.l0 k l0 (rd l0 0) 1) else (none))) = some r := h
  clear h
  by_cases c2 : (l0.length : Int) < 1
  · rw [if_pos c2] at H
    exact absurd H (by simp)
  · rw [if_neg c2] at H
    have c2b0 : decide ((l0.length : Int) < 1) = false := decide_eq_false c2
    have c2b1 : decide (l0.length < 1) = false := decide_eq_false (by omega)
    clear c2
    by_cases c3 : 0 < (l0.length : Int)
    · rw [if_pos c3] at H
      have c3b0 : decide (0 < (l0.length : Int)) = true := decide_eq_true c3
      have c3b1 : decide (0 < l0.length) = true := decide_eq_true (by omega)
      clear c3
      have H' := Aside0.mk H
      clear H
      have p305 : 0 ≤ (0 : Int) := (by omega)
      have q305 : 0 < (l0.length : Int) := of_decide_eq_true (by first | (with_reducible assumption) | assumption)
      obtain ⟨ad305, e305, hx305_0⟩ := Kd.at_int HR0.out 0 p305 q305
      cases e305
      have qi305 : (0 < l0.length) = True := eq_true (by omega)
      (try rw [show ((0 : Int)).toNat = 0 from rfl] at hx305_0)
      (try rw [Addr.add_zero'] at hx305_0)
      replace p305 := eq_true p305
      replace q305 := eq_true q305
      go_enter Try.func102, Try.ntmps102
      go_wp2
      go_loopg [3, 4] k (fun kq v3 v4 w' => ∃ (x3_1 : Int) (x4_1 : Int), v3 = .int .u8 x3_1 ∧ v4 = .int .i64 x4_1 ∧ Aside0 (slices_Max_uint8_uint8.l0 kq l0 x3_1 x4_1 = some r) ∧ Aside0 (kq ≤ k) ∧ Aside0 (Below w.heap.size w w'))
      case atStart => exact ⟨(rd l0 0), (1), (by first | rfl | (simp; done) | (simp [*]; done)), (by first | rfl | (simp; done) | (simp [*]; done)), H', ⟨Nat.le_refl _⟩, ⟨by repeat (first | (with_reducible first | exact HB.out | apply below_alloc | apply pw_below_drewN | apply below_drew1) | exact HB.out)⟩⟩
      case round =>
        clear H'
        try clear c1
        try clear c2
        try clear c2b0
        try clear c2b1
        try clear p2
        try clear c3
        try clear c3b0
        try clear c3b1
        try clear p3
        try clear q3
        try clear hx3
        try clear qi3
        try clear hx305_0
        try clear p305
        try clear q305
        obtain ⟨x3_1, x4_1, rfl, rfl, HA, HK1, HB⟩ := hrel
        cases gk with
        | zero => exact absurd HA.out (by simp [slices_Max_uint8_uint8.l0])
        | succ k1 =>
          have H := HA.out
          clear HA
          simp only [slices_Max_uint8_uint8.l0] at H
          by_cases c4 : x4_1 < (l0.length : Int)
          · rw [if_pos c4] at H
            have c4b0 : decide (x4_1 < (l0.length : Int)) = true := decide_eq_true c4
            clear c4
            by_cases c5 : 0 ≤ x4_1
            · rw [if_pos c5] at H
              have c5b0 : decide (0 ≤ x4_1) = true := decide_eq_true c5
              clear c5
              obtain ⟨ji6, hji6⟩ : ∃ j_ : Int, (mx x3_1 (rd l0 x4_1)) = j_ := ⟨_, rfl⟩
              replace H : (slices_Max_uint8_uint8.l0 k1 l0 ji6 (wrap64 (x4_1 + 1))) = some r := by first | (rw [hji6] at H; exact H) | (simp only [hji6] at H ⊢; exact H)
              have hji6_ : (if x3_1 < (rd l0 x4_1) then (rd l0 x4_1) else x3_1) = ji6 := hji6
              have H' := Aside0.mk H
              clear H
              have p306 : 0 ≤ (x4_1 : Int) := of_decide_eq_true (by first | (with_reducible assumption) | assumption)
              have q306 : x4_1 < (l0.length : Int) := of_decide_eq_true (by first | (with_reducible assumption) | assumption)
              obtain ⟨ad306, e306, hx306_0⟩ := Kd.at_int HR0.out x4_1 p306 q306
              obtain rfl : ad305 = ad306 := (by injection e306)
              replace hx306_0 := (HB.out.cell (World.block_lt_of_cell? w _ hx306_0)).trans hx306_0
              replace p306 := eq_true p306
              replace q306 := eq_true q306
              go_wp2
              go_roundg k1
              case measure => have := HK1.out; omega
              case rel => exact ⟨(ji6), (wrap64 (x4_1 + 1)), (by first | rfl | (simp; done) | (simp only [← hji6] <;> (first | rfl | simp)) | (simp [*]; done)), (by first | rfl | (simp; done) | (simp [*]; done)), H', ⟨by have := HK1.out; omega⟩, ⟨by repeat (first | (with_reducible first | exact HB.out | apply below_alloc | apply pw_below_drewN | apply below_drew1) | exact HB.out)⟩⟩
            · rw [if_neg c5] at H
              exact absurd H (by simp)
          · rw [if_neg c4] at H
            have c4b0 : decide (x4_1 < (l0.length : Int)) = false := decide_eq_false c4
            clear c4
            obtain rfl := Option.some.inj H
            go_wp2
            go_ret
            exact ⟨by first | rfl | (simp [errW_none, errW_some] <;> rfl) | (simp [*, errW_none, errW_some] <;> rfl), by repeat (first | (with_reducible first | exact HB.out | apply below_alloc | apply pw_below_drewN | apply below_drew1) | exact HB.out)⟩
    · rw [if_neg c3] at H
      exact absurd H (by simp)
end Go.Proofs.Yteiiodlgdbiimaa.F
end
section
namespace Go.Proofs.Yteiiodlgdbiimaa.F
open Go.RowKit Go.Shelf Go.Proofs.YteiiodlgdbiimaaW.PrintWords Go.Proofs.YteiiodlgdbiimaaW.PrintLast Go.Proofs.YteiiodlgdbiimaaW.PrintMore
set_option linter.unusedVariables false
set_option linter.unusedSimpArgs false
theorem blk_set6 {w : World} {g t : Nat} {p0 p1 p2 p3 p4 p5 : Value} (h : w.heap[g]? = some (.cells #[p0, p1, p2, p3, p4, p5] t (0, 0))) (x0 x1 x2 x3 x4 x5 : Value) : ((((((w.setCell ⟨g, 0, none⟩ x0).setCell ⟨g, 1, none⟩ x1).setCell ⟨g, 2, none⟩ x2).setCell ⟨g, 3, none⟩ x3).setCell ⟨g, 4, none⟩ x4).setCell ⟨g, 5, none⟩ x5).heap[g]? = some (.cells #[x0, x1, x2, x3, x4, x5] t (0, 0)) := by
  simpa using blk_set (blk_set (blk_set (blk_set (blk_set (blk_set h 0 x0) 1 x1) 2 x2) 3 x3) 4 x4) 5 x5
theorem blk_far6 {w : World} {g g' t : Nat} {cs : Array Value} (h : w.heap[g']? = some (.cells cs t (0, 0))) (hne : g' ≠ g) (x0 x1 x2 x3 x4 x5 : Value) : ((((((w.setCell ⟨g, 0, none⟩ x0).setCell ⟨g, 1, none⟩ x1).setCell ⟨g, 2, none⟩ x2).setCell ⟨g, 3, none⟩ x3).setCell ⟨g, 4, none⟩ x4).setCell ⟨g, 5, none⟩ x5).heap[g']? = some (.cells cs t (0, 0)) :=
  blk_far (blk_far (blk_far (blk_far (blk_far (blk_far h (p := ⟨g, 0, none⟩) hne x0) (p := ⟨g, 1, none⟩) hne x1) (p := ⟨g, 2, none⟩) hne x2) (p := ⟨g, 3, none⟩) hne x3) (p := ⟨g, 4, none⟩) hne x4) (p := ⟨g, 5, none⟩) hne x5
theorem below_set6 {B : Nat} {w0 w : World} {g : Nat} (h : Below B w0 w) (hg : B ≤ g) (x0 x1 x2 x3 x4 x5 : Value) : Below B w0 ((((((w.setCell ⟨g, 0, none⟩ x0).setCell ⟨g, 1, none⟩ x1).setCell ⟨g, 2, none⟩ x2).setCell ⟨g, 3, none⟩ x3).setCell ⟨g, 4, none⟩ x4).setCell ⟨g, 5, none⟩ x5) :=
  (((((h.setCell (p := ⟨g, 0, none⟩) hg x0).setCell (p := ⟨g, 1, none⟩) hg x1).setCell (p := ⟨g, 2, none⟩) hg x2).setCell (p := ⟨g, 3, none⟩) hg x3).setCell (p := ⟨g, 4, none⟩) hg x4).setCell (p := ⟨g, 5, none⟩) hg x5
theorem add_zero_addr (a : Addr) : a.add 0 = a := by
  cases a
  simp [Addr.add]
theorem results43 (tmps : Array Value) (w : World) (g4 g5 : Nat) (cs : Array Value) (v : Value) (h4 : tmps.getD 4 undef = .pointer (some ⟨g4, 0, none⟩)) (k4 : w.heap[g4]? = some (.cells cs 26 (0, 0))) (hs : cs.size = 6) (h5 : tmps.getD 5 undef = .pointer (some ⟨g5, 0, none⟩)) (k5 : w.heap[g5]? = some (.cells #[v] 24 (0, 0))) :
    (results Try.f43 tmps).run Try.prog w = .ok (.tuple #[.agg cs, v, tmps.getD 6 undef]) w := by
  have h4' : tmps[4]?.getD undef = .pointer (some ⟨g4, 0, none⟩) := by simpa using h4
  have h5' : tmps[5]?.getD undef = .pointer (some ⟨g5, 0, none⟩) := by simpa using h5
  have e1 := run_loadVar_row (P := Try.prog) w g4 26 26 cs (0, 0) _ k4 Try.underlying26 rfl (by rw [hs]; kernel_rfl)
  have c5 : w.cell? ⟨g5, 0, none⟩ = some v := (blk_cell k5 0).trans rfl
  have e2 : (loadVar 24 ⟨g5, 0, none⟩).run Try.prog w = .ok v w := by simp [go_sem, c5]
  simp [results, show Try.f43.results = #[.cell 4 26, .cell 5 24, .tmp 6] from rfl, h4', h5', asAddr, e1, e2]
theorem max_is (is : List Int) (h1 : 1 ≤ is.length) (h2 : is.length ≤ 40000) : ∃ m, Ev (fun k => slices_Max_uint8_uint8.f k is) m ∧ (2 < m ↔ ∃ x ∈ is, 2 < x) := by
  have key : ∀ (d i : Nat) (m0 : Int), is.length - i = d → i ≤ is.length → ∃ m, Ev (fun k => slices_Max_uint8_uint8.l0 k is m0 (i : Int)) m ∧ (2 < m ↔ 2 < m0 ∨ ∃ j : Nat, i ≤ j ∧ ∃ h : j < is.length, 2 < is[j]) := by
    intro d
    induction d with
    | zero =>
      intro i m0 hd hi
      refine ⟨m0, Ev.step (f := fun _ => some m0) (fun k => ?_) (Ev.now m0), ⟨fun h => .inl h, fun h => ?_⟩⟩
      · simp only [slices_Max_uint8_uint8.l0]
        rw [if_neg (by omega)]
      · rcases h with h | ⟨j, h1, h2, _⟩
        · exact h
        · omega
    | succ d ih =>
      intro i m0 hd hi
      have hlt : i < is.length := by omega
      obtain ⟨m, hE, hI⟩ := ih (i + 1) (mx m0 (rd is (i : Int))) (by omega) (by omega)
      refine ⟨m, Ev.step (fun k => ?_) hE, ?_⟩
      · simp only [slices_Max_uint8_uint8.l0]
        rw [if_pos (by omega), if_pos (by omega), wrap_nat (by omega)]
      · rw [hI, rd_at hlt]
        have hmx : 2 < mx m0 is[i] ↔ 2 < m0 ∨ 2 < is[i] := by unfold mx; split <;> omega
        rw [hmx]
        constructor
        · rintro ((h | h) | ⟨j, h1, h2, h3⟩)
          · exact .inl h
          · exact .inr ⟨i, Nat.le_refl _, hlt, h⟩
          · exact .inr ⟨j, by omega, h2, h3⟩
        · rintro (h | ⟨j, h1, h2, h3⟩)
          · exact .inl (.inl h)
          · by_cases e : j = i
            · subst e
              exact .inl (.inr h3)
            · exact .inr ⟨j, by omega, h2, h3⟩
  have hlt : 0 < is.length := by omega
  obtain ⟨m, hE, hI⟩ := key (is.length - 1) 1 (rd is 0) (by omega) (by omega)
  refine ⟨m, Ev.congr (fun k => ?_) hE, ?_⟩
  · unfold slices_Max_uint8_uint8.f
    rw [if_neg (by omega), if_pos (by omega)]
    rfl
  · have e0 : rd is 0 = is[0] := rd_at hlt
    rw [hI, e0]
    constructor
    · rintro (h | ⟨j, _, h2, h3⟩)
      · exact ⟨_, List.getElem_mem _, h⟩
      · exact ⟨_, List.getElem_mem _, h3⟩
    · rintro ⟨x, hx, h⟩
      obtain ⟨j, hj, rfl⟩ := List.mem_iff_getElem.1 hx
      by_cases e : j = 0
      · subst e
        exact .inl h
      · exact .inr ⟨j, by omega, hj, h⟩
set_option maxHeartbeats 8000000 in
set_option maxRecDepth 100000 in
theorem strash_With.bad (a0 : Int) (A1 : Option Addr) (c1 : Nat) (l1 : List S41) (A2 : Option Addr) (c2 : Nat) (l2 : List S68) (A3 : Option Addr) (c3 : Nat) (l3 : List Int) (A4 : Option Addr) (c4 : Nat) (l4 : List Int) (A5 : Option Addr) (c5 : Nat) (l5 : List Int) (A6 : Option Addr) (c6 : Nat) (is : List Int) (w : World) (hr1 : Kd.C k41 w A1 l1.length l1) (hc1 : l1.length ≤ c1) (hr2 : Kd.C k68 w A2 l2.length l2) (hc2 : l2.length ≤ c2) (hr3 : Kd.C (Kd.int .u32) w A3 l3.length l3) (hc3 : l3.length ≤ c3) (hr4 : Kd.C (Kd.int .u32) w A4 l4.length l4) (hc4 : l4.length ≤ c4) (hr5 : Kd.C (Kd.int .u32) w A5 l5.length l5) (hc5 : l5.length ≤ c5) (hr6 : Kd.C (Kd.int .u8) w A6 is.length is) (hc6 : is.length ≤ c6)
  (hok : okIn l1 l2 = true) (hi : InU8 is) (hc : ¬ withOk a0 l1 l2 l3 l4 l5 is) :
  Calls Try.prog 43 #[.agg #[.int .i64 a0, .slice A1 l1.length c1, .slice A2 l2.length c2, .slice A3 l3.length c3, .slice A4 l4.length c4, .slice A5 l5.length c5], .slice A6 is.length c6] w fun e w' => e = .returned (.tuple #[.agg #[.int .i64 0, .slice none 0 0, .slice none 0 0, .slice none 0 0, .slice none 0 0, .slice none 0 0], .slice none 0 0, .int .i64 2]) ∧ Below w.heap.size w w' := by
 have hu26 := Try.underlying26
 have HMAY := Aside0.mk (fun W (h : MayAt a0 A1 c1 l1 A2 c2 l2 A3 c3 l3 A4 c4 l4 A5 c5 l5 w.heap.size w W) => norm_May.calls a0 A1 c1 l1 A2 c2 l2 A3 c3 l3 A4 c4 l4 A5 c5 l5 _ W h.h1 hc1 h.h2 hc2 h.h3 hc3 h.h4 hc4 h.h5 hc5 rfl)
 have HVARS := Aside0.mk (fun W (h : MayAt a0 A1 c1 l1 A2 c2 l2 A3 c3 l3 A4 c4 l4 A5 c5 l5 w.heap.size w W) => norm_Vars.calls a0 A1 c1 l1 A2 c2 l2 A3 c3 l3 A4 c4 l4 A5 c5 l5 (if mayB a0 l1 l2 l3 l4 l5 = true then varsW a0 l1.length l2.length else 0) W h.h1 hc1 h.h2 hc2 h.h3 hc3 h.h4 hc4 h.h5 hc5 (by
  simp only [norm_Vars.f, norm_May.f, norm_vars.f, Option.bind_some]
  split <;> rfl))
 have H0 := Aside0.mk (fun W (hb : Below w.heap.size w W) (hk : W.heap[w.heap.size]? = some (.cells #[.int .i64 a0, .slice A1 l1.length c1, .slice A2 l2.length c2, .slice A3 l3.length c3, .slice A4 l4.length c4, .slice A5 l5.length c5] 26 (0, 0))) => (⟨hb, hk, Kd.C_below hr1 hb, Kd.C_below hr2 hb, Kd.C_below hr3 hb, Kd.C_below hr4 hb, Kd.C_below hr5 hb⟩ : MayAt a0 A1 c1 l1 A2 c2 l2 A3 c3 l3 A4 c4 l4 A5 c5 l5 w.heap.size w W))
 have H6 := Aside0.mk hr6
 clear hr1 hr2 hr3 hr4 hr5 hr6
 cases hm : mayB a0 l1 l2 l3 l4 l5 with
 | false =>
  rw [hm] at HMAY HVARS
  clear hc hm hok
  go_enter Try.func43, Try.ntmps43
  go_wp2_with (first | ((with_reducible refine gate_dst (N := 2) rfl ?_); (try (refine gate_guard (by rfl) ?_; dsimp only)); refine box_event ?hg (N := 2) ?hd (cs := #[.int .i64 a0, .slice A1 l1.length c1, .slice A2 l2.length c2, .slice A3 l3.length c3, .slice A4 l4.length c4, .slice A5 l5.length c5]) (t := 26) ?hr ?_; (case hd => rfl); (case hg => rfl); (case hr => first | (go_simp; done) | (go_simp; rfl)); intro g hg_ w1 BK HB; subst hg_; have HM := Aside0.mk (H0.out _ HB BK); clear HB BK) | ((with_reducible refine gate_dst (N := 4) rfl ?_); (try (refine gate_guard (by rfl) ?_; dsimp only)); refine box_event ?hg (N := 4) ?hd (cs := #[.int .i64 0, .slice none 0 0, .slice none 0 0, .slice none 0 0, .slice none 0 0, .slice none 0 0]) (t := 26) ?hr ?_; (case hd => rfl); (case hg => rfl); (case hr => first | (go_simp; done) | (go_simp; rfl)); intro g4 hg_ w2 bk2 hb2; have HM2 := Aside0.mk (HM.out.step hb2); have G4 := Aside0.mk (show w.heap.size < g4 from by rw [hg_]; exact blk_lt HM.out.blk); have K4 := Aside0.mk bk2; clear hg_ hb2 bk2) | ((with_reducible refine gate_dst (N := 5) rfl ?_); (try (refine gate_guard (by rfl) ?_; dsimp only)); refine box_event ?hg (N := 5) ?hd (cs := #[.slice none 0 0]) (t := 24) ?hr ?_; (case hd => rfl); (case hg => rfl); (case hr => first | (go_simp; done) | (go_simp; rfl)); intro g5 hg_ w3 bk3 hb3; have HM3 := Aside0.mk (HM2.out.step hb3); have G5 := Aside0.mk (show w.heap.size ≤ g5 from by rw [hg_]; exact HM2.out.below.size); have K43 := Aside0.mk (blk_below K4.out hb3); have K5 := Aside0.mk bk3; clear hg_ hb3 bk3; have z0 : w3.cell? ⟨w.heap.size, 0, none⟩ = some (.int .i64 a0) := (blk_cell HM3.out.blk 0).trans rfl; have z1 : w3.cell? ⟨w.heap.size, 1, none⟩ = some (.slice A1 l1.length c1) := (blk_cell HM3.out.blk 1).trans rfl; have z2 : w3.cell? ⟨w.heap.size, 2, none⟩ = some (.slice A2 l2.length c2) := (blk_cell HM3.out.blk 2).trans rfl; have z3 : w3.cell? ⟨w.heap.size, 3, none⟩ = some (.slice A3 l3.length c3) := (blk_cell HM3.out.blk 3).trans rfl; have z4 : w3.cell? ⟨w.heap.size, 4, none⟩ = some (.slice A4 l4.length c4) := (blk_cell HM3.out.blk 4).trans rfl; have z5 : w3.cell? ⟨w.heap.size, 5, none⟩ = some (.slice A5 l5.length c5) := (blk_cell HM3.out.blk 5).trans rfl) | (go_at_call 92; refine (HMAY.out _ HM3.out).mono ?_; rintro e w4 ⟨rfl, hb⟩; have HM4 := Aside0.mk (HM3.out.step hb); have K44 := Aside0.mk (blk_below K43.out hb); have K54 := Aside0.mk (blk_below K5.out hb); clear hb; clear z0 z1 z2 z3 z4 z5; have z0 : w4.cell? ⟨w.heap.size, 0, none⟩ = some (.int .i64 a0) := (blk_cell HM4.out.blk 0).trans rfl; have z1 : w4.cell? ⟨w.heap.size, 1, none⟩ = some (.slice A1 l1.length c1) := (blk_cell HM4.out.blk 1).trans rfl; have z2 : w4.cell? ⟨w.heap.size, 2, none⟩ = some (.slice A2 l2.length c2) := (blk_cell HM4.out.blk 2).trans rfl; have z3 : w4.cell? ⟨w.heap.size, 3, none⟩ = some (.slice A3 l3.length c3) := (blk_cell HM4.out.blk 3).trans rfl; have z4 : w4.cell? ⟨w.heap.size, 4, none⟩ = some (.slice A4 l4.length c4) := (blk_cell HM4.out.blk 4).trans rfl; have z5 : w4.cell? ⟨w.heap.size, 5, none⟩ = some (.slice A5 l5.length c5) := (blk_cell HM4.out.blk 5).trans rfl; have y0 : w4.cell? ⟨g4, 0, none⟩ = some (.int .i64 0) := (blk_cell K44.out 0).trans rfl; have f0 := blk_frozen K44.out 0; have y1 : w4.cell? ⟨g4, 1, none⟩ = some (.slice none 0 0) := (blk_cell K44.out 1).trans rfl; have f1 := blk_frozen K44.out 1; have y2 : w4.cell? ⟨g4, 2, none⟩ = some (.slice none 0 0) := (blk_cell K44.out 2).trans rfl; have f2 := blk_frozen K44.out 2; have y3 : w4.cell? ⟨g4, 3, none⟩ = some (.slice none 0 0) := (blk_cell K44.out 3).trans rfl; have f3 := blk_frozen K44.out 3; have y4 : w4.cell? ⟨g4, 4, none⟩ = some (.slice none 0 0) := (blk_cell K44.out 4).trans rfl; have f4 := blk_frozen K44.out 4; have y5 : w4.cell? ⟨g4, 5, none⟩ = some (.slice none 0 0) := (blk_cell K44.out 5).trans rfl; have f5 := blk_frozen K44.out 5; have u0 : w4.cell? ⟨g5, 0, none⟩ = some (.slice none 0 0) := (blk_cell K54.out 0).trans rfl; have K4Y := K44; have K5Y := K54; have HMY := HM4; clear z0 z1 z2 z3 z4 z5) | ((with_reducible refine gate_store (t := 26) (p := .tmp 4) (x := .tmp 36) rfl ?_); refine skip_event (W' := ((((((w4).setCell ⟨g4, 0, none⟩ (.int .i64 0)).setCell ⟨g4, 1, none⟩ (.slice none 0 0)).setCell ⟨g4, 2, none⟩ (.slice none 0 0)).setCell ⟨g4, 3, none⟩ (.slice none 0 0)).setCell ⟨g4, 4, none⟩ (.slice none 0 0)).setCell ⟨g4, 5, none⟩ (.slice none 0 0)) ?hn ?hs ?hr ?_; (case hn => rfl); (case hs => rfl); (case hr => first | (go_simp; done) | (go_simp; rfl)); intro wx hw_; have KX4 := Aside0.mk (show wx.heap[g4]? = some (.cells #[.int .i64 0, .slice none 0 0, .slice none 0 0, .slice none 0 0, .slice none 0 0, .slice none 0 0] 26 (0, 0)) from by rw [hw_]; exact blk_set6 K4Y.out _ _ _ _ _ _); have KX5 := Aside0.mk (show wx.heap[g5]? = some (.cells #[.slice none 0 0] 24 (0, 0)) from by rw [hw_]; exact blk_far6 K5Y.out (blk_ne K5Y.out K4Y.out (by decide)) _ _ _ _ _ _); have HX := Aside0.mk (show Below w.heap.size w wx from by rw [hw_]; exact below_set6 HMY.out.below (Nat.le_of_lt G4.out) _ _ _ _ _ _); clear hw_ y0 y1 y2 y3 y4 y5 f0 f1 f2 f3 f4 f5 u0; have u0 : wx.cell? ⟨g5, 0, none⟩ = some (.slice none 0 0) := (blk_cell KX5.out 0).trans rfl; have v0 := blk_frozen KX5.out 0) | ((with_reducible refine gate_store (t := 24) (p := .tmp 5) (x := .const (.slice none 0 0)) rfl ?_); refine skip_event (W' := wx.setCell ⟨g5, 0, none⟩ (.slice none 0 0)) ?hn ?hs ?hr ?_; (case hn => rfl); (case hs => rfl); (case hr => first | (go_simp; done) | (go_simp; rfl)); intro wy hw_; have KY4 := Aside0.mk (show wy.heap[g4]? = some (.cells #[.int .i64 0, .slice none 0 0, .slice none 0 0, .slice none 0 0, .slice none 0 0, .slice none 0 0] 26 (0, 0)) from by rw [hw_]; exact blk_far KX4.out (p := ⟨g5, 0, none⟩) (blk_ne KX4.out KX5.out (by decide)) _); have KY5 := Aside0.mk (show wy.heap[g5]? = some (.cells #[.slice none 0 0] 24 (0, 0)) from by rw [hw_]; simpa using blk_set KX5.out 0 (.slice none 0 0)); have HY := Aside0.mk (show Below w.heap.size w wy from by rw [hw_]; exact HX.out.setCell (p := ⟨g5, 0, none⟩) G5.out _); clear hw_ u0 v0))
  refine bodyPost_ret (results43 _ wy g4 g5 #[.int .i64 0, .slice none 0 0, .slice none 0 0, .slice none 0 0, .slice none 0 0, .slice none 0 0] (.slice none 0 0) rfl KY4.out rfl rfl KY5.out) rfl ?_
  exact ⟨rfl, HY.out⟩
 | true =>
  rw [hm] at HMAY HVARS
  rw [if_pos rfl] at HVARS
  obtain ⟨HVA, hV⟩ := valid_of_may hok hm
  have hpos := HVA.pos
  have hle := HVA.le
  rw [hV] at HVARS
  generalize hVV : a0 + (l1.length : Int) + (l2.length : Int) = V at HVARS hle
  have es1 : IntKind.i64.wrap (V + 1) = V + 1 := IntWalk.i64_in _ (by omega)
  have es2 : wrap64 (V + 1) = V + 1 := wrap64_id (by omega) (by omega)
  by_cases hl : (is.length : Int) = V + 1
  ·
   have hl1 : ((is.length : Int) != V + 1) = false := bne_eq_false_iff_eq.mpr hl
   have hpz : (0 : Int) < (is.length : Int) := by omega
   obtain ⟨ad, e6, x6⟩ := Kd.at_int H6.out 0 (by omega) (by omega)
   cases e6
   replace x6 : w.cell? ad = some (.int .u8 (rd is 0)) := by simpa [add_zero_addr] using x6
   by_cases h0 : rd is 0 = 0
   ·
    by_cases ha : is.all (fun x => decide (x ≤ 2)) = true
    · exact absurd ⟨hm, by rw [hVV]; exact hl, h0, ha⟩ hc
    ·
     obtain ⟨m, hmE, hmI⟩ := max_is is (by omega) (by omega)
     obtain ⟨k, hmk⟩ := hmE.rounds
     have hm2 : 2 < m := hmI.2 (by
      simp only [List.all_eq_true, decide_eq_true_eq, Classical.not_forall] at ha
      obtain ⟨x, hx, h⟩ := ha
      exact ⟨x, hx, by omega⟩)
     have HMAX := Aside0.mk (fun W (hb : Below w.heap.size w W) => slices_Max_uint8_uint8.calls k (some ad) c6 is m W (Kd.C_below H6.out hb) hc6 hmk)
     have hm3 : decide (2 < m) = true := decide_eq_true hm2
     have h01 : (rd is 0 != 0) = false := bne_eq_false_iff_eq.mpr h0
     have X6 := Aside0.mk x6
     clear hc hm hok hl h0 ha hmk hmI hm2 hVV HVA hV x6
     go_enter Try.func43, Try.ntmps43
     go_wp2_with (first | ((with_reducible refine gate_dst (N := 2) rfl ?_); (try (refine gate_guard (by rfl) ?_; dsimp only)); refine box_event ?hg (N := 2) ?hd (cs := #[.int .i64 a0, .slice A1 l1.length c1, .slice A2 l2.length c2, .slice A3 l3.length c3, .slice A4 l4.length c4, .slice A5 l5.length c5]) (t := 26) ?hr ?_; (case hd => rfl); (case hg => rfl); (case hr => first | (go_simp; done) | (go_simp; rfl)); intro g hg_ w1 BK HB; subst hg_; have HM := Aside0.mk (H0.out _ HB BK); clear HB BK) | ((with_reducible refine gate_dst (N := 4) rfl ?_); (try (refine gate_guard (by rfl) ?_; dsimp only)); refine box_event ?hg (N := 4) ?hd (cs := #[.int .i64 0, .slice none 0 0, .slice none 0 0, .slice none 0 0, .slice none 0 0, .slice none 0 0]) (t := 26) ?hr ?_; (case hd => rfl); (case hg => rfl); (case hr => first | (go_simp; done) | (go_simp; rfl)); intro g4 hg_ w2 bk2 hb2; have HM2 := Aside0.mk (HM.out.step hb2); have G4 := Aside0.mk (show w.heap.size < g4 from by rw [hg_]; exact blk_lt HM.out.blk); have K4 := Aside0.mk bk2; clear hg_ hb2 bk2) | ((with_reducible refine gate_dst (N := 5) rfl ?_); (try (refine gate_guard (by rfl) ?_; dsimp only)); refine box_event ?hg (N := 5) ?hd (cs := #[.slice none 0 0]) (t := 24) ?hr ?_; (case hd => rfl); (case hg => rfl); (case hr => first | (go_simp; done) | (go_simp; rfl)); intro g5 hg_ w3 bk3 hb3; have HM3 := Aside0.mk (HM2.out.step hb3); have G5 := Aside0.mk (show w.heap.size ≤ g5 from by rw [hg_]; exact HM2.out.below.size); have K43 := Aside0.mk (blk_below K4.out hb3); have K5 := Aside0.mk bk3; clear hg_ hb3 bk3; have z0 : w3.cell? ⟨w.heap.size, 0, none⟩ = some (.int .i64 a0) := (blk_cell HM3.out.blk 0).trans rfl; have z1 : w3.cell? ⟨w.heap.size, 1, none⟩ = some (.slice A1 l1.length c1) := (blk_cell HM3.out.blk 1).trans rfl; have z2 : w3.cell? ⟨w.heap.size, 2, none⟩ = some (.slice A2 l2.length c2) := (blk_cell HM3.out.blk 2).trans rfl; have z3 : w3.cell? ⟨w.heap.size, 3, none⟩ = some (.slice A3 l3.length c3) := (blk_cell HM3.out.blk 3).trans rfl; have z4 : w3.cell? ⟨w.heap.size, 4, none⟩ = some (.slice A4 l4.length c4) := (blk_cell HM3.out.blk 4).trans rfl; have z5 : w3.cell? ⟨w.heap.size, 5, none⟩ = some (.slice A5 l5.length c5) := (blk_cell HM3.out.blk 5).trans rfl) | (go_at_call 92; refine (HMAY.out _ HM3.out).mono ?_; rintro e w4 ⟨rfl, hb⟩; have HM4 := Aside0.mk (HM3.out.step hb); have K44 := Aside0.mk (blk_below K43.out hb); have K54 := Aside0.mk (blk_below K5.out hb); clear hb; clear z0 z1 z2 z3 z4 z5; have z0 : w4.cell? ⟨w.heap.size, 0, none⟩ = some (.int .i64 a0) := (blk_cell HM4.out.blk 0).trans rfl; have z1 : w4.cell? ⟨w.heap.size, 1, none⟩ = some (.slice A1 l1.length c1) := (blk_cell HM4.out.blk 1).trans rfl; have z2 : w4.cell? ⟨w.heap.size, 2, none⟩ = some (.slice A2 l2.length c2) := (blk_cell HM4.out.blk 2).trans rfl; have z3 : w4.cell? ⟨w.heap.size, 3, none⟩ = some (.slice A3 l3.length c3) := (blk_cell HM4.out.blk 3).trans rfl; have z4 : w4.cell? ⟨w.heap.size, 4, none⟩ = some (.slice A4 l4.length c4) := (blk_cell HM4.out.blk 4).trans rfl; have z5 : w4.cell? ⟨w.heap.size, 5, none⟩ = some (.slice A5 l5.length c5) := (blk_cell HM4.out.blk 5).trans rfl) | (go_at_call 101; refine (HVARS.out _ HM4.out).mono ?_; rintro e w5 ⟨rfl, hb⟩; have HM5 := Aside0.mk (HM4.out.step hb); have K45 := Aside0.mk (blk_below K44.out hb); have K55 := Aside0.mk (blk_below K54.out hb); clear hb; clear z0 z1 z2 z3 z4 z5; have z0 : w5.cell? ⟨w.heap.size, 0, none⟩ = some (.int .i64 a0) := (blk_cell HM5.out.blk 0).trans rfl; have z1 : w5.cell? ⟨w.heap.size, 1, none⟩ = some (.slice A1 l1.length c1) := (blk_cell HM5.out.blk 1).trans rfl; have z2 : w5.cell? ⟨w.heap.size, 2, none⟩ = some (.slice A2 l2.length c2) := (blk_cell HM5.out.blk 2).trans rfl; have z3 : w5.cell? ⟨w.heap.size, 3, none⟩ = some (.slice A3 l3.length c3) := (blk_cell HM5.out.blk 3).trans rfl; have z4 : w5.cell? ⟨w.heap.size, 4, none⟩ = some (.slice A4 l4.length c4) := (blk_cell HM5.out.blk 4).trans rfl; have z5 : w5.cell? ⟨w.heap.size, 5, none⟩ = some (.slice A5 l5.length c5) := (blk_cell HM5.out.blk 5).trans rfl; have x6 := (HM5.out.below.cell (World.block_lt_of_cell? w _ X6.out)).trans X6.out) | (go_at_call 102; refine (HMAX.out _ HM5.out.below).mono ?_; rintro e w6 ⟨rfl, hb⟩; have HM6 := Aside0.mk (HM5.out.step hb); have K46 := Aside0.mk (blk_below K45.out hb); have K56 := Aside0.mk (blk_below K55.out hb); clear hb; clear z0 z1 z2 z3 z4 z5; have z0 : w6.cell? ⟨w.heap.size, 0, none⟩ = some (.int .i64 a0) := (blk_cell HM6.out.blk 0).trans rfl; have z1 : w6.cell? ⟨w.heap.size, 1, none⟩ = some (.slice A1 l1.length c1) := (blk_cell HM6.out.blk 1).trans rfl; have z2 : w6.cell? ⟨w.heap.size, 2, none⟩ = some (.slice A2 l2.length c2) := (blk_cell HM6.out.blk 2).trans rfl; have z3 : w6.cell? ⟨w.heap.size, 3, none⟩ = some (.slice A3 l3.length c3) := (blk_cell HM6.out.blk 3).trans rfl; have z4 : w6.cell? ⟨w.heap.size, 4, none⟩ = some (.slice A4 l4.length c4) := (blk_cell HM6.out.blk 4).trans rfl; have z5 : w6.cell? ⟨w.heap.size, 5, none⟩ = some (.slice A5 l5.length c5) := (blk_cell HM6.out.blk 5).trans rfl; clear x6; have y0 : w6.cell? ⟨g4, 0, none⟩ = some (.int .i64 0) := (blk_cell K46.out 0).trans rfl; have f0 := blk_frozen K46.out 0; have y1 : w6.cell? ⟨g4, 1, none⟩ = some (.slice none 0 0) := (blk_cell K46.out 1).trans rfl; have f1 := blk_frozen K46.out 1; have y2 : w6.cell? ⟨g4, 2, none⟩ = some (.slice none 0 0) := (blk_cell K46.out 2).trans rfl; have f2 := blk_frozen K46.out 2; have y3 : w6.cell? ⟨g4, 3, none⟩ = some (.slice none 0 0) := (blk_cell K46.out 3).trans rfl; have f3 := blk_frozen K46.out 3; have y4 : w6.cell? ⟨g4, 4, none⟩ = some (.slice none 0 0) := (blk_cell K46.out 4).trans rfl; have f4 := blk_frozen K46.out 4; have y5 : w6.cell? ⟨g4, 5, none⟩ = some (.slice none 0 0) := (blk_cell K46.out 5).trans rfl; have f5 := blk_frozen K46.out 5; have u0 : w6.cell? ⟨g5, 0, none⟩ = some (.slice none 0 0) := (blk_cell K56.out 0).trans rfl; have K4Y := K46; have K5Y := K56; have HMY := HM6; clear z0 z1 z2 z3 z4 z5) | ((with_reducible refine gate_store (t := 26) (p := .tmp 4) (x := .tmp 36) rfl ?_); refine skip_event (W' := ((((((w6).setCell ⟨g4, 0, none⟩ (.int .i64 0)).setCell ⟨g4, 1, none⟩ (.slice none 0 0)).setCell ⟨g4, 2, none⟩ (.slice none 0 0)).setCell ⟨g4, 3, none⟩ (.slice none 0 0)).setCell ⟨g4, 4, none⟩ (.slice none 0 0)).setCell ⟨g4, 5, none⟩ (.slice none 0 0)) ?hn ?hs ?hr ?_; (case hn => rfl); (case hs => rfl); (case hr => first | (go_simp; done) | (go_simp; rfl)); intro wx hw_; have KX4 := Aside0.mk (show wx.heap[g4]? = some (.cells #[.int .i64 0, .slice none 0 0, .slice none 0 0, .slice none 0 0, .slice none 0 0, .slice none 0 0] 26 (0, 0)) from by rw [hw_]; exact blk_set6 K4Y.out _ _ _ _ _ _); have KX5 := Aside0.mk (show wx.heap[g5]? = some (.cells #[.slice none 0 0] 24 (0, 0)) from by rw [hw_]; exact blk_far6 K5Y.out (blk_ne K5Y.out K4Y.out (by decide)) _ _ _ _ _ _); have HX := Aside0.mk (show Below w.heap.size w wx from by rw [hw_]; exact below_set6 HMY.out.below (Nat.le_of_lt G4.out) _ _ _ _ _ _); clear hw_ y0 y1 y2 y3 y4 y5 f0 f1 f2 f3 f4 f5 u0; have u0 : wx.cell? ⟨g5, 0, none⟩ = some (.slice none 0 0) := (blk_cell KX5.out 0).trans rfl; have v0 := blk_frozen KX5.out 0) | ((with_reducible refine gate_store (t := 24) (p := .tmp 5) (x := .const (.slice none 0 0)) rfl ?_); refine skip_event (W' := wx.setCell ⟨g5, 0, none⟩ (.slice none 0 0)) ?hn ?hs ?hr ?_; (case hn => rfl); (case hs => rfl); (case hr => first | (go_simp; done) | (go_simp; rfl)); intro wy hw_; have KY4 := Aside0.mk (show wy.heap[g4]? = some (.cells #[.int .i64 0, .slice none 0 0, .slice none 0 0, .slice none 0 0, .slice none 0 0, .slice none 0 0] 26 (0, 0)) from by rw [hw_]; exact blk_far KX4.out (p := ⟨g5, 0, none⟩) (blk_ne KX4.out KX5.out (by decide)) _); have KY5 := Aside0.mk (show wy.heap[g5]? = some (.cells #[.slice none 0 0] 24 (0, 0)) from by rw [hw_]; simpa using blk_set KX5.out 0 (.slice none 0 0)); have HY := Aside0.mk (show Below w.heap.size w wy from by rw [hw_]; exact HX.out.setCell (p := ⟨g5, 0, none⟩) G5.out _); clear hw_ u0 v0))
     refine bodyPost_ret (results43 _ wy g4 g5 #[.int .i64 0, .slice none 0 0, .slice none 0 0, .slice none 0 0, .slice none 0 0, .slice none 0 0] (.slice none 0 0) rfl KY4.out rfl rfl KY5.out) rfl ?_
     exact ⟨rfl, HY.out⟩
   ·
    have h01 : (rd is 0 != 0) = true := bne_iff_ne.mpr h0
    have X6 := Aside0.mk x6
    clear hc hm hok hl h0 hVV HVA hV x6
    go_enter Try.func43, Try.ntmps43
    go_wp2_with (first | ((with_reducible refine gate_dst (N := 2) rfl ?_); (try (refine gate_guard (by rfl) ?_; dsimp only)); refine box_event ?hg (N := 2) ?hd (cs := #[.int .i64 a0, .slice A1 l1.length c1, .slice A2 l2.length c2, .slice A3 l3.length c3, .slice A4 l4.length c4, .slice A5 l5.length c5]) (t := 26) ?hr ?_; (case hd => rfl); (case hg => rfl); (case hr => first | (go_simp; done) | (go_simp; rfl)); intro g hg_ w1 BK HB; subst hg_; have HM := Aside0.mk (H0.out _ HB BK); clear HB BK) | ((with_reducible refine gate_dst (N := 4) rfl ?_); (try (refine gate_guard (by rfl) ?_; dsimp only)); refine box_event ?hg (N := 4) ?hd (cs := #[.int .i64 0, .slice none 0 0, .slice none 0 0, .slice none 0 0, .slice none 0 0, .slice none 0 0]) (t := 26) ?hr ?_; (case hd => rfl); (case hg => rfl); (case hr => first | (go_simp; done) | (go_simp; rfl)); intro g4 hg_ w2 bk2 hb2; have HM2 := Aside0.mk (HM.out.step hb2); have G4 := Aside0.mk (show w.heap.size < g4 from by rw [hg_]; exact blk_lt HM.out.blk); have K4 := Aside0.mk bk2; clear hg_ hb2 bk2) | ((with_reducible refine gate_dst (N := 5) rfl ?_); (try (refine gate_guard (by rfl) ?_; dsimp only)); refine box_event ?hg (N := 5) ?hd (cs := #[.slice none 0 0]) (t := 24) ?hr ?_; (case hd => rfl); (case hg => rfl); (case hr => first | (go_simp; done) | (go_simp; rfl)); intro g5 hg_ w3 bk3 hb3; have HM3 := Aside0.mk (HM2.out.step hb3); have G5 := Aside0.mk (show w.heap.size ≤ g5 from by rw [hg_]; exact HM2.out.below.size); have K43 := Aside0.mk (blk_below K4.out hb3); have K5 := Aside0.mk bk3; clear hg_ hb3 bk3; have z0 : w3.cell? ⟨w.heap.size, 0, none⟩ = some (.int .i64 a0) := (blk_cell HM3.out.blk 0).trans rfl; have z1 : w3.cell? ⟨w.heap.size, 1, none⟩ = some (.slice A1 l1.length c1) := (blk_cell HM3.out.blk 1).trans rfl; have z2 : w3.cell? ⟨w.heap.size, 2, none⟩ = some (.slice A2 l2.length c2) := (blk_cell HM3.out.blk 2).trans rfl; have z3 : w3.cell? ⟨w.heap.size, 3, none⟩ = some (.slice A3 l3.length c3) := (blk_cell HM3.out.blk 3).trans rfl; have z4 : w3.cell? ⟨w.heap.size, 4, none⟩ = some (.slice A4 l4.length c4) := (blk_cell HM3.out.blk 4).trans rfl; have z5 : w3.cell? ⟨w.heap.size, 5, none⟩ = some (.slice A5 l5.length c5) := (blk_cell HM3.out.blk 5).trans rfl) | (go_at_call 92; refine (HMAY.out _ HM3.out).mono ?_; rintro e w4 ⟨rfl, hb⟩; have HM4 := Aside0.mk (HM3.out.step hb); have K44 := Aside0.mk (blk_below K43.out hb); have K54 := Aside0.mk (blk_below K5.out hb); clear hb; clear z0 z1 z2 z3 z4 z5; have z0 : w4.cell? ⟨w.heap.size, 0, none⟩ = some (.int .i64 a0) := (blk_cell HM4.out.blk 0).trans rfl; have z1 : w4.cell? ⟨w.heap.size, 1, none⟩ = some (.slice A1 l1.length c1) := (blk_cell HM4.out.blk 1).trans rfl; have z2 : w4.cell? ⟨w.heap.size, 2, none⟩ = some (.slice A2 l2.length c2) := (blk_cell HM4.out.blk 2).trans rfl; have z3 : w4.cell? ⟨w.heap.size, 3, none⟩ = some (.slice A3 l3.length c3) := (blk_cell HM4.out.blk 3).trans rfl; have z4 : w4.cell? ⟨w.heap.size, 4, none⟩ = some (.slice A4 l4.length c4) := (blk_cell HM4.out.blk 4).trans rfl; have z5 : w4.cell? ⟨w.heap.size, 5, none⟩ = some (.slice A5 l5.length c5) := (blk_cell HM4.out.blk 5).trans rfl) | (go_at_call 101; refine (HVARS.out _ HM4.out).mono ?_; rintro e w5 ⟨rfl, hb⟩; have HM5 := Aside0.mk (HM4.out.step hb); have K45 := Aside0.mk (blk_below K44.out hb); have K55 := Aside0.mk (blk_below K54.out hb); clear hb; clear z0 z1 z2 z3 z4 z5; have z0 : w5.cell? ⟨w.heap.size, 0, none⟩ = some (.int .i64 a0) := (blk_cell HM5.out.blk 0).trans rfl; have z1 : w5.cell? ⟨w.heap.size, 1, none⟩ = some (.slice A1 l1.length c1) := (blk_cell HM5.out.blk 1).trans rfl; have z2 : w5.cell? ⟨w.heap.size, 2, none⟩ = some (.slice A2 l2.length c2) := (blk_cell HM5.out.blk 2).trans rfl; have z3 : w5.cell? ⟨w.heap.size, 3, none⟩ = some (.slice A3 l3.length c3) := (blk_cell HM5.out.blk 3).trans rfl; have z4 : w5.cell? ⟨w.heap.size, 4, none⟩ = some (.slice A4 l4.length c4) := (blk_cell HM5.out.blk 4).trans rfl; have z5 : w5.cell? ⟨w.heap.size, 5, none⟩ = some (.slice A5 l5.length c5) := (blk_cell HM5.out.blk 5).trans rfl; have x6 := (HM5.out.below.cell (World.block_lt_of_cell? w _ X6.out)).trans X6.out; have y0 : w5.cell? ⟨g4, 0, none⟩ = some (.int .i64 0) := (blk_cell K45.out 0).trans rfl; have f0 := blk_frozen K45.out 0; have y1 : w5.cell? ⟨g4, 1, none⟩ = some (.slice none 0 0) := (blk_cell K45.out 1).trans rfl; have f1 := blk_frozen K45.out 1; have y2 : w5.cell? ⟨g4, 2, none⟩ = some (.slice none 0 0) := (blk_cell K45.out 2).trans rfl; have f2 := blk_frozen K45.out 2; have y3 : w5.cell? ⟨g4, 3, none⟩ = some (.slice none 0 0) := (blk_cell K45.out 3).trans rfl; have f3 := blk_frozen K45.out 3; have y4 : w5.cell? ⟨g4, 4, none⟩ = some (.slice none 0 0) := (blk_cell K45.out 4).trans rfl; have f4 := blk_frozen K45.out 4; have y5 : w5.cell? ⟨g4, 5, none⟩ = some (.slice none 0 0) := (blk_cell K45.out 5).trans rfl; have f5 := blk_frozen K45.out 5; have u0 : w5.cell? ⟨g5, 0, none⟩ = some (.slice none 0 0) := (blk_cell K55.out 0).trans rfl; have K4Y := K45; have K5Y := K55; have HMY := HM5; clear z0 z1 z2 z3 z4 z5) | ((with_reducible refine gate_store (t := 26) (p := .tmp 4) (x := .tmp 36) rfl ?_); refine skip_event (W' := ((((((w5).setCell ⟨g4, 0, none⟩ (.int .i64 0)).setCell ⟨g4, 1, none⟩ (.slice none 0 0)).setCell ⟨g4, 2, none⟩ (.slice none 0 0)).setCell ⟨g4, 3, none⟩ (.slice none 0 0)).setCell ⟨g4, 4, none⟩ (.slice none 0 0)).setCell ⟨g4, 5, none⟩ (.slice none 0 0)) ?hn ?hs ?hr ?_; (case hn => rfl); (case hs => rfl); (case hr => first | (go_simp; done) | (go_simp; rfl)); intro wx hw_; have KX4 := Aside0.mk (show wx.heap[g4]? = some (.cells #[.int .i64 0, .slice none 0 0, .slice none 0 0, .slice none 0 0, .slice none 0 0, .slice none 0 0] 26 (0, 0)) from by rw [hw_]; exact blk_set6 K4Y.out _ _ _ _ _ _); have KX5 := Aside0.mk (show wx.heap[g5]? = some (.cells #[.slice none 0 0] 24 (0, 0)) from by rw [hw_]; exact blk_far6 K5Y.out (blk_ne K5Y.out K4Y.out (by decide)) _ _ _ _ _ _); have HX := Aside0.mk (show Below w.heap.size w wx from by rw [hw_]; exact below_set6 HMY.out.below (Nat.le_of_lt G4.out) _ _ _ _ _ _); clear hw_ y0 y1 y2 y3 y4 y5 f0 f1 f2 f3 f4 f5 u0; have u0 : wx.cell? ⟨g5, 0, none⟩ = some (.slice none 0 0) := (blk_cell KX5.out 0).trans rfl; have v0 := blk_frozen KX5.out 0) | ((with_reducible refine gate_store (t := 24) (p := .tmp 5) (x := .const (.slice none 0 0)) rfl ?_); refine skip_event (W' := wx.setCell ⟨g5, 0, none⟩ (.slice none 0 0)) ?hn ?hs ?hr ?_; (case hn => rfl); (case hs => rfl); (case hr => first | (go_simp; done) | (go_simp; rfl)); intro wy hw_; have KY4 := Aside0.mk (show wy.heap[g4]? = some (.cells #[.int .i64 0, .slice none 0 0, .slice none 0 0, .slice none 0 0, .slice none 0 0, .slice none 0 0] 26 (0, 0)) from by rw [hw_]; exact blk_far KX4.out (p := ⟨g5, 0, none⟩) (blk_ne KX4.out KX5.out (by decide)) _); have KY5 := Aside0.mk (show wy.heap[g5]? = some (.cells #[.slice none 0 0] 24 (0, 0)) from by rw [hw_]; simpa using blk_set KX5.out 0 (.slice none 0 0)); have HY := Aside0.mk (show Below w.heap.size w wy from by rw [hw_]; exact HX.out.setCell (p := ⟨g5, 0, none⟩) G5.out _); clear hw_ u0 v0))
    refine bodyPost_ret (results43 _ wy g4 g5 #[.int .i64 0, .slice none 0 0, .slice none 0 0, .slice none 0 0, .slice none 0 0, .slice none 0 0] (.slice none 0 0) rfl KY4.out rfl rfl KY5.out) rfl ?_
    exact ⟨rfl, HY.out⟩
  ·
   have hl1 : ((is.length : Int) != V + 1) = true := bne_iff_ne.mpr hl
   clear hc hm hok hl hVV HVA hV
   go_enter Try.func43, Try.ntmps43
   go_wp2_with (first | ((with_reducible refine gate_dst (N := 2) rfl ?_); (try (refine gate_guard (by rfl) ?_; dsimp only)); refine box_event ?hg (N := 2) ?hd (cs := #[.int .i64 a0, .slice A1 l1.length c1, .slice A2 l2.length c2, .slice A3 l3.length c3, .slice A4 l4.length c4, .slice A5 l5.length c5]) (t := 26) ?hr ?_; (case hd => rfl); (case hg => rfl); (case hr => first | (go_simp; done) | (go_simp; rfl)); intro g hg_ w1 BK HB; subst hg_; have HM := Aside0.mk (H0.out _ HB BK); clear HB BK) | ((with_reducible refine gate_dst (N := 4) rfl ?_); (try (refine gate_guard (by rfl) ?_; dsimp only)); refine box_event ?hg (N := 4) ?hd (cs := #[.int .i64 0, .slice none 0 0, .slice none 0 0, .slice none 0 0, .slice none 0 0, .slice none 0 0]) (t := 26) ?hr ?_; (case hd => rfl); (case hg => rfl); (case hr => first | (go_simp; done) | (go_simp; rfl)); intro g4 hg_ w2 bk2 hb2; have HM2 := Aside0.mk (HM.out.step hb2); have G4 := Aside0.mk (show w.heap.size < g4 from by rw [hg_]; exact blk_lt HM.out.blk); have K4 := Aside0.mk bk2; clear hg_ hb2 bk2) | ((with_reducible refine gate_dst (N := 5) rfl ?_); (try (refine gate_guard (by rfl) ?_; dsimp only)); refine box_event ?hg (N := 5) ?hd (cs := #[.slice none 0 0]) (t := 24) ?hr ?_; (case hd => rfl); (case hg => rfl); (case hr => first | (go_simp; done) | (go_simp; rfl)); intro g5 hg_ w3 bk3 hb3; have HM3 := Aside0.mk (HM2.out.step hb3); have G5 := Aside0.mk (show w.heap.size ≤ g5 from by rw [hg_]; exact HM2.out.below.size); have K43 := Aside0.mk (blk_below K4.out hb3); have K5 := Aside0.mk bk3; clear hg_ hb3 bk3; have z0 : w3.cell? ⟨w.heap.size, 0, none⟩ = some (.int .i64 a0) := (blk_cell HM3.out.blk 0).trans rfl; have z1 : w3.cell? ⟨w.heap.size, 1, none⟩ = some (.slice A1 l1.length c1) := (blk_cell HM3.out.blk 1).trans rfl; have z2 : w3.cell? ⟨w.heap.size, 2, none⟩ = some (.slice A2 l2.length c2) := (blk_cell HM3.out.blk 2).trans rfl; have z3 : w3.cell? ⟨w.heap.size, 3, none⟩ = some (.slice A3 l3.length c3) := (blk_cell HM3.out.blk 3).trans rfl; have z4 : w3.cell? ⟨w.heap.size, 4, none⟩ = some (.slice A4 l4.length c4) := (blk_cell HM3.out.blk 4).trans rfl; have z5 : w3.cell? ⟨w.heap.size, 5, none⟩ = some (.slice A5 l5.length c5) := (blk_cell HM3.out.blk 5).trans rfl) | (go_at_call 92; refine (HMAY.out _ HM3.out).mono ?_; rintro e w4 ⟨rfl, hb⟩; have HM4 := Aside0.mk (HM3.out.step hb); have K44 := Aside0.mk (blk_below K43.out hb); have K54 := Aside0.mk (blk_below K5.out hb); clear hb; clear z0 z1 z2 z3 z4 z5; have z0 : w4.cell? ⟨w.heap.size, 0, none⟩ = some (.int .i64 a0) := (blk_cell HM4.out.blk 0).trans rfl; have z1 : w4.cell? ⟨w.heap.size, 1, none⟩ = some (.slice A1 l1.length c1) := (blk_cell HM4.out.blk 1).trans rfl; have z2 : w4.cell? ⟨w.heap.size, 2, none⟩ = some (.slice A2 l2.length c2) := (blk_cell HM4.out.blk 2).trans rfl; have z3 : w4.cell? ⟨w.heap.size, 3, none⟩ = some (.slice A3 l3.length c3) := (blk_cell HM4.out.blk 3).trans rfl; have z4 : w4.cell? ⟨w.heap.size, 4, none⟩ = some (.slice A4 l4.length c4) := (blk_cell HM4.out.blk 4).trans rfl; have z5 : w4.cell? ⟨w.heap.size, 5, none⟩ = some (.slice A5 l5.length c5) := (blk_cell HM4.out.blk 5).trans rfl) | (go_at_call 101; refine (HVARS.out _ HM4.out).mono ?_; rintro e w5 ⟨rfl, hb⟩; have HM5 := Aside0.mk (HM4.out.step hb); have K45 := Aside0.mk (blk_below K44.out hb); have K55 := Aside0.mk (blk_below K54.out hb); clear hb; clear z0 z1 z2 z3 z4 z5; have z0 : w5.cell? ⟨w.heap.size, 0, none⟩ = some (.int .i64 a0) := (blk_cell HM5.out.blk 0).trans rfl; have z1 : w5.cell? ⟨w.heap.size, 1, none⟩ = some (.slice A1 l1.length c1) := (blk_cell HM5.out.blk 1).trans rfl; have z2 : w5.cell? ⟨w.heap.size, 2, none⟩ = some (.slice A2 l2.length c2) := (blk_cell HM5.out.blk 2).trans rfl; have z3 : w5.cell? ⟨w.heap.size, 3, none⟩ = some (.slice A3 l3.length c3) := (blk_cell HM5.out.blk 3).trans rfl; have z4 : w5.cell? ⟨w.heap.size, 4, none⟩ = some (.slice A4 l4.length c4) := (blk_cell HM5.out.blk 4).trans rfl; have z5 : w5.cell? ⟨w.heap.size, 5, none⟩ = some (.slice A5 l5.length c5) := (blk_cell HM5.out.blk 5).trans rfl; have y0 : w5.cell? ⟨g4, 0, none⟩ = some (.int .i64 0) := (blk_cell K45.out 0).trans rfl; have f0 := blk_frozen K45.out 0; have y1 : w5.cell? ⟨g4, 1, none⟩ = some (.slice none 0 0) := (blk_cell K45.out 1).trans rfl; have f1 := blk_frozen K45.out 1; have y2 : w5.cell? ⟨g4, 2, none⟩ = some (.slice none 0 0) := (blk_cell K45.out 2).trans rfl; have f2 := blk_frozen K45.out 2; have y3 : w5.cell? ⟨g4, 3, none⟩ = some (.slice none 0 0) := (blk_cell K45.out 3).trans rfl; have f3 := blk_frozen K45.out 3; have y4 : w5.cell? ⟨g4, 4, none⟩ = some (.slice none 0 0) := (blk_cell K45.out 4).trans rfl; have f4 := blk_frozen K45.out 4; have y5 : w5.cell? ⟨g4, 5, none⟩ = some (.slice none 0 0) := (blk_cell K45.out 5).trans rfl; have f5 := blk_frozen K45.out 5; have u0 : w5.cell? ⟨g5, 0, none⟩ = some (.slice none 0 0) := (blk_cell K55.out 0).trans rfl; have K4Y := K45; have K5Y := K55; have HMY := HM5; clear z0 z1 z2 z3 z4 z5) | ((with_reducible refine gate_store (t := 26) (p := .tmp 4) (x := .tmp 36) rfl ?_); refine skip_event (W' := ((((((w5).setCell ⟨g4, 0, none⟩ (.int .i64 0)).setCell ⟨g4, 1, none⟩ (.slice none 0 0)).setCell ⟨g4, 2, none⟩ (.slice none 0 0)).setCell ⟨g4, 3, none⟩ (.slice none 0 0)).setCell ⟨g4, 4, none⟩ (.slice none 0 0)).setCell ⟨g4, 5, none⟩ (.slice none 0 0)) ?hn ?hs ?hr ?_; (case hn => rfl); (case hs => rfl); (case hr => first | (go_simp; done) | (go_simp; rfl)); intro wx hw_; have KX4 := Aside0.mk (show wx.heap[g4]? = some (.cells #[.int .i64 0, .slice none 0 0, .slice none 0 0, .slice none 0 0, .slice none 0 0, .slice none 0 0] 26 (0, 0)) from by rw [hw_]; exact blk_set6 K4Y.out _ _ _ _ _ _); have KX5 := Aside0.mk (show wx.heap[g5]? = some (.cells #[.slice none 0 0] 24 (0, 0)) from by rw [hw_]; exact blk_far6 K5Y.out (blk_ne K5Y.out K4Y.out (by decide)) _ _ _ _ _ _); have HX := Aside0.mk (show Below w.heap.size w wx from by rw [hw_]; exact below_set6 HMY.out.below (Nat.le_of_lt G4.out) _ _ _ _ _ _); clear hw_ y0 y1 y2 y3 y4 y5 f0 f1 f2 f3 f4 f5 u0; have u0 : wx.cell? ⟨g5, 0, none⟩ = some (.slice none 0 0) := (blk_cell KX5.out 0).trans rfl; have v0 := blk_frozen KX5.out 0) | ((with_reducible refine gate_store (t := 24) (p := .tmp 5) (x := .const (.slice none 0 0)) rfl ?_); refine skip_event (W' := wx.setCell ⟨g5, 0, none⟩ (.slice none 0 0)) ?hn ?hs ?hr ?_; (case hn => rfl); (case hs => rfl); (case hr => first | (go_simp; done) | (go_simp; rfl)); intro wy hw_; have KY4 := Aside0.mk (show wy.heap[g4]? = some (.cells #[.int .i64 0, .slice none 0 0, .slice none 0 0, .slice none 0 0, .slice none 0 0, .slice none 0 0] 26 (0, 0)) from by rw [hw_]; exact blk_far KX4.out (p := ⟨g5, 0, none⟩) (blk_ne KX4.out KX5.out (by decide)) _); have KY5 := Aside0.mk (show wy.heap[g5]? = some (.cells #[.slice none 0 0] 24 (0, 0)) from by rw [hw_]; simpa using blk_set KX5.out 0 (.slice none 0 0)); have HY := Aside0.mk (show Below w.heap.size w wy from by rw [hw_]; exact HX.out.setCell (p := ⟨g5, 0, none⟩) G5.out _); clear hw_ u0 v0))
   refine bodyPost_ret (results43 _ wy g4 g5 #[.int .i64 0, .slice none 0 0, .slice none 0 0, .slice none 0 0, .slice none 0 0, .slice none 0 0] (.slice none 0 0) rfl KY4.out rfl rfl KY5.out) rfl ?_
   exact ⟨rfl, HY.out⟩
end Go.Proofs.Yteiiodlgdbiimaa.F
end
