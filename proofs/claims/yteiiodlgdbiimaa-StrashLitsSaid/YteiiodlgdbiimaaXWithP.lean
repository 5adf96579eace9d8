/- The plain side of strash.With, and what its walk keeps. -/
import Derived.Test.YteiiodlgdbiimaaXLits
namespace Go.Proofs.Yteiiodlgdbiimaa.F
open Go.RowKit Go.Shelf Go.Proofs.YteiiodlgdbiimaaW.PrintWords Go.Proofs.YteiiodlgdbiimaaW.PrintLast Go.Proofs.YteiiodlgdbiimaaW.PrintMore
set_option linter.unusedVariables false
set_option linter.unusedSimpArgs false

theorem idxG_lt {gs : List S68} {a b : Int} {j : Nat} (h : idxG gs a b = some j) : j < gs.length := by
  obtain ⟨⟨g, hg, _⟩, _⟩ := idxG_some gs j h
  exact (List.getElem?_eq_some_iff.1 hg).1
theorem gateP_ok {first : Int} {gs : List S68} {a b : Int} (hf : 0 ≤ first ∧ first ≤ 40000) (hl : gs.length ≤ 40000) (ha : 0 ≤ a ∧ a < 4294967296) (hb : 0 ≤ b ∧ b < 4294967296) :
    (0 ≤ (gateP first gs a b).1 ∧ (gateP first gs a b).1 < 4294967296) ∧ (gateP first gs a b).2.length ≤ gs.length + 1 := by
  have hHI : 0 ≤ mx a b ∧ mx a b < 4294967296 := by unfold mx; split <;> omega
  unfold gateP
  split
  · exact ⟨⟨by dsimp only; omega, by dsimp only; omega⟩, Nat.le_succ _⟩
  split
  · exact ⟨⟨by dsimp only; omega, by dsimp only; omega⟩, Nat.le_succ _⟩
  split
  · exact ⟨hHI, Nat.le_succ _⟩
  split
  · exact ⟨hHI, Nat.le_succ _⟩
  cases h : idxG gs (mx a b) (mn a b) with
  | some j =>
    have := idxG_lt h
    exact ⟨⟨by dsimp only; omega, by dsimp only; omega⟩, Nat.le_succ _⟩
  | none => exact ⟨⟨by dsimp only; omega, by dsimp only; omega⟩, by simp⟩
def stepW (first : Int) (l2 : List S68) (s : List Int × List S68) (v : Nat) (x : Int) : List Int × List S68 :=
  if x ≠ 2 then (s.1 ++ [x], s.2) else if (v : Int) < first then (s.1 ++ [2 * (v : Int)], s.2)
  else (s.1 ++ [(gateP first s.2 (litP s.1 (rd_T68 l2 ((v : Int) - first)).f0) (litP s.1 (rd_T68 l2 ((v : Int) - first)).f1)).1], (gateP first s.2 (litP s.1 (rd_T68 l2 ((v : Int) - first)).f0) (litP s.1 (rd_T68 l2 ((v : Int) - first)).f1)).2)
def runW (first : Int) (l2 : List S68) (is : List Int) : Nat → List Int × List S68
  | 0 => ([], [])
  | k + 1 => stepW first l2 (runW first l2 is k) k (rd is (k : Int))
theorem rd68_ok {l2 : List S68} (h : In68 l2) (i : Int) : (0 ≤ (rd_T68 l2 i).f0 ∧ (rd_T68 l2 i).f0 < 4294967296) ∧ (0 ≤ (rd_T68 l2 i).f1 ∧ (rd_T68 l2 i).f1 < 4294967296) := by
  unfold rd_T68
  rw [List.getD_eq_getElem?_getD]
  cases hg : l2[i.toNat]? with
  | none => exact ⟨⟨by decide, by decide⟩, ⟨by decide, by decide⟩⟩
  | some g => exact h g (List.mem_of_getElem? hg)
theorem rd_u8 {is : List Int} (h : InU8 is) (i : Int) : 0 ≤ rd is i ∧ rd is i < 256 := by
  unfold rd
  rw [List.getD_eq_getElem?_getD]
  cases hg : is[i.toNat]? with
  | none => exact ⟨by decide, by decide⟩
  | some g => exact h g (List.mem_of_getElem? hg)
theorem runW_ok {first : Int} {l2 : List S68} {is : List Int} (hf : 0 ≤ first ∧ first ≤ 40000) (h2 : In68 l2) (hi : InU8 is) : ∀ k : Nat, k ≤ 40000 → (runW first l2 is k).1.length = k ∧ (runW first l2 is k).2.length ≤ k ∧ InU32 (runW first l2 is k).1
  | 0, _ => ⟨rfl, Nat.le_refl _, fun x hx => by cases hx⟩
  | k + 1, hk => by
    obtain ⟨i1, i2, i3⟩ := runW_ok hf h2 hi k (by omega)
    have hx := rd_u8 hi (k : Int)
    unfold runW
    generalize runW first l2 is k = s at i1 i2 i3 ⊢
    unfold stepW
    have snoc : ∀ y : Int, 0 ≤ y → y < 4294967296 → InU32 (s.1 ++ [y]) := fun y h0 h1 z hz => by
      rcases List.mem_append.1 hz with hz | hz
      · exact i3 z hz
      · rw [List.mem_singleton.1 hz]
        exact ⟨h0, h1⟩
    split
    · exact ⟨by simp [i1], by simp; omega, snoc _ (by omega) (by omega)⟩
    · split
      · exact ⟨by simp [i1], by simp; omega, snoc _ (by omega) (by omega)⟩
      · have hg := rd68_ok h2 ((k : Int) - first)
        have hG := gateP_ok (gs := s.2) hf (by omega) (litP_u32 i3 hg.1.1 hg.1.2) (litP_u32 i3 hg.2.1 hg.2.2)
        exact ⟨by simp [i1], by dsimp only; omega, snoc _ hG.1.1 hG.1.2⟩
theorem MkSt.over {first : Int} {gs : List S68} {w0 : World} {gm mb : Nat} {W w1 : World} {v : Value} {xs : List Int} (h : MkSt first gs w0 gm mb W) (hR : Kd.R (Kd.int .u32) 39 W w0.heap.size (fun _ => True) v xs) (hB : Below w0.heap.size w0 w1) (hg : W.grownBy w1 v.ownBlock) : MkSt first gs w0 gm mb w1 := by
  obtain ⟨vg, hk, hq⟩ := h.st
  refine ⟨hB, h.gm0, h.mb0, h.ok, h.ap, blk_grown h.map hg (fun e => ?_), vg, blk_grown hk hg (Kd.R_ne hR hk (by decide)), Kd.R_over' hq (Kd.R_typed hR) (by decide) hg⟩
  obtain ⟨cs, hc⟩ := Kd.R_typed hR mb e.symm
  rw [h.map] at hc
  cases hc
theorem MkSt.set {first : Int} {gs : List S68} {w0 : World} {gm mb : Nat} {W : World} (h : MkSt first gs w0 gm mb W) {g t : Nat} {cells : Array Value} (hk : W.heap[g]? = some (.cells cells t (0, 0))) (h1 : t ≠ 123) (h2 : t ≠ 68) (hg : w0.heap.size ≤ g) (i : Nat) (u : Value) : MkSt first gs w0 gm mb (W.setCell ⟨g, i, none⟩ u) := by
  obtain ⟨vg, hb, hq⟩ := h.st
  refine ⟨h.below.setCell (p := ⟨g, i, none⟩) hg u, h.gm0, h.mb0, h.ok, h.ap, (Below.heap_setCell _ _ _ mb (fun e => ?_)).trans h.map, vg, blk_far hb (p := ⟨g, i, none⟩) (blk_ne hb hk (fun e => h1 e.symm)) u, ?_⟩
  · have e' : mb = g := e
    rw [← e', h.map] at hk
    cases hk
  · refine Kd.R_set hq hk ?_ i u
    intro q hq'
    have : q = 68 := by simpa [k68, Kd.iso, Kd.pair, Kd.int, Kd.scalar] using hq'
    rw [this]
    exact fun e => h2 e.symm
structure WiSt (a0 : Int) (A1 : Option Addr) (c1 : Nat) (l1 : List S41) (A2 : Option Addr) (c2 : Nat) (l2 : List S68) (A3 : Option Addr) (c3 : Nat) (l3 : List Int) (A4 : Option Addr) (c4 : Nat) (l4 : List Int) (A5 : Option Addr) (c5 : Nat) (l5 : List Int) (w0 : World) (g4 g5 gm mb : Nat) (first : Int) (tl : List Int) (gs : List S68) (W : World) : Prop where
  mkr : MkSt first gs w0 gm mb W
  k2 : W.heap[w0.heap.size]? = some (.cells #[.int .i64 a0, .slice A1 l1.length c1, .slice A2 l2.length c2, .slice A3 l3.length c3, .slice A4 l4.length c4, .slice A5 l5.length c5] 26 (0, 0))
  k4 : W.heap[g4]? = some (.cells #[.int .i64 0, .slice none 0 0, .slice none 0 0, .slice none 0 0, .slice none 0 0, .slice none 0 0] 26 (0, 0))
  h4 : w0.heap.size < g4
  h5 : w0.heap.size ≤ g5
  k5 : ∃ vt, W.heap[g5]? = some (.cells #[vt] 24 (0, 0)) ∧ Kd.R (Kd.int .u32) 39 W w0.heap.size (fun _ => True) vt tl
section
variable {a0 : Int} {A1 : Option Addr} {c1 : Nat} {l1 : List S41} {A2 : Option Addr} {c2 : Nat} {l2 : List S68} {A3 : Option Addr} {c3 : Nat} {l3 : List Int} {A4 : Option Addr} {c4 : Nat} {l4 : List Int} {A5 : Option Addr} {c5 : Nat} {l5 : List Int} {w0 : World} {g4 g5 gm mb : Nat} {first : Int} {tl : List Int} {gs : List S68} {W W' : World}
theorem WiSt.step (h : WiSt a0 A1 c1 l1 A2 c2 l2 A3 c3 l3 A4 c4 l4 A5 c5 l5 w0 g4 g5 gm mb first tl gs W) (hb : Below W.heap.size W W') : WiSt a0 A1 c1 l1 A2 c2 l2 A3 c3 l3 A4 c4 l4 A5 c5 l5 w0 g4 g5 gm mb first tl gs W' := by
  obtain ⟨vt, k, r⟩ := h.k5
  exact ⟨h.mkr.step hb, blk_below h.k2 hb, blk_below h.k4 hb, h.h4, h.h5, vt, blk_below k hb, Kd.R_below r hb⟩
theorem WiSt.gated (h : WiSt a0 A1 c1 l1 A2 c2 l2 A3 c3 l3 A4 c4 l4 A5 c5 l5 w0 g4 g5 gm mb first tl gs W) {gs' : List S68} (hm : MkSt first gs' w0 gm mb W') (ho : OthersG W W') : WiSt a0 A1 c1 l1 A2 c2 l2 A3 c3 l3 A4 c4 l4 A5 c5 l5 w0 g4 g5 gm mb first tl gs' W' := by
  obtain ⟨vt, k, r⟩ := h.k5
  exact ⟨hm, ho _ _ _ h.k2 (by decide) (by decide), ho _ _ _ h.k4 (by decide) (by decide), h.h4, h.h5, vt, ho _ _ _ k (by decide) (by decide), R_othersG r ho⟩
/-- behind an append tl what the variables became, and its store -/
theorem WiSt.appended (h : WiSt a0 A1 c1 l1 A2 c2 l2 A3 c3 l3 A4 c4 l4 A5 c5 l5 w0 g4 g5 gm mb first tl gs W) {vt v1 : Value} {w1 : World} {x : Int} (hk : W.heap[g5]? = some (.cells #[vt] 24 (0, 0))) (hr : Kd.R (Kd.int .u32) 39 W w0.heap.size (fun _ => True) vt tl)
    (hR : Kd.R (Kd.int .u32) 39 w1 w0.heap.size (fun _ => True) v1 (tl ++ [x])) (hB : Below w0.heap.size w0 w1) (hg : W.grownBy w1 vt.ownBlock) :
    WiSt a0 A1 c1 l1 A2 c2 l2 A3 c3 l3 A4 c4 l4 A5 c5 l5 w0 g4 g5 gm mb first (tl ++ [x]) gs (w1.setCell ⟨g5, 0, none⟩ v1) ∧ w1.heap[g5]? = some (.cells #[vt] 24 (0, 0)) := by
  have k5 := blk_grown hk hg (Kd.R_ne hr hk (by decide))
  have k2 := blk_grown h.k2 hg (Kd.R_ne hr h.k2 (by decide))
  have k4 := blk_grown h.k4 hg (Kd.R_ne hr h.k4 (by decide))
  exact ⟨⟨(h.mkr.over hr hB hg).set k5 (by decide) (by decide) h.h5 0 v1, blk_far k2 (p := ⟨g5, 0, none⟩) (blk_ne k2 k5 (by decide)) v1, blk_far k4 (p := ⟨g5, 0, none⟩) (blk_ne k4 k5 (by decide)) v1, h.h4, h.h5, v1, by simpa using blk_set k5 0 v1, Kd.R_set hR k5 (by decide) 0 v1⟩, k5⟩
end
def withOk (a0 : Int) (l1 : List S41) (l2 : List S68) (l3 l4 l5 is : List Int) : Prop := mayB a0 l1 l2 l3 l4 l5 = true ∧ (is.length : Int) = a0 + (l1.length : Int) + (l2.length : Int) + 1 ∧ rd is 0 = 0 ∧ is.all (fun x => decide (x ≤ 2)) = true
instance (a0 : Int) (l1 : List S41) (l2 : List S68) (l3 l4 l5 is : List Int) : Decidable (withOk a0 l1 l2 l3 l4 l5 is) := by unfold withOk; infer_instance
def u8s (l : List Int) : Bool := l.all fun x => decide (0 ≤ x) && decide (x < 256)
/-- what the variables became, and the gates -/
def wasW (a0 : Int) (l1 : List S41) (l2 : List S68) (is : List Int) : List Int × List S68 := runW (1 + a0 + (l1.length : Int)) l2 is is.length
def strash_With.f (a0_0 : Int) (l0_1 : List (S41)) (l0_2 : List (S68)) (l0_3 : List Int) (l0_4 : List Int) (l0_5 : List Int) (l1 : List Int) : Option (Int × (List (S41)) × (List (S68)) × List Int × List Int × List Int × List Int × Int) :=
  if okIn l0_1 l0_2 = true ∧ u32s l0_3 = true ∧ u32s l0_4 = true ∧ u32s l0_5 = true ∧ u8s l1 = true ∧ u8s (l0_1.map (·.f1)) = true then
    if withOk a0_0 l0_1 l0_2 l0_3 l0_4 l0_5 l1 then some (a0_0, l0_1.map (fun g => ⟨litP (wasW a0_0 l0_1 l0_2 l1).1 g.f0, g.f1⟩), (wasW a0_0 l0_1 l0_2 l1).2, l0_3.map (litP (wasW a0_0 l0_1 l0_2 l1).1), l0_4.map (litP (wasW a0_0 l0_1 l0_2 l1).1), l0_5.map (litP (wasW a0_0 l0_1 l0_2 l1).1), (wasW a0_0 l0_1 l0_2 l1).1, 0)
    else some (0, [], [], [], [], [], [], 2)
  else none
end Go.Proofs.Yteiiodlgdbiimaa.F
