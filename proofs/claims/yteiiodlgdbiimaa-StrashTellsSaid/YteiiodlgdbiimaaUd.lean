/- What the proof of the law StrashTells needs, part 4: the walks of the functions that it reaches, and the plain words on what these compute. -/
import Derived.Below
import Derived.ChangeOld
import Derived.ChangeSame
import Derived.Deep.Fields
import Derived.Deep.Slices
import Derived.Lib.SmallJoins
import Derived.OpenShut
import Derived.ProofKit
import Derived.SizedLaws
import Derived.WalkKit
import Derived.Test.YteiiodlgdbiimaaUc
section
namespace Go.Proofs.Yteiiodlgdbiimaa.F
open Go.RowKit Go.Shelf Go.ChangeMaps Go.MapKept Go.Proofs.YteiiodlgdbiimaaW.PrintWords Go.Proofs.YteiiodlgdbiimaaW.PrintLast Go.Proofs.YteiiodlgdbiimaaW.PrintMore
set_option linter.unusedVariables false
set_option linter.unusedSimpArgs false
attribute [local go_sem] max2_int min2_int max_two min_two max_three min_three max_four min_four
def OthersG (W W' : World) : Prop := ∀ (b : Nat) (cs : Array Value) (t : TypeId), W.heap[b]? = some (.cells cs t (0, 0)) → t ≠ 123 → t ≠ 68 → W'.heap[b]? = some (.cells cs t (0, 0))
theorem OthersG.refl (W : World) : OthersG W W := fun _ _ _ h _ _ => h
theorem OthersG.trans {W W1 W2 : World} (h : OthersG W W1) (k : OthersG W1 W2) : OthersG W W2 := fun b cs t hb h1 h2 => k b cs t (h b cs t hb h1 h2) h1 h2
theorem OthersG.below {W W1 : World} (h : Below W.heap.size W W1) : OthersG W W1 := fun b cs t hb _ _ => blk_below hb h
theorem R_othersG {W W' : World} {base : Nat} {v : Value} {xs : List Int} (h : Kd.R (Kd.int .u32) 39 W base (fun _ => True) v xs) (ho : OthersG W W') : Kd.R (Kd.int .u32) 39 W' base (fun _ => True) v xs :=
  Kd.R_mono (Kd.R_move (Kd.R_tight rfl h) (fun k hk => by
    obtain ⟨cs, hc⟩ := Kd.R_typed h k hk.symm
    rw [hc]
    exact ho k cs 39 hc (by decide) (by decide))) (fun _ _ => trivial)
def Keeps68 (first : Int) (gm mb : Nat) (W W' : World) : Prop := ∀ (b : Nat) (cs : Array Value), W.heap[b]? = some (.cells cs 68 (0, 0)) → (∀ vg, W.heap[gm]? = some (.cells #[.int .u32 first, vg, .map (some mb)] 123 (0, 0)) → some b ≠ vg.ownBlock) → W'.heap[b]? = some (.cells cs 68 (0, 0))
structure MkSt (first : Int) (gs : List S68) (w0 : World) (gm mb : Nat) (W : World) : Prop where
  below : Below w0.heap.size w0 W
  gm0 : w0.heap.size ≤ gm
  mb0 : w0.heap.size ≤ mb
  ok : ∀ g ∈ gs, Gate32 g
  ap : Apart68 gs
  map : W.heap[mb]? = some (.map (entG first gs).toArray gs.length)
  st : ∃ vg, W.heap[gm]? = some (.cells #[.int .u32 first, vg, .map (some mb)] 123 (0, 0)) ∧ Kd.R k68 68 W w0.heap.size (fun _ => True) vg gs
theorem MkSt.step {first : Int} {gs : List S68} {w0 : World} {gm mb : Nat} {W W' : World} (h : MkSt first gs w0 gm mb W) (hb : Below W.heap.size W W') : MkSt first gs w0 gm mb W' := by
  obtain ⟨vg, hk, hq⟩ := h.st
  exact ⟨below_step h.below hb, h.gm0, h.mb0, h.ok, h.ap, blk_below h.map hb, vg, blk_below hk hb, Kd.R_below hq hb⟩
theorem setBlock_grown {w : World} {b : Nat} {es : Array MapEntry} {k : Nat} {o' : Obj} (h : w.heap[b]? = some (.map es k)) : w.grownBy (setBlock w b o') (some b) := ⟨rfl, rfl, rfl, by simp [setBlock], fun i _ hi => heap_setBlock_other h _ (fun e => hi (by rw [e]))⟩
theorem Apart68.snoc {gs : List S68} (h : Apart68 gs) {a b : Int} (hn : ∀ g ∈ gs, ¬ (g.f0 = a ∧ g.f1 = b)) : Apart68 (gs ++ [⟨a, b⟩]) := by
  intro i j g k hg hk e0 e1
  by_cases hi : i < gs.length <;> by_cases hj : j < gs.length
  · rw [List.getElem?_append_left hi] at hg
    rw [List.getElem?_append_left hj] at hk
    exact h i j g k hg hk e0 e1
  · rw [List.getElem?_append_left hi] at hg
    have hj2 : j = gs.length := by have := (List.getElem?_eq_some_iff.1 hk).1; simp at this; omega
    subst hj2
    simp at hk
    subst hk
    exact absurd ⟨e0, e1⟩ (hn g (List.mem_of_getElem? hg))
  · rw [List.getElem?_append_left hj] at hk
    have hi2 : i = gs.length := by have := (List.getElem?_eq_some_iff.1 hg).1; simp at this; omega
    subst hi2
    simp at hg
    subst hg
    exact absurd ⟨e0.symm, e1.symm⟩ (hn k (List.mem_of_getElem? hk))
  · have hi2 := (List.getElem?_eq_some_iff.1 hg).1
    have hj2 := (List.getElem?_eq_some_iff.1 hk).1
    simp at hi2 hj2
    omega
theorem MkSt.added {first : Int} {gs : List S68} {w0 : World} {gm mb : Nat} {W w1 : World} {vg v1 : Value} {a b : Int} (h : MkSt first gs w0 gm mb W) (hk : W.heap[gm]? = some (.cells #[.int .u32 first, vg, .map (some mb)] 123 (0, 0))) (hq : Kd.R k68 68 W w0.heap.size (fun _ => True) vg gs)
    (hn : ∀ g ∈ gs, ¬ (g.f0 = a ∧ g.f1 = b)) (ha : 0 ≤ a ∧ a < 4294967296) (hb : 0 ≤ b ∧ b < 4294967296)
    (hR : Kd.R k68 68 w1 w0.heap.size (fun _ => True) v1 (gs ++ [⟨a, b⟩])) (hB : Below w0.heap.size w0 w1) (hg : W.grownBy w1 vg.ownBlock) (es1 es2 : Array MapEntry) (k1 k2 : Nat) (hm2 : es2 = (entG first (gs ++ [⟨a, b⟩])).toArray ∧ k2 = (gs ++ [(⟨a, b⟩ : S68)]).length) :
    MkSt first (gs ++ [⟨a, b⟩]) w0 gm mb ((setBlock (setBlock w1 mb (.map es1 k1)) mb (.map es2 k2)).setCell ⟨gm, 1, none⟩ v1) ∧ OthersG W ((setBlock (setBlock w1 mb (.map es1 k1)) mb (.map es2 k2)).setCell ⟨gm, 1, none⟩ v1) ∧ w1.heap[gm]? = some (.cells #[.int .u32 first, vg, .map (some mb)] 123 (0, 0)) ∧ w1.heap[mb]? = some (.map (entG first gs).toArray gs.length)
      ∧ (setBlock (setBlock w1 mb (.map es1 k1)) mb (.map es2 k2)).heap[gm]? = some (.cells #[.int .u32 first, vg, .map (some mb)] 123 (0, 0))
      ∧ (∀ (b' : Nat) (cs : Array Value), W.heap[b']? = some (.cells cs 68 (0, 0)) → some b' ≠ vg.ownBlock → ((setBlock (setBlock w1 mb (.map es1 k1)) mb (.map es2 k2)).setCell ⟨gm, 1, none⟩ v1).heap[b']? = some (.cells cs 68 (0, 0))) := by
  have hk1 := blk_grown hk hg (Kd.R_ne hq hk (by decide))
  have hm1 : w1.heap[mb]? = some (.map (entG first gs).toArray gs.length) := blk_grown h.map hg (fun e => by
    obtain ⟨cs, hc⟩ := Kd.R_typed hq mb e.symm
    rw [h.map] at hc
    cases hc)
  have hne : gm ≠ mb := fun e => by rw [e, hm1] at hk1; cases hk1
  have g1 := setBlock_grown (o' := .map es1 k1) hm1
  have hm2' : (setBlock w1 mb (.map es1 k1)).heap[mb]? = some (.map es1 k1) := heap_setBlock_same hm1 _
  have g2 := setBlock_grown (o' := .map es2 k2) hm2'
  have hm3 : (setBlock (setBlock w1 mb (.map es1 k1)) mb (.map es2 k2)).heap[mb]? = some (.map es2 k2) := heap_setBlock_same hm2' _
  have hx : ∀ (k : Nat) (cs : Array Value) (t : TypeId), w1.heap[k]? = some (.cells cs t (0, 0)) → (setBlock (setBlock w1 mb (.map es1 k1)) mb (.map es2 k2)).heap[k]? = some (.cells cs t (0, 0)) := fun k cs t hc => by
    have hkm : k ≠ mb := fun e => by rw [e, hm1] at hc; cases hc
    exact (heap_setBlock_other hm2' _ hkm).trans ((heap_setBlock_other hm1 _ hkm).trans hc)
  have hB2 : Below w0.heap.size w0 (setBlock (setBlock w1 mb (.map es1 k1)) mb (.map es2 k2)) := (hB.grown g1 hB.size (fun r e => by cases e; exact h.mb0)).grown g2 (Nat.le_trans hB.size g1.size) (fun r e => by cases e; exact h.mb0)
  have hR2 : Kd.R k68 68 (setBlock (setBlock w1 mb (.map es1 k1)) mb (.map es2 k2)) w0.heap.size (fun _ => True) v1 (gs ++ [⟨a, b⟩]) := Kd.R_mono (Kd.R_move (Kd.R_bound hR) (fun k hk => by
    obtain ⟨_, _, _, q, _, cells, hc⟩ := hk
    rw [hc]
    exact hx k cells q hc)) (fun _ _ => trivial)
  have hk3 := hx gm _ _ hk1
  refine ⟨⟨hB2.setCell (p := ⟨gm, 1, none⟩) h.gm0 v1, h.gm0, h.mb0, fun g hg => ?_, h.ap.snoc hn, ?_, v1, by simpa using blk_set hk3 1 v1, Kd.R_set hR2 hk3 (by decide) 1 v1⟩, fun b' cs t hb' h1 h2 => ?_, hk1, hm1, hk3, fun b' cs hb' hne' => ?_⟩
  · rcases List.mem_append.1 hg with hg | hg
    · exact h.ok g hg
    · rw [List.mem_singleton.1 hg]
      exact ⟨ha, hb⟩
  · rw [Below.heap_setCell _ _ _ mb (fun e => hne e.symm), hm3, hm2.1, hm2.2]
  · have e1 := blk_grown hb' hg (Kd.R_ne hq hb' (fun e => h2 e.symm))
    have e2 := hx b' cs t e1
    exact blk_far e2 (p := ⟨gm, 1, none⟩) (blk_ne e2 hk3 h1) v1
  · have e2 := hx b' cs 68 (blk_grown hb' hg hne')
    exact blk_far e2 (p := ⟨gm, 1, none⟩) (blk_ne e2 hk3 (by decide)) v1
def gateP (first : Int) (gs : List S68) (a b : Int) : Int × List S68 :=
  if mn a b = 0 then (0, gs) else if mx a b = Go.bits .xor .u32 (mn a b) 1 then (0, gs) else if mn a b = 1 then (mx a b, gs) else if mx a b = mn a b then (mx a b, gs)
  else match idxG gs (mx a b) (mn a b) with
    | some j => (2 * (first + (j : Int)), gs)
    | none => (2 * (first + (gs.length : Int)), gs ++ [⟨mx a b, mn a b⟩])
set_option maxHeartbeats 8000000 in
set_option maxRecDepth 100000 in
theorem gate103 (first : Int) (gs : List S68) (w0 : World) (gm mb : Nat) (w : World) (a b : Int) (hf : 0 ≤ first ∧ first ≤ 40000) (hl : gs.length ≤ 40000) (ha : 0 ≤ a ∧ a < 4294967296) (hb : 0 ≤ b ∧ b < 4294967296) (h : MkSt first gs w0 gm mb w) :
  Calls Try.prog 103 #[.pointer (some ⟨gm, 0, none⟩), .int .u32 a, .int .u32 b] w fun e w' => e = .returned (.int .u32 (gateP first gs a b).1) ∧ MkSt first (gateP first gs a b).2 w0 gm mb w' ∧ OthersG w w' ∧ Keeps68 first gm mb w w' := by
 have H := Aside0.mk h
 have hu68 := Try.underlying68
 have hu123 := Try.underlying123
 have hHI : 0 ≤ mx a b ∧ mx a b < 4294967296 := by unfold mx; split <;> omega
 have hLO : 0 ≤ mn a b ∧ mn a b < 4294967296 := by unfold mn; split <;> omega
 unfold gateP
 obtain ⟨hi, hhi⟩ : ∃ hi, mx a b = hi := ⟨_, rfl⟩
 obtain ⟨lo, hlo⟩ : ∃ lo, mn a b = lo := ⟨_, rfl⟩
 rw [hhi] at hHI
 rw [hlo] at hLO
 rw [hhi, hlo]
 have hhi_ : (if a < b then b else a) = hi := hhi
 have hlo_ : (if b < a then b else a) = lo := hlo
 have HHI := Aside0.mk hHI
 have HLO := Aside0.mk hLO
 have HFB := Aside0.mk hf
 have HGL := Aside0.mk hl
 clear hHI hLO ha hb hf hl
 by_cases c0 : lo = 0
 ·
  rw [if_pos c0]
  subst c0
  clear h
  go_enter Try.func103, Try.ntmps103
  go_wp2
  go_ret
  exact ⟨rfl, H.out, OthersG.refl _, fun _ _ h _ => h⟩
 rw [if_neg c0]
 have d0 : (lo == 0) = false := beq_eq_false_iff_ne.mpr c0
 by_cases c1 : hi = Go.bits .xor .u32 lo 1
 ·
  rw [if_pos c1]
  have d1 : (hi == Go.bits .xor .u32 lo 1) = true := beq_iff_eq.mpr c1
  clear c1 c0 h
  go_enter Try.func103, Try.ntmps103
  go_wp2
  go_ret
  exact ⟨rfl, H.out, OthersG.refl _, fun _ _ h _ => h⟩
 rw [if_neg c1]
 have d1 : (hi == Go.bits .xor .u32 lo 1) = false := beq_eq_false_iff_ne.mpr c1
 by_cases c2 : lo = 1
 ·
  rw [if_pos c2]
  have d2 : (lo == 1) = true := beq_iff_eq.mpr c2
  clear c2 c1 c0 h
  go_enter Try.func103, Try.ntmps103
  go_wp2
  go_ret
  exact ⟨rfl, H.out, OthersG.refl _, fun _ _ h _ => h⟩
 rw [if_neg c2]
 have d2 : (lo == 1) = false := beq_eq_false_iff_ne.mpr c2
 by_cases c3 : hi = lo
 ·
  rw [if_pos c3]
  have d3 : (hi == lo) = true := beq_iff_eq.mpr c3
  clear c3 c2 c1 c0 h
  go_enter Try.func103, Try.ntmps103
  go_wp2
  go_ret
  exact ⟨rfl, H.out, OthersG.refl _, fun _ _ h _ => h⟩
 rw [if_neg c3]
 have d3 : (hi == lo) = false := beq_eq_false_iff_ne.mpr c3
 clear c3 c2 c1 c0
 obtain ⟨vg, hk, hq⟩ := h.st
 obtain ⟨Ag, cg, rfl⟩ := Kd.R_slice hq
 have HQ0 := Aside0.mk hq
 have HK0 := Aside0.mk hk
 clear h hk hq
 cases hx : idxG gs hi lo with
 | some j =>
  obtain ⟨⟨g, hj, e0, e1⟩, _⟩ := idxG_some gs j hx
  have HJ := Aside0.mk (And.intro hj (And.intro e0 e1))
  clear hx hj e0 e1
  go_enter Try.func103, Try.ntmps103
  go_wp2_with (first | ((with_reducible refine gate_dst (N := 7) rfl ?_); refine box_event ?hg (N := 7) ?hd (cs := #[.int .u32 0, .int .u32 0]) (t := 68) ?hr ?_; (case hd => rfl); (case hg => rfl); (case hr => first | (go_simp; done) | (go_simp; rfl)); intro g7 hg_ wa_ bk_ hb_; have GE_ := Aside0.mk (Nat.le_of_eq hg_.symm); clear hg_; have HB_ := Aside0.mk hb_; have BK_ := Aside0.mk bk_; have qa_ : wa_.cell? ⟨g7, 0, none⟩ = some (.int .u32 0) := (blk_cell bk_ 0).trans rfl; have qb_ : wa_.cell? ⟨g7, 1, none⟩ = some (.int .u32 0) := (blk_cell bk_ 1).trans rfl; have fa_ := blk_frozen bk_ 0; have fb_ := blk_frozen bk_ 1; clear hb_ bk_) | ((with_reducible refine gate_store (t := 68) (p := .tmp 7) (x := .tmp 32) rfl ?_); refine skip_event (W' := (wa_.setCell ⟨g7, 0, none⟩ (.int .u32 hi)).setCell ⟨g7, 1, none⟩ (.int .u32 lo)) ?hn ?hs ?hr ?_; (case hn => rfl); (case hs => rfl); (case hr => first | (go_simp; done) | (go_simp; rfl)); intro w8 hw_; have BK8 := Aside0.mk (show w8.heap[g7]? = some (.cells #[.int .u32 hi, .int .u32 lo] 68 (0, 0)) from by rw [hw_]; exact blk_set2 BK_.out _ _); have HB8 := Aside0.mk (show Below w.heap.size w w8 from by rw [hw_]; exact below_set2 HB_.out GE_.out _ _); have GE7 := GE_; clear hw_ qa_ qb_ fa_ fb_ BK_ HB_ GE_; have qg7_0 : w8.cell? ⟨g7, 0, none⟩ = some (.int .u32 hi) := (blk_cell BK8.out 0).trans rfl; have qg7_1 : w8.cell? ⟨g7, 1, none⟩ = some (.int .u32 lo) := (blk_cell BK8.out 1).trans rfl; skip))
  have HM8 := Aside0.mk (H.out.step HB8.out)
  have KM8 := Aside0.mk (blk_below HK0.out HB8.out)
  have HO8 := Aside0.mk (OthersG.below HB8.out)
  refine start_ (n := 11) (S := fun w' => w'.cell? ⟨gm, 2, none⟩ = some (.map (some mb)) ∧ w'.cell? ⟨g7, 0, none⟩ = some (.int .u32 hi) ∧ w'.cell? ⟨g7, 1, none⟩ = some (.int .u32 lo) ∧ (Instr.lookup 121 (.map (some mb)) (.agg #[.int .u32 hi, .int .u32 lo]) true).run Try.prog w' = .ok (.tuple #[.int .u32 (2 * (first + (j : Int))), .bool true]) w') (ds := []) #[false, false, false, false, false, false, false, false, false, false, false] (by kernel_rfl) rfl rfl ⟨(blk_cell KM8.out 2).trans rfl, (blk_cell BK8.out 0).trans rfl, (blk_cell BK8.out 1).trans rfl, lookG_some (w := w8.drew) HM8.out.map HM8.out.ok HM8.out.ap HHI.out HLO.out HJ.out.1 HJ.out.2.1 HJ.out.2.2⟩ (fun hHeld => ?_)
  have HM9 := Aside0.mk (HM8.out.step (W' := w8.drew) (below_drew1 (Below.refl _ _)))
  have HO9 := Aside0.mk (HO8.out.trans (OthersG.below (W1 := w8.drew) (below_drew1 (Below.refl _ _))))
  have HS9 := Aside0.mk (show Keeps68 first gm mb w w8.drew from fun b cs h _ => blk_drew (blk_below h HB8.out))
  have HW9 := Aside0.mk (show ∀ (b : Nat) (cs : Array Value), w.heap[b]? = some (.cells cs 68 (0, 0)) → w8.drew.heap[b]? = some (.cells cs 68 (0, 0)) from fun b cs h => blk_drew (blk_below h HB8.out))
  have HG0 := HK0
  clear HM8 KM8 HO8 BK8 HB8 qg7_0 qg7_1 HK0 HQ0
  generalize w8.drew = w9 at HM9 HO9 HS9 HW9 hHeld ⊢
  refine pure_ (i := 0) (N := some 34) (v := ?_) (a' := ?_) #[true, false, false, false, false, false, false, false, false, false, false] rfl rfl (by kernel_rfl) (fun _ _ _ h => h) (Or.inl ⟨by rfl, ?_⟩) ?_ ?_
  rotate_left
  ·
   intro w'
   go_simp
   with_reducible rfl
  rotate_left
  ·
   simp only [Act.put, List.setIfInBounds_toArray, List.set_cons_zero, List.set_cons_succ]
   rfl
  refine pure_ (i := 1) (N := some 35) (v := ?_) (a' := ?_) #[true, true, false, false, false, false, false, false, false, false, false] rfl rfl (by kernel_rfl) (fun _ _ _ h => h) (Or.inl ⟨by rfl, ?_⟩) ?_ ?_
  rotate_left
  ·
   intro w'
   go_simp
   with_reducible rfl
  rotate_left
  ·
   simp only [Act.put, List.setIfInBounds_toArray, List.set_cons_zero, List.set_cons_succ]
   rfl
  refine pure_ (i := 2) (N := some 36) (v := ?_) (a' := ?_) #[true, true, true, false, false, false, false, false, false, false, false] rfl rfl (by kernel_rfl) (fun _ _ _ h => h) (Or.inl ⟨by rfl, ?_⟩) ?_ ?_
  rotate_left
  ·
   intro w'
   go_simp
   with_reducible rfl
  rotate_left
  ·
   simp only [Act.put, List.setIfInBounds_toArray, List.set_cons_zero, List.set_cons_succ]
   rfl
  refine take_ (i := 3) (N := some 37) (v := ?_) (a' := ?_) #[true, true, true, true, false, false, false, false, false, false, false] rfl rfl (by kernel_rfl) (fun _ _ _ h => h) (Or.inl ⟨by rfl, ?_⟩) hHeld ?_ ?_
  rotate_left
  ·
   rintro w' ⟨s0, s1, s2, s3⟩
   go_simp
   with_reducible rfl
  rotate_left
  ·
   simp only [Act.put, List.setIfInBounds_toArray, List.set_cons_zero, List.set_cons_succ]
   rfl
  refine take_ (i := 4) (N := some 38) (v := ?_) (a' := ?_) #[true, true, true, true, true, false, false, false, false, false, false] rfl rfl (by kernel_rfl) (fun _ _ _ h => h) (Or.inl ⟨by rfl, ?_⟩) hHeld ?_ ?_
  rotate_left
  ·
   rintro w' ⟨s0, s1, s2, s3⟩
   go_simp
   with_reducible rfl
  rotate_left
  ·
   simp only [Act.put, List.setIfInBounds_toArray, List.set_cons_zero, List.set_cons_succ]
   rfl
  refine take_ (i := 5) (N := some 39) (v := ?_) (a' := ?_) #[true, true, true, true, true, true, false, false, false, false, false] rfl rfl (by kernel_rfl) (fun _ _ _ h => h) (Or.inl ⟨by rfl, ?_⟩) hHeld ?_ ?_
  rotate_left
  ·
   rintro w' ⟨s0, s1, s2, s3⟩
   go_simp
   with_reducible rfl
  rotate_left
  ·
   simp only [Act.put, List.setIfInBounds_toArray, List.set_cons_zero, List.set_cons_succ]
   rfl
  refine pure_ (i := 6) (N := some 33) (v := ?_) (a' := ?_) #[true, true, true, true, true, true, true, false, false, false, false] rfl rfl (by kernel_rfl) (fun _ _ _ h => h) (Or.inl ⟨by rfl, ?_⟩) ?_ ?_
  rotate_left
  ·
   intro w'
   go_simp
   with_reducible rfl
  rotate_left
  ·
   simp only [Act.put, List.setIfInBounds_toArray, List.set_cons_zero, List.set_cons_succ]
   rfl
  refine pure_ (i := 7) (N := some 40) (v := ?_) (a' := ?_) #[true, true, true, true, true, true, true, true, false, false, false] rfl rfl (by kernel_rfl) (fun _ _ _ h => h) (Or.inl ⟨by rfl, ?_⟩) ?_ ?_
  rotate_left
  ·
   intro w'
   go_simp
   with_reducible rfl
  rotate_left
  ·
   simp only [Act.put, List.setIfInBounds_toArray, List.set_cons_zero, List.set_cons_succ]
   rfl
  refine pure_ (i := 8) (N := some 41) (v := ?_) (a' := ?_) #[true, true, true, true, true, true, true, true, true, false, false] rfl rfl (by kernel_rfl) (fun _ _ _ h => h) (Or.inl ⟨by rfl, ?_⟩) ?_ ?_
  rotate_left
  ·
   intro w'
   go_simp
   with_reducible rfl
  rotate_left
  ·
   simp only [Act.put, List.setIfInBounds_toArray, List.set_cons_zero, List.set_cons_succ]
   rfl
  refine pure_ (i := 9) (N := some 8) (v := ?_) (a' := ?_) #[true, true, true, true, true, true, true, true, true, true, false] rfl rfl (by kernel_rfl) (fun _ _ _ h => h) (Or.inl ⟨by rfl, ?_⟩) ?_ ?_
  rotate_left
  ·
   intro w'
   go_simp
   with_reducible rfl
  rotate_left
  ·
   simp only [Act.put, List.setIfInBounds_toArray, List.set_cons_zero, List.set_cons_succ]
   rfl
  refine pure_ (i := 10) (N := some 9) (v := ?_) (a' := ?_) #[true, true, true, true, true, true, true, true, true, true, true] rfl rfl (by kernel_rfl) (fun _ _ _ h => h) (Or.inl ⟨by rfl, ?_⟩) ?_ ?_
  rotate_left
  ·
   intro w'
   go_simp
   with_reducible rfl
  rotate_left
  ·
   simp only [Act.put, List.setIfInBounds_toArray, List.set_cons_zero, List.set_cons_succ]
   rfl
  refine done_ (by kernel_rfl) ?_
  clear hHeld
  go_wp2
  go_ret
  exact ⟨rfl, HM9.out, HO9.out, HS9.out⟩
 | none =>
  have HNO := Aside0.mk (idxG_none gs hx)
  clear hx
  go_enter Try.func103, Try.ntmps103
  go_wp2_with (first | ((with_reducible refine gate_dst (N := 7) rfl ?_); refine box_event ?hg (N := 7) ?hd (cs := #[.int .u32 0, .int .u32 0]) (t := 68) ?hr ?_; (case hd => rfl); (case hg => rfl); (case hr => first | (go_simp; done) | (go_simp; rfl)); intro g7 hg_ wa_ bk_ hb_; have GE_ := Aside0.mk (Nat.le_of_eq hg_.symm); clear hg_; have HB_ := Aside0.mk hb_; have BK_ := Aside0.mk bk_; have qa_ : wa_.cell? ⟨g7, 0, none⟩ = some (.int .u32 0) := (blk_cell bk_ 0).trans rfl; have qb_ : wa_.cell? ⟨g7, 1, none⟩ = some (.int .u32 0) := (blk_cell bk_ 1).trans rfl; have fa_ := blk_frozen bk_ 0; have fb_ := blk_frozen bk_ 1; clear hb_ bk_) | ((with_reducible refine gate_store (t := 68) (p := .tmp 7) (x := .tmp 32) rfl ?_); refine skip_event (W' := (wa_.setCell ⟨g7, 0, none⟩ (.int .u32 hi)).setCell ⟨g7, 1, none⟩ (.int .u32 lo)) ?hn ?hs ?hr ?_; (case hn => rfl); (case hs => rfl); (case hr => first | (go_simp; done) | (go_simp; rfl)); intro w8 hw_; have BK8 := Aside0.mk (show w8.heap[g7]? = some (.cells #[.int .u32 hi, .int .u32 lo] 68 (0, 0)) from by rw [hw_]; exact blk_set2 BK_.out _ _); have HB8 := Aside0.mk (show Below w.heap.size w w8 from by rw [hw_]; exact below_set2 HB_.out GE_.out _ _); have GE7 := GE_; clear hw_ qa_ qb_ fa_ fb_ BK_ HB_ GE_; have qg7_0 : w8.cell? ⟨g7, 0, none⟩ = some (.int .u32 hi) := (blk_cell BK8.out 0).trans rfl; have qg7_1 : w8.cell? ⟨g7, 1, none⟩ = some (.int .u32 lo) := (blk_cell BK8.out 1).trans rfl; skip))
  have HM8 := Aside0.mk (H.out.step HB8.out)
  have KM8 := Aside0.mk (blk_below HK0.out HB8.out)
  have HO8 := Aside0.mk (OthersG.below HB8.out)
  have HQ8 := Aside0.mk (Kd.R_below HQ0.out HB8.out)
  have HG7 := Aside0.mk (show some g7 ≠ (Value.slice Ag gs.length cg).ownBlock from fun e => by have h1 := Kd.R_lt HQ0.out g7 e.symm; have h2 := GE7.out; omega)
  refine start_ (n := 11) (S := fun w' => w'.cell? ⟨gm, 2, none⟩ = some (.map (some mb)) ∧ w'.cell? ⟨g7, 0, none⟩ = some (.int .u32 hi) ∧ w'.cell? ⟨g7, 1, none⟩ = some (.int .u32 lo) ∧ (Instr.lookup 121 (.map (some mb)) (.agg #[.int .u32 hi, .int .u32 lo]) true).run Try.prog w' = .ok (.tuple #[.int .u32 0, .bool false]) w') (ds := []) #[false, false, false, false, false, false, false, false, false, false, false] (by kernel_rfl) rfl rfl ⟨(blk_cell KM8.out 2).trans rfl, (blk_cell BK8.out 0).trans rfl, (blk_cell BK8.out 1).trans rfl, lookG_none (w := w8.drew) HM8.out.map HM8.out.ok HHI.out HLO.out HNO.out⟩ (fun hHeld => ?_)
  have HM9 := Aside0.mk (HM8.out.step (W' := w8.drew) (below_drew1 (Below.refl _ _)))
  have HO9 := Aside0.mk (HO8.out.trans (OthersG.below (W1 := w8.drew) (below_drew1 (Below.refl _ _))))
  have HS9 := Aside0.mk (show Keeps68 first gm mb w w8.drew from fun b cs h _ => blk_drew (blk_below h HB8.out))
  have HW9 := Aside0.mk (show ∀ (b : Nat) (cs : Array Value), w.heap[b]? = some (.cells cs 68 (0, 0)) → w8.drew.heap[b]? = some (.cells cs 68 (0, 0)) from fun b cs h => blk_drew (blk_below h HB8.out))
  have HG0 := HK0
  have KM9 := Aside0.mk (blk_drew KM8.out)
  have BK9 := Aside0.mk (blk_drew BK8.out)
  have HQ9 := Aside0.mk (Kd.R_drew HQ8.out)
  clear HM8 KM8 HO8 BK8 HB8 HQ8 qg7_0 qg7_1 HK0 HQ0
  generalize w8.drew = w9 at HM9 HO9 KM9 BK9 HQ9 HS9 HW9 hHeld ⊢
  refine pure_ (i := 0) (N := some 34) (v := ?_) (a' := ?_) #[true, false, false, false, false, false, false, false, false, false, false] rfl rfl (by kernel_rfl) (fun _ _ _ h => h) (Or.inl ⟨by rfl, ?_⟩) ?_ ?_
  rotate_left
  ·
   intro w'
   go_simp
   with_reducible rfl
  rotate_left
  ·
   simp only [Act.put, List.setIfInBounds_toArray, List.set_cons_zero, List.set_cons_succ]
   rfl
  refine pure_ (i := 1) (N := some 35) (v := ?_) (a' := ?_) #[true, true, false, false, false, false, false, false, false, false, false] rfl rfl (by kernel_rfl) (fun _ _ _ h => h) (Or.inl ⟨by rfl, ?_⟩) ?_ ?_
  rotate_left
  ·
   intro w'
   go_simp
   with_reducible rfl
  rotate_left
  ·
   simp only [Act.put, List.setIfInBounds_toArray, List.set_cons_zero, List.set_cons_succ]
   rfl
  refine pure_ (i := 2) (N := some 36) (v := ?_) (a' := ?_) #[true, true, true, false, false, false, false, false, false, false, false] rfl rfl (by kernel_rfl) (fun _ _ _ h => h) (Or.inl ⟨by rfl, ?_⟩) ?_ ?_
  rotate_left
  ·
   intro w'
   go_simp
   with_reducible rfl
  rotate_left
  ·
   simp only [Act.put, List.setIfInBounds_toArray, List.set_cons_zero, List.set_cons_succ]
   rfl
  refine take_ (i := 3) (N := some 37) (v := ?_) (a' := ?_) #[true, true, true, true, false, false, false, false, false, false, false] rfl rfl (by kernel_rfl) (fun _ _ _ h => h) (Or.inl ⟨by rfl, ?_⟩) hHeld ?_ ?_
  rotate_left
  ·
   rintro w' ⟨s0, s1, s2, s3⟩
   go_simp
   with_reducible rfl
  rotate_left
  ·
   simp only [Act.put, List.setIfInBounds_toArray, List.set_cons_zero, List.set_cons_succ]
   rfl
  refine take_ (i := 4) (N := some 38) (v := ?_) (a' := ?_) #[true, true, true, true, true, false, false, false, false, false, false] rfl rfl (by kernel_rfl) (fun _ _ _ h => h) (Or.inl ⟨by rfl, ?_⟩) hHeld ?_ ?_
  rotate_left
  ·
   rintro w' ⟨s0, s1, s2, s3⟩
   go_simp
   with_reducible rfl
  rotate_left
  ·
   simp only [Act.put, List.setIfInBounds_toArray, List.set_cons_zero, List.set_cons_succ]
   rfl
  refine take_ (i := 5) (N := some 39) (v := ?_) (a' := ?_) #[true, true, true, true, true, true, false, false, false, false, false] rfl rfl (by kernel_rfl) (fun _ _ _ h => h) (Or.inl ⟨by rfl, ?_⟩) hHeld ?_ ?_
  rotate_left
  ·
   rintro w' ⟨s0, s1, s2, s3⟩
   go_simp
   with_reducible rfl
  rotate_left
  ·
   simp only [Act.put, List.setIfInBounds_toArray, List.set_cons_zero, List.set_cons_succ]
   rfl
  refine pure_ (i := 6) (N := some 33) (v := ?_) (a' := ?_) #[true, true, true, true, true, true, true, false, false, false, false] rfl rfl (by kernel_rfl) (fun _ _ _ h => h) (Or.inl ⟨by rfl, ?_⟩) ?_ ?_
  rotate_left
  ·
   intro w'
   go_simp
   with_reducible rfl
  rotate_left
  ·
   simp only [Act.put, List.setIfInBounds_toArray, List.set_cons_zero, List.set_cons_succ]
   rfl
  refine pure_ (i := 7) (N := some 40) (v := ?_) (a' := ?_) #[true, true, true, true, true, true, true, true, false, false, false] rfl rfl (by kernel_rfl) (fun _ _ _ h => h) (Or.inl ⟨by rfl, ?_⟩) ?_ ?_
  rotate_left
  ·
   intro w'
   go_simp
   with_reducible rfl
  rotate_left
  ·
   simp only [Act.put, List.setIfInBounds_toArray, List.set_cons_zero, List.set_cons_succ]
   rfl
  refine pure_ (i := 8) (N := some 41) (v := ?_) (a' := ?_) #[true, true, true, true, true, true, true, true, true, false, false] rfl rfl (by kernel_rfl) (fun _ _ _ h => h) (Or.inl ⟨by rfl, ?_⟩) ?_ ?_
  rotate_left
  ·
   intro w'
   go_simp
   with_reducible rfl
  rotate_left
  ·
   simp only [Act.put, List.setIfInBounds_toArray, List.set_cons_zero, List.set_cons_succ]
   rfl
  refine pure_ (i := 9) (N := some 8) (v := ?_) (a' := ?_) #[true, true, true, true, true, true, true, true, true, true, false] rfl rfl (by kernel_rfl) (fun _ _ _ h => h) (Or.inl ⟨by rfl, ?_⟩) ?_ ?_
  rotate_left
  ·
   intro w'
   go_simp
   with_reducible rfl
  rotate_left
  ·
   simp only [Act.put, List.setIfInBounds_toArray, List.set_cons_zero, List.set_cons_succ]
   rfl
  refine pure_ (i := 10) (N := some 9) (v := ?_) (a' := ?_) #[true, true, true, true, true, true, true, true, true, true, true] rfl rfl (by kernel_rfl) (fun _ _ _ h => h) (Or.inl ⟨by rfl, ?_⟩) ?_ ?_
  rotate_left
  ·
   intro w'
   go_simp
   with_reducible rfl
  rotate_left
  ·
   simp only [Act.put, List.setIfInBounds_toArray, List.set_cons_zero, List.set_cons_succ]
   rfl
  refine done_ (by kernel_rfl) ?_
  clear hHeld
  have es1 : IntKind.u32.wrap (gs.length : Int) = (gs.length : Int) := u32_id (by omega) (by have := HGL.out; omega)
  have es2 : IntKind.u32.wrap (first + (gs.length : Int)) = first + (gs.length : Int) := u32_id (by have := HFB.out; omega) (by have := HGL.out; have := HFB.out; omega)
  have es3 : IntKind.u32.wrap (2 * (first + (gs.length : Int))) = 2 * (first + (gs.length : Int)) := u32_id (by have := HFB.out; omega) (by have := HGL.out; have := HFB.out; omega)
  go_wp2_with fail
  refine start_ (n := 13) (S := fun w' => w'.cell? ⟨gm, 0, none⟩ = some (.int .u32 first) ∧ w'.cell? ⟨gm, 1, none⟩ = some (.slice Ag gs.length cg)) (ds := []) #[false, false, false, false, false, false, false, false, false, false, false, false, false] (by kernel_rfl) rfl rfl ⟨(blk_cell KM9.out 0).trans rfl, (blk_cell KM9.out 1).trans rfl⟩ (fun hHeld => ?_)
  have HMX := Aside0.mk (HM9.out.step (W' := w9.drew) (below_drew1 (Below.refl _ _)))
  have HWX := Aside0.mk (show ∀ (b : Nat) (cs : Array Value), w.heap[b]? = some (.cells cs 68 (0, 0)) → w9.drew.heap[b]? = some (.cells cs 68 (0, 0)) from fun b cs h => blk_drew (HW9.out b cs h))
  have HOX := Aside0.mk (HO9.out.trans (OthersG.below (W1 := w9.drew) (below_drew1 (Below.refl _ _))))
  have KMX := Aside0.mk (blk_drew KM9.out)
  have BKX := Aside0.mk (blk_drew BK9.out)
  have HQX := Aside0.mk (Kd.R_drew HQ9.out)
  clear HM9 HO9 KM9 BK9 HQ9 HS9 HW9
  generalize w9.drew = wx at HMX HOX KMX BKX HQX HWX hHeld ⊢
  refine pure_ (i := 0) (N := some 44) (v := ?_) (a' := ?_) #[true, false, false, false, false, false, false, false, false, false, false, false, false] rfl rfl (by kernel_rfl) (fun _ _ _ h => h) (Or.inl ⟨by rfl, ?_⟩) ?_ ?_
  rotate_left
  ·
   intro w'
   go_simp
   with_reducible rfl
  rotate_left
  ·
   simp only [Act.put, List.setIfInBounds_toArray, List.set_cons_zero, List.set_cons_succ]
   rfl
  refine pure_ (i := 1) (N := some 45) (v := ?_) (a' := ?_) #[true, true, false, false, false, false, false, false, false, false, false, false, false] rfl rfl (by kernel_rfl) (fun _ _ _ h => h) (Or.inl ⟨by rfl, ?_⟩) ?_ ?_
  rotate_left
  ·
   intro w'
   go_simp
   with_reducible rfl
  rotate_left
  ·
   simp only [Act.put, List.setIfInBounds_toArray, List.set_cons_zero, List.set_cons_succ]
   rfl
  refine pure_ (i := 2) (N := some 46) (v := ?_) (a' := ?_) #[true, true, true, false, false, false, false, false, false, false, false, false, false] rfl rfl (by kernel_rfl) (fun _ _ _ h => h) (Or.inl ⟨by rfl, ?_⟩) ?_ ?_
  rotate_left
  ·
   intro w'
   go_simp
   with_reducible rfl
  rotate_left
  ·
   simp only [Act.put, List.setIfInBounds_toArray, List.set_cons_zero, List.set_cons_succ]
   rfl
  refine take_ (i := 3) (N := some 47) (v := ?_) (a' := ?_) #[true, true, true, true, false, false, false, false, false, false, false, false, false] rfl rfl (by kernel_rfl) (fun _ _ _ h => h) (Or.inl ⟨by rfl, ?_⟩) hHeld ?_ ?_
  rotate_left
  ·
   rintro w' ⟨s0, s1⟩
   go_simp
   with_reducible rfl
  rotate_left
  ·
   simp only [Act.put, List.setIfInBounds_toArray, List.set_cons_zero, List.set_cons_succ]
   rfl
  refine pure_ (i := 4) (N := some 48) (v := ?_) (a' := ?_) #[true, true, true, true, true, false, false, false, false, false, false, false, false] rfl rfl (by kernel_rfl) (fun _ _ _ h => h) (Or.inl ⟨by rfl, ?_⟩) ?_ ?_
  rotate_left
  ·
   intro w'
   go_simp
   with_reducible rfl
  rotate_left
  ·
   simp only [Act.put, List.setIfInBounds_toArray, List.set_cons_zero, List.set_cons_succ]
   rfl
  refine pure_ (i := 5) (N := some 49) (v := ?_) (a' := ?_) #[true, true, true, true, true, true, false, false, false, false, false, false, false] rfl rfl (by kernel_rfl) (fun _ _ _ h => h) (Or.inl ⟨by rfl, ?_⟩) ?_ ?_
  rotate_left
  ·
   intro w'
   go_simp
   with_reducible rfl
  rotate_left
  ·
   simp only [Act.put, List.setIfInBounds_toArray, List.set_cons_zero, List.set_cons_succ]
   rfl
  refine pure_ (i := 6) (N := some 50) (v := ?_) (a' := ?_) #[true, true, true, true, true, true, true, false, false, false, false, false, false] rfl rfl (by kernel_rfl) (fun _ _ _ h => h) (Or.inl ⟨by rfl, ?_⟩) ?_ ?_
  rotate_left
  ·
   intro w'
   go_simp
   with_reducible rfl
  rotate_left
  ·
   simp only [Act.put, List.setIfInBounds_toArray, List.set_cons_zero, List.set_cons_succ]
   rfl
  refine take_ (i := 7) (N := some 51) (v := ?_) (a' := ?_) #[true, true, true, true, true, true, true, true, false, false, false, false, false] rfl rfl (by kernel_rfl) (fun _ _ _ h => h) (Or.inl ⟨by rfl, ?_⟩) hHeld ?_ ?_
  rotate_left
  ·
   rintro w' ⟨s0, s1⟩
   go_simp
   with_reducible rfl
  rotate_left
  ·
   simp only [Act.put, List.setIfInBounds_toArray, List.set_cons_zero, List.set_cons_succ]
   rfl
  refine pure_ (i := 8) (N := some 52) (v := ?_) (a' := ?_) #[true, true, true, true, true, true, true, true, true, false, false, false, false] rfl rfl (by kernel_rfl) (fun _ _ _ h => h) (Or.inl ⟨by rfl, ?_⟩) ?_ ?_
  rotate_left
  ·
   intro w'
   go_simp
   with_reducible rfl
  rotate_left
  ·
   simp only [Act.put, List.setIfInBounds_toArray, List.set_cons_zero, List.set_cons_succ]
   rfl
  refine pure_ (i := 9) (N := some 53) (v := ?_) (a' := ?_) #[true, true, true, true, true, true, true, true, true, true, false, false, false] rfl rfl (by kernel_rfl) (fun _ _ _ h => h) (Or.inl ⟨by rfl, ?_⟩) ?_ ?_
  rotate_left
  ·
   intro w'
   go_simp
   with_reducible rfl
  rotate_left
  ·
   simp only [Act.put, List.setIfInBounds_toArray, List.set_cons_zero, List.set_cons_succ]
   rfl
  refine pure_ (i := 10) (N := some 54) (v := ?_) (a' := ?_) #[true, true, true, true, true, true, true, true, true, true, true, false, false] rfl rfl (by kernel_rfl) (fun _ _ _ h => h) (Or.inl ⟨by rfl, ?_⟩) ?_ ?_
  rotate_left
  ·
   intro w'
   go_simp
   with_reducible rfl
  rotate_left
  ·
   simp only [Act.put, List.setIfInBounds_toArray, List.set_cons_zero, List.set_cons_succ]
   rfl
  refine pure_ (i := 11) (N := some 55) (v := ?_) (a' := ?_) #[true, true, true, true, true, true, true, true, true, true, true, true, false] rfl rfl (by kernel_rfl) (fun _ _ _ h => h) (Or.inl ⟨by rfl, ?_⟩) ?_ ?_
  rotate_left
  ·
   intro w'
   go_simp
   with_reducible rfl
  rotate_left
  ·
   simp only [Act.put, List.setIfInBounds_toArray, List.set_cons_zero, List.set_cons_succ]
   rfl
  refine pure_ (i := 12) (N := some 8) (v := ?_) (a' := ?_) #[true, true, true, true, true, true, true, true, true, true, true, true, true] rfl rfl (by kernel_rfl) (fun _ _ _ h => h) (Or.inl ⟨by rfl, ?_⟩) ?_ ?_
  rotate_left
  ·
   intro w'
   go_simp
   with_reducible rfl
  rotate_left
  ·
   simp only [Act.put, List.setIfInBounds_toArray, List.set_cons_zero, List.set_cons_succ]
   rfl
  refine done_ (by kernel_rfl) ?_
  clear hHeld es1 es2 es3
  go_wp2_with fail
  refine start_ (n := 20) (S := fun w' => w'.cell? ⟨gm, 1, none⟩ = some (.slice Ag gs.length cg) ∧ w'.cell? ⟨gm, 2, none⟩ = some (.map (some mb)) ∧ w'.cell? ⟨g7, 0, none⟩ = some (.int .u32 hi) ∧ w'.cell? ⟨g7, 1, none⟩ = some (.int .u32 lo)) (ds := [19]) #[false, false, false, false, false, false, false, false, false, false, false, false, false, false, false, false, false, false, false, false] (by kernel_rfl) rfl rfl ⟨(blk_cell KMX.out 1).trans rfl, (blk_cell KMX.out 2).trans rfl, (blk_cell BKX.out 0).trans rfl, (blk_cell BKX.out 1).trans rfl⟩ (fun hHeld => ?_)
  have HMA := Aside0.mk (HMX.out.step (W' := wx.drew) (below_drew1 (Below.refl _ _)))
  have HWA := Aside0.mk (show ∀ (b : Nat) (cs : Array Value), w.heap[b]? = some (.cells cs 68 (0, 0)) → wx.drew.heap[b]? = some (.cells cs 68 (0, 0)) from fun b cs h => blk_drew (HWX.out b cs h))
  have HOA := Aside0.mk (HOX.out.trans (OthersG.below (W1 := wx.drew) (below_drew1 (Below.refl _ _))))
  have KM := Aside0.mk (blk_drew KMX.out)
  have BKA := Aside0.mk (blk_drew BKX.out)
  have HQ := Aside0.mk (Kd.R_drew HQX.out)
  clear HMX HOX KMX BKX HQX HWX
  generalize wx.drew = wa at HMA HOA KM BKA HQ HWA hHeld ⊢
  refine pure_ (i := 0) (N := some 56) (v := ?_) (a' := ?_) #[true, false, false, false, false, false, false, false, false, false, false, false, false, false, false, false, false, false, false, false] rfl rfl (by kernel_rfl) (fun _ _ _ h => h) (Or.inl ⟨by rfl, ?_⟩) ?_ ?_
  rotate_left
  ·
   intro w'
   go_simp
   with_reducible rfl
  rotate_left
  ·
   simp only [Act.put, List.setIfInBounds_toArray, List.set_cons_zero, List.set_cons_succ]
   rfl
  refine pure_ (i := 1) (N := some 57) (v := ?_) (a' := ?_) #[true, true, false, false, false, false, false, false, false, false, false, false, false, false, false, false, false, false, false, false] rfl rfl (by kernel_rfl) (fun _ _ _ h => h) (Or.inl ⟨by rfl, ?_⟩) ?_ ?_
  rotate_left
  ·
   intro w'
   go_simp
   with_reducible rfl
  rotate_left
  ·
   simp only [Act.put, List.setIfInBounds_toArray, List.set_cons_zero, List.set_cons_succ]
   rfl
  refine pure_ (i := 2) (N := some 58) (v := ?_) (a' := ?_) #[true, true, true, false, false, false, false, false, false, false, false, false, false, false, false, false, false, false, false, false] rfl rfl (by kernel_rfl) (fun _ _ _ h => h) (Or.inl ⟨by rfl, ?_⟩) ?_ ?_
  rotate_left
  ·
   intro w'
   go_simp
   with_reducible rfl
  rotate_left
  ·
   simp only [Act.put, List.setIfInBounds_toArray, List.set_cons_zero, List.set_cons_succ]
   rfl
  refine take_ (i := 3) (N := some 59) (v := ?_) (a' := ?_) #[true, true, true, true, false, false, false, false, false, false, false, false, false, false, false, false, false, false, false, false] rfl rfl (by kernel_rfl) (fun _ _ _ h => h) (Or.inl ⟨by rfl, ?_⟩) hHeld ?_ ?_
  rotate_left
  ·
   rintro w' ⟨s0, s1, s2, s3⟩
   go_simp
   with_reducible rfl
  rotate_left
  ·
   simp only [Act.put, List.setIfInBounds_toArray, List.set_cons_zero, List.set_cons_succ]
   rfl
  refine take_ (i := 4) (N := some 60) (v := ?_) (a' := ?_) #[true, true, true, true, true, false, false, false, false, false, false, false, false, false, false, false, false, false, false, false] rfl rfl (by kernel_rfl) (fun _ _ _ h => h) (Or.inl ⟨by rfl, ?_⟩) hHeld ?_ ?_
  rotate_left
  ·
   rintro w' ⟨s0, s1, s2, s3⟩
   go_simp
   with_reducible rfl
  rotate_left
  ·
   simp only [Act.put, List.setIfInBounds_toArray, List.set_cons_zero, List.set_cons_succ]
   rfl
  refine pure_ (i := 5) (N := some 61) (v := ?_) (a' := ?_) #[true, true, true, true, true, true, false, false, false, false, false, false, false, false, false, false, false, false, false, false] rfl rfl (by kernel_rfl) (fun _ _ _ h => h) (Or.inl ⟨by rfl, ?_⟩) ?_ ?_
  rotate_left
  ·
   intro w'
   go_simp
   with_reducible rfl
  rotate_left
  ·
   simp only [Act.put, List.setIfInBounds_toArray, List.set_cons_zero, List.set_cons_succ]
   rfl
  refine pure_ (i := 6) (N := some 62) (v := ?_) (a' := ?_) #[true, true, true, true, true, true, true, false, false, false, false, false, false, false, false, false, false, false, false, false] rfl rfl (by kernel_rfl) (fun _ _ _ h => h) (Or.inl ⟨by rfl, ?_⟩) ?_ ?_
  rotate_left
  ·
   intro w'
   go_simp
   with_reducible rfl
  rotate_left
  ·
   simp only [Act.put, List.setIfInBounds_toArray, List.set_cons_zero, List.set_cons_succ]
   rfl
  refine pure_ (i := 7) (N := some 63) (v := ?_) (a' := ?_) #[true, true, true, true, true, true, true, true, false, false, false, false, false, false, false, false, false, false, false, false] rfl rfl (by kernel_rfl) (fun _ _ _ h => h) (Or.inl ⟨by rfl, ?_⟩) ?_ ?_
  rotate_left
  ·
   intro w'
   go_simp
   with_reducible rfl
  rotate_left
  ·
   simp only [Act.put, List.setIfInBounds_toArray, List.set_cons_zero, List.set_cons_succ]
   rfl
  refine pure_ (i := 8) (N := some 64) (v := ?_) (a' := ?_) #[true, true, true, true, true, true, true, true, true, false, false, false, false, false, false, false, false, false, false, false] rfl rfl (by kernel_rfl) (fun _ _ _ h => h) (Or.inl ⟨by rfl, ?_⟩) ?_ ?_
  rotate_left
  ·
   intro w'
   go_simp
   with_reducible rfl
  rotate_left
  ·
   simp only [Act.put, List.setIfInBounds_toArray, List.set_cons_zero, List.set_cons_succ]
   rfl
  refine pure_ (i := 9) (N := some 65) (v := ?_) (a' := ?_) #[true, true, true, true, true, true, true, true, true, true, false, false, false, false, false, false, false, false, false, false] rfl rfl (by kernel_rfl) (fun _ _ _ h => h) (Or.inl ⟨by rfl, ?_⟩) ?_ ?_
  rotate_left
  ·
   intro w'
   go_simp
   with_reducible rfl
  rotate_left
  ·
   simp only [Act.put, List.setIfInBounds_toArray, List.set_cons_zero, List.set_cons_succ]
   rfl
  refine take_ (i := 10) (N := some 66) (v := ?_) (a' := ?_) #[true, true, true, true, true, true, true, true, true, true, true, false, false, false, false, false, false, false, false, false] rfl rfl (by kernel_rfl) (fun _ _ _ h => h) (Or.inl ⟨by rfl, ?_⟩) hHeld ?_ ?_
  rotate_left
  ·
   rintro w' ⟨s0, s1, s2, s3⟩
   go_simp
   with_reducible rfl
  rotate_left
  ·
   simp only [Act.put, List.setIfInBounds_toArray, List.set_cons_zero, List.set_cons_succ]
   rfl
  refine take_ (i := 11) (N := some 67) (v := ?_) (a' := ?_) #[true, true, true, true, true, true, true, true, true, true, true, true, false, false, false, false, false, false, false, false] rfl rfl (by kernel_rfl) (fun _ _ _ h => h) (Or.inl ⟨by rfl, ?_⟩) hHeld ?_ ?_
  rotate_left
  ·
   rintro w' ⟨s0, s1, s2, s3⟩
   go_simp
   with_reducible rfl
  rotate_left
  ·
   simp only [Act.put, List.setIfInBounds_toArray, List.set_cons_zero, List.set_cons_succ]
   rfl
  refine one_ (i := 12) (N := some 68) #[true, true, true, true, true, true, true, true, true, true, true, true, true, false, false, false, false, false, false, false] rfl rfl (by kernel_rfl) (by decide) (fun K hK => ?_)
  refine value_ (w1 := ?_) (v := ?_) (by rfl) rfl ?_ ?_
  rotate_left 2
  ·
   go_simp
   constructor
   · rfl
   · rfl
  refine hK.out _ _ ⟨(blk_cell (blk_alloc KM.out _) 1).trans rfl, (blk_cell (blk_alloc KM.out _) 2).trans rfl, (blk_cell (blk_alloc BKA.out _) 0).trans rfl, (blk_cell (blk_alloc BKA.out _) 1).trans rfl⟩ (fun hHeld => ?_)
  clear hK K
  refine norm_ (a' := ?_) ?_ ?_
  rotate_left
  ·
   show Act.put _ (some 68) _ = _
   simp only [Act.put, List.setIfInBounds_toArray, List.set_cons_zero, List.set_cons_succ]
   rfl
  refine one_ (i := 13) (N := some 69) #[true, true, true, true, true, true, true, true, true, true, true, true, true, true, false, false, false, false, false, false] rfl rfl (by kernel_rfl) (by decide) (fun K hK => ?_)
  refine Kd.R_append_step k68 (w0 := w0) w0.heap.size (by rfl) (.tmp 66) (.tmp 68) 23 68 (.agg #[(.int .u32 0), (.int .u32 0)]) 8 rfl Try.underlying23 info68 rfl (by decide) (by omega) (.slice Ag gs.length cg) gs (⟨hi, lo⟩ : S68) [.int .u32 hi, .int .u32 lo] (fun _ => True) (fun _ => False) rfl rfl (k68_mkM _ _ _ (⟨hi, lo⟩ : S68)) (fun _ hk => hk.elim) (fun _ _ => trivial) HQ.out HMA.out.below HMA.out.below.size (by have := HGL.out; omega) ?_
  intro v1 w1 hR hB hg _
  obtain ⟨Av, cv, hv_⟩ := Kd.R_slice hR
  subst hv_
  have HAD := Aside0.mk (fun es1 k1 => HMA.out.added KM.out HQ.out HNO.out HHI.out HLO.out hR hB hg es1 ((entG first gs).toArray.push ⟨keyG hi lo, .int .u32 (2 * (first + (gs.length : Int))), gs.length⟩) k1 (gs.length + 1) ⟨by simp [entG_snoc], by simp⟩)
  have KM1 := Aside0.mk (HAD.out #[] 0).2.2.1
  have MP1 := Aside0.mk (HAD.out #[] 0).2.2.2.1
  have BKB := Aside0.mk (blk_grown BKA.out hg HG7.out)
  clear hR hB hg
  refine hK.out _ _ ⟨(blk_cell KM1.out 1).trans rfl, (blk_cell KM1.out 2).trans rfl, (blk_cell BKB.out 0).trans rfl, (blk_cell BKB.out 1).trans rfl⟩ (fun hHeld => ?_)
  clear hK K
  refine norm_ (a' := ?_) ?_ ?_
  rotate_left
  ·
   show Act.put _ (some 69) _ = _
   simp only [Act.put, List.setIfInBounds_toArray, List.set_cons_zero, List.set_cons_succ]
   rfl
  obtain ⟨w2, hw2⟩ : ∃ w2, setBlock w1 mb (.map ((entG first gs).toArray.push ⟨keyG hi lo, .int .u32 0, gs.length⟩) (gs.length + 1)) = w2 := ⟨_, rfl⟩
  have hme := mapG_entry MP1.out HMA.out.ok HHI.out HLO.out HNO.out
  rw [hw2] at hme
  unfold keyG at hme
  have HME := Aside0.mk hme
  clear hme
  have KM2 := Aside0.mk (show w2.heap[gm]? = some (.cells #[.int .u32 first, .slice Ag gs.length cg, .map (some mb)] 123 (0, 0)) from by rw [← hw2]; exact (heap_setBlock_other MP1.out _ (fun e => by have := KM1.out; rw [e, MP1.out] at this; cases this)).trans KM1.out)
  have BKC := Aside0.mk (show w2.heap[g7]? = some (.cells #[.int .u32 hi, .int .u32 lo] 68 (0, 0)) from by rw [← hw2]; exact (heap_setBlock_other MP1.out _ (fun e => by have := BKB.out; rw [e, MP1.out] at this; cases this)).trans BKB.out)
  have MP2 := Aside0.mk (show w2.heap[mb]? = some (.map ((entG first gs).toArray.push ⟨keyG hi lo, .int .u32 0, gs.length⟩) (gs.length + 1)) from by rw [← hw2]; exact heap_setBlock_same MP1.out _)
  have HW2 := Aside0.mk hw2
  clear hw2
  refine one_ (i := 14) (N := some 70) #[true, true, true, true, true, true, true, true, true, true, true, true, true, true, true, false, false, false, false, false] rfl rfl (by kernel_rfl) (by decide) (fun K hK => ?_)
  refine value_ (w1 := ?_) (v := ?_) (by rfl) rfl ?_ ?_
  rotate_left 2
  ·
   have hme := HME.out
   go_simp
   constructor
   · rfl
   · rfl
  refine hK.out _ _ ⟨(blk_cell KM2.out 1).trans rfl, (blk_cell KM2.out 2).trans rfl, (blk_cell BKC.out 0).trans rfl, (blk_cell BKC.out 1).trans rfl⟩ (fun hHeld => ?_)
  clear hK K
  refine norm_ (a' := ?_) ?_ ?_
  rotate_left
  ·
   show Act.put _ (some 70) _ = _
   simp only [Act.put, List.setIfInBounds_toArray, List.set_cons_zero, List.set_cons_succ]
   rfl
  refine pure_ (i := 15) (N := some 71) (v := ?_) (a' := ?_) #[true, true, true, true, true, true, true, true, true, true, true, true, true, true, true, true, false, false, false, false] rfl rfl (by kernel_rfl) (fun _ _ _ h => h) (Or.inl ⟨by rfl, ?_⟩) ?_ ?_
  rotate_left
  ·
   intro w'
   go_simp
   with_reducible rfl
  rotate_left
  ·
   simp only [Act.put, List.setIfInBounds_toArray, List.set_cons_zero, List.set_cons_succ]
   rfl
  obtain ⟨w3, hw3⟩ : ∃ w3, setBlock w2 mb (.map ((entG first gs).toArray.push ⟨keyG hi lo, .int .u32 (2 * (first + (gs.length : Int))), gs.length⟩) (gs.length + 1)) = w3 := ⟨_, rfl⟩
  have hms := mapG_store (.int .u32 (2 * (first + (gs.length : Int)))) MP2.out
  rw [hw3] at hms
  have HMS := Aside0.mk hms
  clear hms
  have KM3 := Aside0.mk (show w3.heap[gm]? = some (.cells #[.int .u32 first, .slice Ag gs.length cg, .map (some mb)] 123 (0, 0)) from by rw [← hw3]; exact (heap_setBlock_other MP2.out _ (fun e => by have := KM2.out; rw [e, MP2.out] at this; cases this)).trans KM2.out)
  have BKD := Aside0.mk (show w3.heap[g7]? = some (.cells #[.int .u32 hi, .int .u32 lo] 68 (0, 0)) from by rw [← hw3]; exact (heap_setBlock_other MP2.out _ (fun e => by have := BKC.out; rw [e, MP2.out] at this; cases this)).trans BKC.out)
  have HFIN := HAD.out ((entG first gs).toArray.push ⟨keyG hi lo, .int .u32 0, gs.length⟩) (gs.length + 1)
  rw [HW2.out, hw3, show (gs ++ [(⟨hi, lo⟩ : S68)]).length = gs.length + 1 from by simp] at HFIN
  replace HFIN := Aside0.mk HFIN
  clear hw3 HAD
  refine one_ (i := 16) (N := none) #[true, true, true, true, true, true, true, true, true, true, true, true, true, true, true, true, true, false, false, false] rfl rfl (by kernel_rfl) (by decide) (fun K hK => ?_)
  refine skip_step (w1 := ?_) (by rfl) rfl ?_ ?_
  rotate_left
  ·
   have hme := HMS.out
   go_simp
   rfl
  refine hK.out _ _ ⟨(blk_cell KM3.out 1).trans rfl, (blk_cell KM3.out 2).trans rfl, (blk_cell BKD.out 0).trans rfl, (blk_cell BKD.out 1).trans rfl⟩ (fun hHeld => ?_)
  clear hK K
  refine pure_ (i := 17) (N := some 72) (v := ?_) (a' := ?_) #[true, true, true, true, true, true, true, true, true, true, true, true, true, true, true, true, true, true, false, false] rfl rfl (by kernel_rfl) (fun _ _ _ h => h) (Or.inl ⟨by rfl, ?_⟩) ?_ ?_
  rotate_left
  ·
   intro w'
   go_simp
   with_reducible rfl
  rotate_left
  ·
   simp only [Act.put, List.setIfInBounds_toArray, List.set_cons_zero, List.set_cons_succ]
   rfl
  refine pure_ (i := 18) (N := some 73) (v := ?_) (a' := ?_) #[true, true, true, true, true, true, true, true, true, true, true, true, true, true, true, true, true, true, true, false] rfl rfl (by kernel_rfl) (fun _ _ _ h => h) (Or.inl ⟨by rfl, ?_⟩) ?_ ?_
  rotate_left
  ·
   intro w'
   go_simp
   with_reducible rfl
  rotate_left
  ·
   simp only [Act.put, List.setIfInBounds_toArray, List.set_cons_zero, List.set_cons_succ]
   rfl
  have i1 : w3.cell? ⟨gm, 1, none⟩ = some (.slice Ag gs.length cg) := (blk_cell KM3.out 1).trans rfl
  have fr := blk_frozen KM3.out 1
  clear hHeld
  refine last_ (i := 19) (N := none) #[true, true, true, true, true, true, true, true, true, true, true, true, true, true, true, true, true, true, true, true] rfl rfl (by kernel_rfl) (by decide) (fun K hK => ?_)
  refine skip_step (w1 := ?_) (by rfl) rfl ?_ ?_
  rotate_left
  ·
   go_simp
   rfl
  refine hK.out _ _ ?_
  clear hK K
  refine done_ (by kernel_rfl) ?_
  clear i1 fr
  go_wp2
  go_ret
  exact ⟨rfl, HFIN.out.1, HOA.out.trans HFIN.out.2.1, fun b cs h hv => HFIN.out.2.2.2.2.2 b cs (HWA.out b cs h) (hv _ HG0.out)⟩
end Go.Proofs.Yteiiodlgdbiimaa.F
end
section
namespace Go.Proofs.Yteiiodlgdbiimaa.F
open Go.Joins Go.ChangeShapes Go.WideShapes Go.ChangeAt Go.Deep Go.RowKit Go.Proofs.YteiiodlgdbiimaaW.PrintWords Go.Proofs.YteiiodlgdbiimaaW.PrintLast Go.Proofs.YteiiodlgdbiimaaW.PrintMore
set_option linter.unusedVariables false
set_option linter.unusedSimpArgs false
section
variable {H : Type} {enc : TypeId × Value → H} {w : World} {base : Nat} {spare : Nat → Bool} {held : Bool}
theorem open_pairs {t e : TypeId} {fs : Array Field} {fuel : Nat} {cs : List Value} {x : DataW H × List MemPlace} (ht : Try.prog.underlying t = some (.slice e)) (he : Try.prog.underlying e = some (.struct fs))
    (hone : oneCellFields Try.prog fs = true) (hC : Try.prog.cellsOf e = fs.size) (h : DataW.trod enc Try.prog w base spare held fuel t cs = some x) :
    (cs = [.slice none 0 0] ∧ x = (.nil, [])) ∨
    ∃ (a : Addr) (len cap m : Nat) (D : Nat → DataW H) (Pl : Nat → List MemPlace), cs = [.slice (some a) len cap] ∧ base ≤ a.block ∧ len ≤ cap ∧ cap ≤ maxLen ∧ m = (if spare a.block then cap else len) ∧
      x = (.slice ((List.range len).map D) ((List.range (m - len)).map fun j => D (len + j)), MemPlace.row a (m * fs.size) ++ (List.range m).flatMap Pl) ∧
      ∀ i, i < m → ∃ (ys : List (DataW H × List MemPlace)) (n : Nat), D i = .agg (ys.map (·.1)) ∧ Pl i = ys.flatMap (·.2) ∧ ys.length = fs.size ∧
        ∀ (j : Nat) (f : Field), fs[j]? = some f → ∃ (v : Value) (y : DataW H × List MemPlace), w.cell? (a.add (i * fs.size + j)) = some v ∧ ys[j]? = some y ∧ DataW.trod enc Try.prog w base spare held n f.type [v] = some y := by
  rcases open_slice ht h with h0 | ⟨a, len, cap, m, n, D, Pl, hcs, hb, hl, hm, hmm, hx, hi⟩
  · exact .inl h0
  · refine .inr ⟨a, len, cap, m, D, Pl, hcs, hb, hl, hm, hmm, by rw [hC] at hx; exact hx, fun i him => ?_⟩
    obtain ⟨cs', hc, ht'⟩ := hi i him
    rw [hC] at hc
    obtain ⟨ys, n', hn', hy, hlen, hyl, hf⟩ := DataW.trod_struct he ht'
    obtain ⟨_, hcl, hat⟩ := World.cells?_some hc
    simp only [Prod.mk.injEq] at hy
    refine ⟨ys, n', hy.1, hy.2, hyl, fun j f hj => ?_⟩
    obtain ⟨ho, hk⟩ := hone_of hone j f hj
    have hjl : j < fs.size := (Array.getElem?_eq_some_iff.1 hj).1
    have hcell := hat j hjl
    have hv : cs'[j]? = some (cs'[j]'(by omega)) := List.getElem?_eq_getElem (by omega)
    have h1 := hf j f hj
    rw [ho, hk] at h1
    have hone' : (cs'.drop j).take 1 = [cs'[j]'(by omega)] := by
      rw [List.drop_eq_getElem_cons (by omega)]
      rfl
    rw [hone'] at h1
    have hys : ys[j]? = some (ys[j]'(by omega)) := List.getElem?_eq_getElem (by omega)
    refine ⟨_, _, ?_, hys, h1.trans hys⟩
    rw [← Go.Deep.add_add, hcell, hv]
end
section
variable {H : Type} {enc : TypeId × Value → H} {w : World} {base : Nat} {spare : Nat → Bool} {held : Bool}
set_option maxRecDepth 100000 in
theorem open_six {r : Reach} {b0 : Nat} {t : TypeId} {f0 f1 f2 f3 f4 f5 : Field} {v : Value} {d : DataW H} {p : List MemPlace} (hs : Try.prog.underlying t = some (.struct #[f0, f1, f2, f3, f4, f5])) (hone : oneCellFields Try.prog #[f0, f1, f2, f3, f4, f5] = true) (hC : Try.prog.cellsOf t = 6)
    (hv : Value.okWide Try.prog w r b0 t v) (h : DataW.Trod enc Try.prog w base spare held t v d p) :
    ∃ (v0 v1 v2 v3 v4 v5 : Value) (y0 y1 y2 y3 y4 y5 : DataW H × List MemPlace) (n : Nat), v = .agg #[v0, v1, v2, v3, v4, v5] ∧ d = .agg [y0.1, y1.1, y2.1, y3.1, y4.1, y5.1] ∧ p = y0.2 ++ (y1.2 ++ (y2.2 ++ (y3.2 ++ (y4.2 ++ y5.2)))) ∧
      DataW.trod enc Try.prog w base spare held n f0.type [v0] = some y0 ∧ DataW.trod enc Try.prog w base spare held n f1.type [v1] = some y1 ∧ DataW.trod enc Try.prog w base spare held n f2.type [v2] = some y2 ∧ DataW.trod enc Try.prog w base spare held n f3.type [v3] = some y3 ∧ DataW.trod enc Try.prog w base spare held n f4.type [v4] = some y4 ∧ DataW.trod enc Try.prog w base spare held n f5.type [v5] = some y5 := by
  obtain ⟨cs, rfl, hsz⟩ := okWide_struct hs hv
  obtain ⟨l⟩ := cs
  match l, hsz.trans hC with
  | [c0, c1, c2, c3, c4, c5], _ =>
    obtain ⟨fuel, hf⟩ := h
    obtain ⟨xs, n, _, hx, _, hlen, hg⟩ := DataW.trod_struct hs hf
    obtain ⟨o0, k0⟩ := hone_of hone 0 f0 rfl
    obtain ⟨o1, k1⟩ := hone_of hone 1 f1 rfl
    obtain ⟨o2, k2⟩ := hone_of hone 2 f2 rfl
    obtain ⟨o3, k3⟩ := hone_of hone 3 f3 rfl
    obtain ⟨o4, k4⟩ := hone_of hone 4 f4 rfl
    obtain ⟨o5, k5⟩ := hone_of hone 5 f5 rfl
    match xs, hlen with
    | [y0, y1, y2, y3, y4, y5], _ =>
      simp only [Prod.mk.injEq] at hx
      exact ⟨c0, c1, c2, c3, c4, c5, y0, y1, y2, y3, y4, y5, n, rfl, by simpa using hx.1, by simpa using hx.2, by simpa [Value.cells, o0, k0] using hg 0 f0 rfl, by simpa [Value.cells, o1, k1] using hg 1 f1 rfl, by simpa [Value.cells, o2, k2] using hg 2 f2 rfl, by simpa [Value.cells, o3, k3] using hg 3 f3 rfl, by simpa [Value.cells, o4, k4] using hg 4 f4 rfl, by simpa [Value.cells, o5, k5] using hg 5 f5 rfl⟩
end
theorem list_of {α : Type} (Q : Nat → α → Prop) : ∀ n : Nat, (∀ i, i < n → ∃ g, Q i g) → ∃ l : List α, l.length = n ∧ ∀ i g, l[i]? = some g → Q i g
  | 0, _ => ⟨[], rfl, fun i g h => by simp at h⟩
  | n + 1, h => by
    obtain ⟨l, hl, hq⟩ := list_of Q n (fun i hi => h i (by omega))
    obtain ⟨g, hg⟩ := h n (by omega)
    refine ⟨l ++ [g], by simp [hl], fun i x hx => ?_⟩
    by_cases hi : i < n
    · rw [List.getElem?_append_left (by omega)] at hx
      exact hq i x hx
    · have hi2 : i = n := by
        have := (List.getElem?_eq_some_iff.1 hx).1
        simp only [List.length_append, List.length_singleton, hl] at this
        omega
      subst hi2
      rw [List.getElem?_append_right (by omega), hl] at hx
      simp at hx
      rw [← hx]
      exact hg
theorem wf_u32 {x : Int} (h : (Lit.int .u32 x).wf = true) : 0 ≤ x ∧ x < 4294967296 := by
  simp only [Lit.wf, Bool.and_eq_true, decide_eq_true_eq] at h
  rw [show IntKind.u32.min = 0 from by decide, show IntKind.u32.max = 4294967295 from by decide] at h
  omega
theorem wf_u8 {x : Int} (h : (Lit.int .u8 x).wf = true) : 0 ≤ x ∧ x < 256 := by
  simp only [Lit.wf, Bool.and_eq_true, decide_eq_true_eq] at h
  rw [show IntKind.u8.min = 0 from by decide, show IntKind.u8.max = 255 from by decide] at h
  omega
theorem wf_i64 {x : Int} (h : (Lit.int .i64 x).wf = true) : -9223372036854775808 ≤ x ∧ x < 9223372036854775808 := by
  simp only [Lit.wf, Bool.and_eq_true, decide_eq_true_eq] at h
  rw [show IntKind.i64.min = -9223372036854775808 from by decide, show IntKind.i64.max = 9223372036854775807 from by decide] at h
  omega
theorem open41 {H : Type} {enc : TypeId × Value → H} {w : World} {base : Nat} {sp : Nat → Bool} {held : Bool} {fuel : Nat} {v : Value} {x : DataW H × List MemPlace} (h : DataW.trod enc Try.prog w base sp held fuel 22 [v] = some x) :
    ∃ (A : Option Addr) (c : Nat) (l : List S41), v = .slice A l.length c ∧ l.length ≤ c ∧ Kd.C k41 w A l.length l ∧ ∀ g ∈ l, (0 ≤ g.f0 ∧ g.f0 < 4294967296) ∧ (0 ≤ g.f1 ∧ g.f1 < 256) := by
  rcases open_pairs Try.underlying22 Try.underlying41 (by kernel_rfl) (by kernel_rfl) h with ⟨hcs, _⟩ | ⟨a, len, cap, m, D, Pl, hcs, hb, hl, hm, hmm, _, hi⟩
  · injection hcs with e1 _
    exact ⟨none, 0, [], e1, Nat.le_refl _, ⟨rfl, by simp, fun h => absurd h (by simp)⟩, fun g hg => by cases hg⟩
  · injection hcs with e1 _
    have hlm : len ≤ m := by rw [hmm]; split <;> omega
    obtain ⟨l, hll, hq⟩ := list_of (fun i (g : S41) => (w.cell? (a.add (i * 2 + 0)) = some (.int .u32 g.f0) ∧ w.cell? (a.add (i * 2 + 1)) = some (.int .u8 g.f1)) ∧ (0 ≤ g.f0 ∧ g.f0 < 4294967296) ∧ (0 ≤ g.f1 ∧ g.f1 < 256)) len (fun i hlt => by
      obtain ⟨ys, n, _, _, _, hf⟩ := hi i (by omega)
      obtain ⟨v0, y0, c0, _, t0⟩ := hf 0 _ rfl
      obtain ⟨v1, y1, c1, _, t1⟩ := hf 1 _ rfl
      obtain ⟨n0, e0, _, w0⟩ := DataW.trod_int Try.underlying39 t0
      obtain ⟨n1, e1', _, w1⟩ := DataW.trod_int Try.underlying5 t1
      injection e0 with e0 _
      injection e1' with e1' _
      subst e0
      subst e1'
      exact ⟨⟨n0, n1⟩, ⟨c0, c1⟩, wf_u32 w0, wf_u8 w1⟩)
    refine ⟨some a, cap, l, by rw [hll]; exact e1, by omega, ⟨rfl, by simp only [maxLen] at hm; omega, fun _ => ⟨a, rfl, fun j p hj => ⟨[.int .u32 p.f0, .int .u8 p.f1], rfl, k41_mk w p, fun i u hu => ?_⟩⟩⟩, fun g hg => ?_⟩
    · obtain ⟨⟨q0, q1⟩, _⟩ := hq j p hj
      cases i with
      | zero =>
        cases hu
        exact q0
      | succ i =>
        cases i with
        | zero =>
          cases hu
          exact q1
        | succ i => simp at hu
    · obtain ⟨j, hj, rfl⟩ := List.mem_iff_getElem.1 hg
      exact (hq j _ (List.getElem?_eq_getElem hj)).2
theorem open68 {H : Type} {enc : TypeId × Value → H} {w : World} {base : Nat} {sp : Nat → Bool} {held : Bool} {fuel : Nat} {v : Value} {x : DataW H × List MemPlace} (h : DataW.trod enc Try.prog w base sp held fuel 23 [v] = some x) :
    ∃ (A : Option Addr) (c : Nat) (l : List S68), v = .slice A l.length c ∧ l.length ≤ c ∧ Kd.C k68 w A l.length l ∧ ∀ g ∈ l, (0 ≤ g.f0 ∧ g.f0 < 4294967296) ∧ (0 ≤ g.f1 ∧ g.f1 < 4294967296) := by
  rcases open_pairs Try.underlying23 Try.underlying68 (by kernel_rfl) (by kernel_rfl) h with ⟨hcs, _⟩ | ⟨a, len, cap, m, D, Pl, hcs, hb, hl, hm, hmm, _, hi⟩
  · injection hcs with e1 _
    exact ⟨none, 0, [], e1, Nat.le_refl _, ⟨rfl, by simp, fun h => absurd h (by simp)⟩, fun g hg => by cases hg⟩
  · injection hcs with e1 _
    have hlm : len ≤ m := by rw [hmm]; split <;> omega
    obtain ⟨l, hll, hq⟩ := list_of (fun i (g : S68) => (w.cell? (a.add (i * 2 + 0)) = some (.int .u32 g.f0) ∧ w.cell? (a.add (i * 2 + 1)) = some (.int .u32 g.f1)) ∧ (0 ≤ g.f0 ∧ g.f0 < 4294967296) ∧ (0 ≤ g.f1 ∧ g.f1 < 4294967296)) len (fun i hlt => by
      obtain ⟨ys, n, _, _, _, hf⟩ := hi i (by omega)
      obtain ⟨v0, y0, c0, _, t0⟩ := hf 0 _ rfl
      obtain ⟨v1, y1, c1, _, t1⟩ := hf 1 _ rfl
      obtain ⟨n0, e0, _, w0⟩ := DataW.trod_int Try.underlying39 t0
      obtain ⟨n1, e1', _, w1⟩ := DataW.trod_int Try.underlying39 t1
      injection e0 with e0 _
      injection e1' with e1' _
      subst e0
      subst e1'
      exact ⟨⟨n0, n1⟩, ⟨c0, c1⟩, wf_u32 w0, wf_u32 w1⟩)
    refine ⟨some a, cap, l, by rw [hll]; exact e1, by omega, ⟨rfl, by simp only [maxLen] at hm; omega, fun _ => ⟨a, rfl, fun j p hj => ⟨[.int .u32 p.f0, .int .u32 p.f1], rfl, k68_mk w p, fun i u hu => ?_⟩⟩⟩, fun g hg => ?_⟩
    · obtain ⟨⟨q0, q1⟩, _⟩ := hq j p hj
      cases i with
      | zero =>
        cases hu
        exact q0
      | succ i =>
        cases i with
        | zero =>
          cases hu
          exact q1
        | succ i => simp at hu
    · obtain ⟨j, hj, rfl⟩ := List.mem_iff_getElem.1 hg
      exact (hq j _ (List.getElem?_eq_getElem hj)).2
theorem openU {H : Type} {enc : TypeId × Value → H} {w : World} {base : Nat} {sp : Nat → Bool} {held : Bool} {fuel : Nat} {v : Value} {x : DataW H × List MemPlace} (h : DataW.trod enc Try.prog w base sp held fuel 24 [v] = some x) :
    ∃ (A : Option Addr) (c : Nat) (l : List Int), v = .slice A l.length c ∧ l.length ≤ c ∧ Kd.C (Kd.int .u32) w A l.length l ∧ ∀ g ∈ l, 0 ≤ g ∧ g < 4294967296 := by
  rcases open_ints Try.underlying24 Try.underlying39 (by kernel_rfl) h with ⟨hcs, _⟩ | ⟨a, len, cap, zs, hcs, _, hl, hm, hz, _, hcell, hwz⟩
  · injection hcs with e1 _
    exact ⟨none, 0, [], e1, Nat.le_refl _, ⟨rfl, by simp, fun h => absurd h (by simp)⟩, fun g hg => by cases hg⟩
  · injection hcs with e1 _
    have hlz : len ≤ zs.length := by rw [hz]; split <;> omega
    have hlen : (zs.take len).length = len := by rw [List.length_take]; omega
    refine ⟨some a, cap, zs.take len, by rw [hlen]; exact e1, by omega, ⟨rfl, by simp only [maxLen] at hm; omega, fun _ => ⟨a, rfl, fun j p hj => ⟨[.int .u32 p], rfl, rfl, fun i u hu => ?_⟩⟩⟩, fun g hg => wf_u32 (hwz g (List.mem_of_mem_take hg))⟩
    cases i with
    | zero =>
      cases hu
      obtain ⟨hj1, hj2⟩ := List.getElem?_eq_some_iff.1 hj
      have hj3 : j < zs.length := by omega
      have := hcell j hj3
      rw [List.getD_eq_getElem?_getD, List.getElem?_eq_getElem hj3, Option.getD_some] at this
      rw [List.getElem_take] at hj2
      rw [hj2] at this
      show w.cell? (a.add (j * 1 + 0)) = _
      rw [Nat.mul_one, Nat.add_zero]
      exact this
    | succ i => simp at hu
theorem openB {H : Type} {enc : TypeId × Value → H} {w : World} {base : Nat} {sp : Nat → Bool} {held : Bool} {fuel : Nat} {v : Value} {x : DataW H × List MemPlace} (h : DataW.trod enc Try.prog w base sp held fuel 28 [v] = some x) :
    ∃ (A : Option Addr) (c : Nat) (l : List Int), v = .slice A l.length c ∧ l.length ≤ c ∧ Kd.C (Kd.int .u8) w A l.length l ∧ ∀ g ∈ l, 0 ≤ g ∧ g < 256 := by
  rcases open_ints Try.underlying28 Try.underlying5 (by kernel_rfl) h with ⟨hcs, _⟩ | ⟨a, len, cap, zs, hcs, _, hl, hm, hz, _, hcell, hwz⟩
  · injection hcs with e1 _
    exact ⟨none, 0, [], e1, Nat.le_refl _, ⟨rfl, by simp, fun h => absurd h (by simp)⟩, fun g hg => by cases hg⟩
  · injection hcs with e1 _
    have hlz : len ≤ zs.length := by rw [hz]; split <;> omega
    have hlen : (zs.take len).length = len := by rw [List.length_take]; omega
    refine ⟨some a, cap, zs.take len, by rw [hlen]; exact e1, by omega, ⟨rfl, by simp only [maxLen] at hm; omega, fun _ => ⟨a, rfl, fun j p hj => ⟨[.int .u8 p], rfl, rfl, fun i u hu => ?_⟩⟩⟩, fun g hg => wf_u8 (hwz g (List.mem_of_mem_take hg))⟩
    cases i with
    | zero =>
      cases hu
      obtain ⟨hj1, hj2⟩ := List.getElem?_eq_some_iff.1 hj
      have hj3 : j < zs.length := by omega
      have := hcell j hj3
      rw [List.getD_eq_getElem?_getD, List.getElem?_eq_getElem hj3, Option.getD_some] at this
      rw [List.getElem_take] at hj2
      rw [hj2] at this
      show w.cell? (a.add (j * 1 + 0)) = _
      rw [Nat.mul_one, Nat.add_zero]
      exact this
    | succ i => simp at hu
def InU32 (l : List Int) : Prop := ∀ g ∈ l, 0 ≤ g ∧ g < 4294967296
def InU8 (l : List Int) : Prop := ∀ g ∈ l, 0 ≤ g ∧ g < 256
def In41 (l : List S41) : Prop := ∀ g ∈ l, (0 ≤ g.f0 ∧ g.f0 < 4294967296) ∧ (0 ≤ g.f1 ∧ g.f1 < 256)
def In68 (l : List S68) : Prop := ∀ g ∈ l, (0 ≤ g.f0 ∧ g.f0 < 4294967296) ∧ (0 ≤ g.f1 ∧ g.f1 < 4294967296)
set_option maxRecDepth 100000 in
theorem openCirc {H : Type} {enc : TypeId × Value → H} {w : World} {base : Nat} {sp : Nat → Bool} {held : Bool} {r : Reach} {b0 : Nat} {v : Value} {d : DataW H} {p : List MemPlace} (hv : Value.okWide Try.prog w r b0 26 v) (h : DataW.Trod enc Try.prog w base sp held 26 v d p) :
    ∃ (a0 : Int) (A1 : Option Addr) (c1 : Nat) (l1 : List S41) (A2 : Option Addr) (c2 : Nat) (l2 : List S68) (A3 : Option Addr) (c3 : Nat) (l3 : List Int) (A4 : Option Addr) (c4 : Nat) (l4 : List Int) (A5 : Option Addr) (c5 : Nat) (l5 : List Int),
      v = .agg #[.int .i64 a0, .slice A1 l1.length c1, .slice A2 l2.length c2, .slice A3 l3.length c3, .slice A4 l4.length c4, .slice A5 l5.length c5] ∧
      (-9223372036854775808 ≤ a0 ∧ a0 < 9223372036854775808) ∧ (l1.length ≤ c1 ∧ Kd.C k41 w A1 l1.length l1 ∧ In41 l1) ∧ (l2.length ≤ c2 ∧ Kd.C k68 w A2 l2.length l2 ∧ In68 l2) ∧
      (l3.length ≤ c3 ∧ Kd.C (Kd.int .u32) w A3 l3.length l3 ∧ InU32 l3) ∧ (l4.length ≤ c4 ∧ Kd.C (Kd.int .u32) w A4 l4.length l4 ∧ InU32 l4) ∧ (l5.length ≤ c5 ∧ Kd.C (Kd.int .u32) w A5 l5.length l5 ∧ InU32 l5) := by
  obtain ⟨v0, v1, v2, v3, v4, v5, y0, y1, y2, y3, y4, y5, n, rfl, _, _, t0, t1, t2, t3, t4, t5⟩ := open_six Try.underlying26 (by kernel_rfl) (by kernel_rfl) hv h
  obtain ⟨a0, e0, _, w0⟩ := DataW.trod_int Try.underlying3 t0
  injection e0 with e0 _
  subst e0
  obtain ⟨A1, c1, l1, rfl, h1, k1, i1⟩ := open41 t1
  obtain ⟨A2, c2, l2, rfl, h2, k2, i2⟩ := open68 t2
  obtain ⟨A3, c3, l3, rfl, h3, k3, i3⟩ := openU t3
  obtain ⟨A4, c4, l4, rfl, h4, k4, i4⟩ := openU t4
  obtain ⟨A5, c5, l5, rfl, h5, k5, i5⟩ := openU t5
  exact ⟨a0, A1, c1, l1, A2, c2, l2, A3, c3, l3, A4, c4, l4, A5, c5, l5, rfl, wf_i64 w0, ⟨h1, k1, i1⟩, ⟨h2, k2, i2⟩, ⟨h3, k3, i3⟩, ⟨h4, k4, i4⟩, ⟨h5, k5, i5⟩⟩
end Go.Proofs.Yteiiodlgdbiimaa.F
end
section
namespace Go.Proofs.Yteiiodlgdbiimaa.F
open Go.RowKit Go.Shelf Go.Proofs.YteiiodlgdbiimaaW.PrintWords Go.Proofs.YteiiodlgdbiimaaW.PrintLast Go.Proofs.YteiiodlgdbiimaaW.PrintMore
set_option linter.unusedVariables false
set_option linter.unusedSimpArgs false
theorem Ev.ifp {α : Type} {c : Prop} [Decidable c] {g f : Nat → Option α} {r : α} (hc : c) (h : Ev g r) : Ev (fun k => if c then g k else f k) r := Ev.congr (fun k => if_pos hc) h
theorem Ev.ifn {α : Type} {c : Prop} [Decidable c] {g f : Nat → Option α} {r : α} (hc : ¬ c) (h : Ev f r) : Ev (fun k => if c then g k else f k) r := Ev.congr (fun k => if_neg hc) h
theorem half_u32 {x : Int} (h0 : 0 ≤ x) (h1 : x < 4294967296) : (Int.tdiv x 2) % 4294967296 = x / 2 := by
  rw [Int.tdiv_eq_ediv_of_nonneg h0]
  omega
theorem wrap_nat {i : Nat} (h : i < 1000000000) : wrap64 ((i : Int) + 1) = ((i + 1 : Nat) : Int) := by
  have e : ((i + 1 : Nat) : Int) = (i : Int) + 1 := by push_cast; rfl
  rw [e]
  exact wrap64_id (by omega) (by omega)
theorem rd_at {l : List Int} {i : Nat} (h : i < l.length) : rd l (i : Int) = l[i] := by simp [rd, List.getD_eq_getElem?_getD, List.getElem?_eq_getElem h]
theorem rd41_at {l : List S41} {i : Nat} (h : i < l.length) : rd_T41 l (i : Int) = l[i] := by simp [rd_T41, List.getD_eq_getElem?_getD, List.getElem?_eq_getElem h]
theorem rd68_at {l : List S68} {i : Nat} (h : i < l.length) : rd_T68 l (i : Int) = l[i] := by simp [rd_T68, List.getD_eq_getElem?_getD, List.getElem?_eq_getElem h]
section
variable {a0 : Int} {l1 : List S41} {l2 : List S68} {l3 l4 l5 : List Int}
theorem okIn_of (h1 : In41 l1) (h2 : In68 l2) (n1 : l1.length ≤ 1099511627776) (n2 : l2.length ≤ 1099511627776) : okIn l1 l2 = true := by
  simp only [okIn, u32s, Bool.and_eq_true, decide_eq_true_eq, List.all_eq_true, List.mem_map]
  refine ⟨⟨⟨⟨n1, n2⟩, ?_⟩, ?_⟩, ?_⟩
  · rintro x ⟨g, hg, rfl⟩
    exact (h1 g hg).1
  · rintro x ⟨g, hg, rfl⟩
    exact (h2 g hg).1
  · rintro x ⟨g, hg, rfl⟩
    exact (h2 g hg).2
theorem u32s_of {l : List Int} (h : InU32 l) : u32s l = true := by
  simp only [u32s, Bool.and_eq_true, decide_eq_true_eq, List.all_eq_true]
  exact h
end
end Go.Proofs.Yteiiodlgdbiimaa.F
end
section
namespace Go.Proofs.Yteiiodlgdbiimaa.F
open Go.RowKit Go.Proofs.YteiiodlgdbiimaaW.PrintWords Go.Proofs.YteiiodlgdbiimaaW.PrintLast Go.Proofs.YteiiodlgdbiimaaW.PrintMore
attribute [local go_sem] max2_int min2_int max_two min_two max_three min_three max_four min_four
set_option linter.unusedVariables false
set_option linter.unusedSimpArgs false
def strash_Lit.f (l0 : List Int) (a1 : Int) : Option (Int) := if (wrap64 (a1 / 2)) < (l0.length : Int) then (if 0 ≤ (a1 / 2) then (if (a1 / 2) < (l0.length : Int) then (some (Go.bits .xor .u32 (rd l0 (a1 / 2)) (Go.bits .and .u32 a1 1))) else (none)) else (none)) else (some 0)
set_option maxHeartbeats 8000000 in
set_option maxRecDepth 100000 in
theorem strash_Lit.calls (A0 : Option Addr) (c0 : Nat) (l0 : List Int) (a1 : Int) (r : Int) (w : World) (hr0 : Kd.C (Kd.int .u32) w A0 l0.length l0) (hc0 : l0.length ≤ c0) (h : strash_Lit.f l0 a1 = some r) :
    Calls Try.prog 45 #[.slice A0 l0.length c0, .int .u32 a1] w fun e w' => e = .returned (.int .u32 r) ∧ Drawn0 w w' := by
  have HR0 := Aside0.mk hr0
  have HC0 := Aside0.mk hc0
  clear hr0 hc0
  have H : (if (wrap64 (a1 / 2)) < (l0.length : Int) then (if 0 ≤ (a1 / 2) then (if (a1 / 2) < (l0.length : Int) then (some (Go.bits .xor .u32 (rd l0 (a1 / 2)) (Go.bits .and .u32 a1 1))) else (none)) else (none)) else (some 0)) = some r := h
  clear h
  by_cases c3 : (wrap64 (a1 / 2)) < (l0.length : Int)
  · rw [if_pos c3] at H
    have c3b0 : decide ((wrap64 (a1 / 2)) < (l0.length : Int)) = true := decide_eq_true c3
    clear c3
    obtain ⟨ji4, hji4⟩ : ∃ j_ : Int, (a1 / 2) = j_ := ⟨_, rfl⟩
    replace H : (if 0 ≤ (ji4) then (if (ji4) < (l0.length : Int) then (some (Go.bits .xor .u32 (rd l0 (ji4)) (Go.bits .and .u32 a1 1))) else (none)) else (none)) = some r := by first | (rw [hji4] at H; exact H) | (simp only [hji4] at H ⊢; exact H)
    (try rw [hji4] at c3b0)
    by_cases c5 : 0 ≤ (ji4)
    · rw [if_pos c5] at H
      have c5b0 : decide (0 ≤ (ji4)) = true := decide_eq_true c5
      clear c5
      by_cases c6 : (ji4) < (l0.length : Int)
      · rw [if_pos c6] at H
        have c6b0 : decide ((ji4) < (l0.length : Int)) = true := decide_eq_true c6
        clear c6
        obtain rfl := Option.some.inj H
        have p304 : 0 ≤ ((ji4) : Int) := of_decide_eq_true (by first | (with_reducible assumption) | assumption)
        have q304 : (ji4) < (l0.length : Int) := of_decide_eq_true (by first | (with_reducible assumption) | assumption)
        obtain ⟨ad304, e304, hx304_0⟩ := Kd.at_int HR0.out (ji4) p304 q304
        cases e304
        replace p304 := eq_true p304
        replace q304 := eq_true q304
        go_enter Try.func45, Try.ntmps45
        go_wp2
        go_ret
        exact ⟨by first | rfl | (simp; done) | (simp only [← hji4] <;> (first | rfl | simp)) | (simp [*]; done), by repeat (first | exact Drawn0.refl _ | apply Drawn0.step)⟩
      · rw [if_neg c6] at H
        exact absurd H (by simp)
    · rw [if_neg c5] at H
      exact absurd H (by simp)
  · rw [if_neg c3] at H
    have c3b0 : decide ((wrap64 (a1 / 2)) < (l0.length : Int)) = false := decide_eq_false c3
    clear c3
    obtain rfl := Option.some.inj H
    go_enter Try.func45, Try.ntmps45
    go_wp2
    go_ret
    exact ⟨by first | rfl | (simp; done) | (simp [*]; done), by repeat (first | exact Drawn0.refl _ | apply Drawn0.step)⟩
end Go.Proofs.Yteiiodlgdbiimaa.F
end
section
namespace Go.Proofs.Yteiiodlgdbiimaa.F
open Go.RowKit Go.Shelf Go.Proofs.YteiiodlgdbiimaaW.PrintWords Go.Proofs.YteiiodlgdbiimaaW.PrintLast Go.Proofs.YteiiodlgdbiimaaW.PrintMore
set_option linter.unusedVariables false
set_option linter.unusedSimpArgs false
theorem u32_nat {x : Int} (h0 : 0 ≤ x) (h1 : x < 4294967296) : ∃ n : Nat, x = (n : Int) ∧ n < 2 ^ 32 := by
  obtain ⟨n, rfl⟩ := Int.eq_ofNat_of_zero_le h0
  exact ⟨n, rfl, by omega⟩
theorem xor_one {x : Int} (h0 : 0 ≤ x) (h1 : x < 4294967296) : Go.bits .xor .u32 x 1 = 2 * (x / 2) + (x + 1) % 2 := by
  obtain ⟨n, rfl, hn⟩ := u32_nat h0 h1
  have e : Go.bits .xor .u32 (n : Int) 1 = IntKind.u32.wrap ((n ^^^ 1 : Nat) : Int) := by
    have h32 : IntKind.u32.bits = 32 := rfl
    simp only [Go.bits, h32]
    have h1' : (1 : Int) = ((1 : Nat) : Int) := rfl
    rw [h1', BitVec.ofInt_natCast, BitVec.ofInt_natCast, BitVec.toNat_xor, BitVec.toNat_ofNat, BitVec.toNat_ofNat, h32, Nat.mod_eq_of_lt hn]
  have hd : (n ^^^ 1) / 2 = n / 2 := by rw [Nat.xor_div_two]; simp
  have hm : (n ^^^ 1) % 2 = (n + 1) % 2 := by
    have ht := Nat.testBit_xor n 1 0
    simp only [Nat.testBit_zero] at ht
    rw [show decide True = true from rfl] at ht
    by_cases hc : n % 2 = 1
    · rw [decide_eq_true hc] at ht
      have := of_decide_eq_false (show decide ((n ^^^ 1) % 2 = 1) = false from ht)
      omega
    · rw [decide_eq_false hc] at ht
      have := of_decide_eq_true (show decide ((n ^^^ 1) % 2 = 1) = true from ht)
      omega
  rw [e, u32_id (by omega) (by omega)]
  omega
theorem xor_zero32 {x : Int} (h0 : 0 ≤ x) (h1 : x < 4294967296) : Go.bits .xor .u32 x 0 = x := by
  obtain ⟨n, rfl, hn⟩ := u32_nat h0 h1
  have e : Go.bits .xor .u32 (n : Int) 0 = IntKind.u32.wrap ((n ^^^ 0 : Nat) : Int) := by
    have h32 : IntKind.u32.bits = 32 := rfl
    simp only [Go.bits, h32]
    have h1' : (0 : Int) = ((0 : Nat) : Int) := rfl
    rw [h1', BitVec.ofInt_natCast, BitVec.ofInt_natCast, BitVec.toNat_xor, BitVec.toNat_ofNat, BitVec.toNat_ofNat, h32, Nat.mod_eq_of_lt hn]
  rw [e, Nat.xor_zero, u32_id (by omega) (by omega)]
theorem and_one {x : Int} (h0 : 0 ≤ x) (h1 : x < 4294967296) : Go.bits .and .u32 x 1 = x % 2 := by
  obtain ⟨n, rfl, hn⟩ := u32_nat h0 h1
  have e : Go.bits .and .u32 (n : Int) 1 = IntKind.u32.wrap ((n &&& 1 : Nat) : Int) := by
    have h32 : IntKind.u32.bits = 32 := rfl
    simp only [Go.bits, h32]
    have h1' : (1 : Int) = ((1 : Nat) : Int) := rfl
    rw [h1', BitVec.ofInt_natCast, BitVec.ofInt_natCast, BitVec.toNat_and, BitVec.toNat_ofNat, BitVec.toNat_ofNat, h32, Nat.mod_eq_of_lt hn]
  rw [e, Nat.and_one_is_mod, u32_id (by omega) (by omega)]
  omega
theorem xinfoU' : (Try.prog.info? 39).map (fun i => (i.zero, i.size, i.bytes)) = some (some (.int .u32 0), 1, 4) := by kernel_rfl
theorem take_next {α : Type} {l : List α} {k : Nat} (h : k < l.length) : l.take (k + 1) = l.take k ++ [l[k]] := by
  rw [List.take_add_one, List.getElem?_eq_getElem h]
  rfl
def litP (tl : List Int) (x : Int) : Int := if x / 2 < (tl.length : Int) then Go.bits .xor .u32 (rd tl (x / 2)) (Go.bits .and .u32 x 1) else 0
theorem lit_is {tl : List Int} {x : Int} (h0 : 0 ≤ x) (h1 : x < 4294967296) : strash_Lit.f tl x = some (litP tl x) := by
  unfold strash_Lit.f litP
  rw [wrap64_id (by omega) (by omega)]
  split
  · rename_i h
    have h2 : 0 ≤ x / 2 := by omega
    simp only [h, h2, if_true]
  · rfl
theorem rd_u32 {tl : List Int} (ht : InU32 tl) (i : Int) : 0 ≤ rd tl i ∧ rd tl i < 4294967296 := by
  unfold rd
  rw [List.getD_eq_getElem?_getD]
  cases h : tl[i.toNat]? with
  | none => simp
  | some v => exact ht v (List.mem_of_getElem? h)
theorem litP_u32 {tl : List Int} (ht : InU32 tl) {x : Int} (h0 : 0 ≤ x) (h1 : x < 4294967296) : 0 ≤ litP tl x ∧ litP tl x < 4294967296 := by
  unfold litP
  have hr := rd_u32 ht (x / 2)
  split
  · rw [and_one h0 h1]
    rcases (show x % 2 = 0 ∨ x % 2 = 1 by omega) with e | e
    · rw [e, xor_zero32 hr.1 hr.2]
      exact hr
    · rw [e, xor_one hr.1 hr.2]
      omega
  · omega
set_option maxHeartbeats 4000000 in
set_option maxRecDepth 100000 in
theorem lits104 (tl : List Int) (At : Option Addr) (ct g5 : Nat) (l : List Int) (A : Option Addr) (c : Nat) (w : World) (hl : Kd.C (Kd.int .u32) w A l.length l) (hu : InU32 l) (hn : l.length ≤ 5000) (hto : Kd.C (Kd.int .u32) w At tl.length tl) (hct : tl.length ≤ ct)
    (hb : w.heap[g5]? = some (.cells #[.slice At tl.length ct] 24 (0, 0))) :
    Calls Try.prog 104 #[.slice A l.length c, .pointer (some ⟨g5, 0, none⟩)] w fun e w' => ∃ v : Value, e = .returned v ∧ Kd.R (Kd.int .u32) 39 w' w.heap.size (fun _ => True) v (l.map (litP tl)) ∧ Below w.heap.size w w' := by
  have HL := Aside0.mk hl
  have HU := Aside0.mk hu
  have HN := Aside0.mk hn
  have HT := Aside0.mk hto
  have HB5 := Aside0.mk hb
  clear hl hu hn hto hb
  go_enter Try.func104, Try.ntmps104
  go_wp2
  go_loopg [3, 8] l.length (fun gg v3 v8 wr => ∃ (k : Nat) (ys : List Int), l.length - k ≤ gg ∧ v8 = .int .i64 k ∧ Aside0 (k ≤ l.length) ∧ Aside0 (ys = (l.take k).map (litP tl)) ∧ Aside0 (Below w.heap.size w wr) ∧ Aside0 (Kd.R (Kd.int .u32) 39 wr w.heap.size (fun _ => True) v3 ys))
  case atStart => exact ⟨0, [], by omega, rfl, ⟨Nat.zero_le _⟩, ⟨rfl⟩, ⟨Below.refl _ _⟩, ⟨Kd.R_nil _ _ _ _ _⟩⟩
  case round =>
    obtain ⟨k, ys, hg, rfl, HKP, HY, HBL, HR⟩ := hrel
    have hln := HN.out
    by_cases hlt : k < l.length
    · have hltz : (k : Int) < (l.length : Int) := by omega
      obtain ⟨ad, e, xq⟩ := Kd.at_int (Kd.C_below HL.out HBL.out) (k : Int) (by omega) hltz
      cases e
      have ek : (k : Int).toNat = k := by omega
      rw [ek] at xq
      clear ek
      have hx : 0 ≤ rd l (k : Int) ∧ rd l (k : Int) < 4294967296 := rd_u32 HU.out _
      have E : Aside0 (ys ++ [litP tl (rd l (k : Int))] = (l.take (k + 1)).map (litP tl)) := ⟨by rw [HY.out, take_next hlt, List.map_append, rd_at hlt]; rfl⟩
      have HYL := Aside0.mk (show ys.length ≤ 5000 from by rw [HY.out]; simp; omega)
      generalize rd l (k : Int) = x at xq hx E
      have HX := Aside0.mk hx
      have z5 : wr.cell? ⟨g5, 0, none⟩ = some (.slice At tl.length ct) := (blk_cell (blk_below HB5.out HBL.out) 0).trans rfl
      obtain ⟨A3, c3, rfl⟩ := Kd.R_slice HR.out
      clear hx HY
      go_wp2_with (first | (go_at_call 45; refine (strash_Lit.calls At ct tl x (litP tl x) _ (Kd.C_below HT.out HBL.out) hct (lit_is HX.out.1 HX.out.2)).mono ?_; rintro e w2 ⟨rfl, hd⟩; have HD := Aside0.mk (below_step HBL.out hd.below); have HRD := Aside0.mk (Kd.R_below HR.out hd.below); clear hd z5 xq) | ((with_reducible refine gate_builtin (b := .append) (xs := #[.tmp 12, .tmp 16]) rfl ?_); at_builtin; refine Kd.R_append (Kd.int .u32) (w0 := w) w.heap.size rfl (.tmp 12) (.tmp 16) 24 39 (.int .u32 0) 4 rfl Try.underlying24 xinfoU' rfl (by decide) (by omega) (.slice A3 ys.length c3) ys (litP tl x) [.int .u32 (litP tl x)] (fun _ => True) (fun _ => False) rfl (by first | (go_simp; done) | (go_simp; rfl)) rfl (fun _ hk => hk.elim) (fun _ _ => trivial) HRD.out HD.out HD.out.size (by have := HYL.out; omega) ?_; intro v1 w3 hR hB _ _; have HR3 := Aside0.mk hR; have HB3 := Aside0.mk hB; clear hR hB))
      go_wp2
      go_roundg (l.length - (k + 1))
      case measure => omega
      case rel => exact ⟨k + 1, _, by omega, by go_num, ⟨by omega⟩, E, HB3, HR3⟩
    · have hltz : ¬ (k : Int) < (l.length : Int) := by omega
      have E : Aside0 (ys = l.map (litP tl)) := ⟨by rw [HY.out, List.take_of_length_le (by omega)]⟩
      go_wp2
      go_ret
      exact ⟨_, rfl, by rw [← E.out]; exact HR.out, HBL.out⟩
end Go.Proofs.Yteiiodlgdbiimaa.F
end
section
namespace Go.Proofs.Yteiiodlgdbiimaa.F
open Go.RowKit Go.Shelf Go.Proofs.YteiiodlgdbiimaaW.PrintWords Go.Proofs.YteiiodlgdbiimaaW.PrintLast Go.Proofs.YteiiodlgdbiimaaW.PrintMore
set_option linter.unusedVariables false
set_option linter.unusedSimpArgs false
theorem idxG_lt {gs : List S68} {a b : Int} {j : Nat} (h : idxG gs a b = some j) : j < gs.length := by
  obtain ⟨⟨g, hg, _⟩, _⟩ := idxG_some gs j h
  exact (List.getElem?_eq_some_iff.1 hg).1
theorem gateP_ok {first : Int} {gs : List S68} {a b : Int} (hf : 0 ≤ first ∧ first ≤ 40000) (hl : gs.length ≤ 40000) (ha : 0 ≤ a ∧ a < 4294967296) (hb : 0 ≤ b ∧ b < 4294967296) :
    (0 ≤ (gateP first gs a b).1 ∧ (gateP first gs a b).1 < 4294967296) ∧ (gateP first gs a b).2.length ≤ gs.length + 1 := by
  have hHI : 0 ≤ mx a b ∧ mx a b < 4294967296 := by unfold mx; split <;> omega
  unfold gateP
  split
  · exact ⟨⟨by dsimp only; omega, by dsimp only; omega⟩, Nat.le_succ _⟩
  split
  · exact ⟨⟨by dsimp only; omega, by dsimp only; omega⟩, Nat.le_succ _⟩
  split
  · exact ⟨hHI, Nat.le_succ _⟩
  split
  · exact ⟨hHI, Nat.le_succ _⟩
  cases h : idxG gs (mx a b) (mn a b) with
  | some j =>
    have := idxG_lt h
    exact ⟨⟨by dsimp only; omega, by dsimp only; omega⟩, Nat.le_succ _⟩
  | none => exact ⟨⟨by dsimp only; omega, by dsimp only; omega⟩, by simp⟩
def stepW (first : Int) (l2 : List S68) (s : List Int × List S68) (v : Nat) (x : Int) : List Int × List S68 :=
  if x ≠ 2 then (s.1 ++ [x], s.2) else if (v : Int) < first then (s.1 ++ [2 * (v : Int)], s.2)
  else (s.1 ++ [(gateP first s.2 (litP s.1 (rd_T68 l2 ((v : Int) - first)).f0) (litP s.1 (rd_T68 l2 ((v : Int) - first)).f1)).1], (gateP first s.2 (litP s.1 (rd_T68 l2 ((v : Int) - first)).f0) (litP s.1 (rd_T68 l2 ((v : Int) - first)).f1)).2)
def runW (first : Int) (l2 : List S68) (is : List Int) : Nat → List Int × List S68
  | 0 => ([], [])
  | k + 1 => stepW first l2 (runW first l2 is k) k (rd is (k : Int))
theorem rd68_ok {l2 : List S68} (h : In68 l2) (i : Int) : (0 ≤ (rd_T68 l2 i).f0 ∧ (rd_T68 l2 i).f0 < 4294967296) ∧ (0 ≤ (rd_T68 l2 i).f1 ∧ (rd_T68 l2 i).f1 < 4294967296) := by
  unfold rd_T68
  rw [List.getD_eq_getElem?_getD]
  cases hg : l2[i.toNat]? with
  | none => exact ⟨⟨by decide, by decide⟩, ⟨by decide, by decide⟩⟩
  | some g => exact h g (List.mem_of_getElem? hg)
theorem rd_u8 {is : List Int} (h : InU8 is) (i : Int) : 0 ≤ rd is i ∧ rd is i < 256 := by
  unfold rd
  rw [List.getD_eq_getElem?_getD]
  cases hg : is[i.toNat]? with
  | none => exact ⟨by decide, by decide⟩
  | some g => exact h g (List.mem_of_getElem? hg)
theorem runW_ok {first : Int} {l2 : List S68} {is : List Int} (hf : 0 ≤ first ∧ first ≤ 40000) (h2 : In68 l2) (hi : InU8 is) : ∀ k : Nat, k ≤ 40000 → (runW first l2 is k).1.length = k ∧ (runW first l2 is k).2.length ≤ k ∧ InU32 (runW first l2 is k).1
  | 0, _ => ⟨rfl, Nat.le_refl _, fun x hx => by cases hx⟩
  | k + 1, hk => by
    obtain ⟨i1, i2, i3⟩ := runW_ok hf h2 hi k (by omega)
    have hx := rd_u8 hi (k : Int)
    unfold runW
    generalize runW first l2 is k = s at i1 i2 i3 ⊢
    unfold stepW
    have snoc : ∀ y : Int, 0 ≤ y → y < 4294967296 → InU32 (s.1 ++ [y]) := fun y h0 h1 z hz => by
      rcases List.mem_append.1 hz with hz | hz
      · exact i3 z hz
      · rw [List.mem_singleton.1 hz]
        exact ⟨h0, h1⟩
    split
    · exact ⟨by simp [i1], by simp; omega, snoc _ (by omega) (by omega)⟩
    · split
      · exact ⟨by simp [i1], by simp; omega, snoc _ (by omega) (by omega)⟩
      · have hg := rd68_ok h2 ((k : Int) - first)
        have hG := gateP_ok (gs := s.2) hf (by omega) (litP_u32 i3 hg.1.1 hg.1.2) (litP_u32 i3 hg.2.1 hg.2.2)
        exact ⟨by simp [i1], by dsimp only; omega, snoc _ hG.1.1 hG.1.2⟩
theorem MkSt.over {first : Int} {gs : List S68} {w0 : World} {gm mb : Nat} {W w1 : World} {v : Value} {xs : List Int} (h : MkSt first gs w0 gm mb W) (hR : Kd.R (Kd.int .u32) 39 W w0.heap.size (fun _ => True) v xs) (hB : Below w0.heap.size w0 w1) (hg : W.grownBy w1 v.ownBlock) : MkSt first gs w0 gm mb w1 := by
  obtain ⟨vg, hk, hq⟩ := h.st
  refine ⟨hB, h.gm0, h.mb0, h.ok, h.ap, blk_grown h.map hg (fun e => ?_), vg, blk_grown hk hg (Kd.R_ne hR hk (by decide)), Kd.R_over' hq (Kd.R_typed hR) (by decide) hg⟩
  obtain ⟨cs, hc⟩ := Kd.R_typed hR mb e.symm
  rw [h.map] at hc
  cases hc
theorem MkSt.set {first : Int} {gs : List S68} {w0 : World} {gm mb : Nat} {W : World} (h : MkSt first gs w0 gm mb W) {g t : Nat} {cells : Array Value} (hk : W.heap[g]? = some (.cells cells t (0, 0))) (h1 : t ≠ 123) (h2 : t ≠ 68) (hg : w0.heap.size ≤ g) (i : Nat) (u : Value) : MkSt first gs w0 gm mb (W.setCell ⟨g, i, none⟩ u) := by
  obtain ⟨vg, hb, hq⟩ := h.st
  refine ⟨h.below.setCell (p := ⟨g, i, none⟩) hg u, h.gm0, h.mb0, h.ok, h.ap, (Below.heap_setCell _ _ _ mb (fun e => ?_)).trans h.map, vg, blk_far hb (p := ⟨g, i, none⟩) (blk_ne hb hk (fun e => h1 e.symm)) u, ?_⟩
  · have e' : mb = g := e
    rw [← e', h.map] at hk
    cases hk
  · refine Kd.R_set hq hk ?_ i u
    intro q hq'
    have : q = 68 := by simpa [k68, Kd.iso, Kd.pair, Kd.int, Kd.scalar] using hq'
    rw [this]
    exact fun e => h2 e.symm
structure WiSt (a0 : Int) (A1 : Option Addr) (c1 : Nat) (l1 : List S41) (A2 : Option Addr) (c2 : Nat) (l2 : List S68) (A3 : Option Addr) (c3 : Nat) (l3 : List Int) (A4 : Option Addr) (c4 : Nat) (l4 : List Int) (A5 : Option Addr) (c5 : Nat) (l5 : List Int) (w0 : World) (g4 g5 gm mb : Nat) (first : Int) (tl : List Int) (gs : List S68) (W : World) : Prop where
  mkr : MkSt first gs w0 gm mb W
  k2 : W.heap[w0.heap.size]? = some (.cells #[.int .i64 a0, .slice A1 l1.length c1, .slice A2 l2.length c2, .slice A3 l3.length c3, .slice A4 l4.length c4, .slice A5 l5.length c5] 26 (0, 0))
  k4 : W.heap[g4]? = some (.cells #[.int .i64 0, .slice none 0 0, .slice none 0 0, .slice none 0 0, .slice none 0 0, .slice none 0 0] 26 (0, 0))
  h4 : w0.heap.size < g4
  h5 : w0.heap.size ≤ g5
  k5 : ∃ vt, W.heap[g5]? = some (.cells #[vt] 24 (0, 0)) ∧ Kd.R (Kd.int .u32) 39 W w0.heap.size (fun _ => True) vt tl
section
variable {a0 : Int} {A1 : Option Addr} {c1 : Nat} {l1 : List S41} {A2 : Option Addr} {c2 : Nat} {l2 : List S68} {A3 : Option Addr} {c3 : Nat} {l3 : List Int} {A4 : Option Addr} {c4 : Nat} {l4 : List Int} {A5 : Option Addr} {c5 : Nat} {l5 : List Int} {w0 : World} {g4 g5 gm mb : Nat} {first : Int} {tl : List Int} {gs : List S68} {W W' : World}
theorem WiSt.step (h : WiSt a0 A1 c1 l1 A2 c2 l2 A3 c3 l3 A4 c4 l4 A5 c5 l5 w0 g4 g5 gm mb first tl gs W) (hb : Below W.heap.size W W') : WiSt a0 A1 c1 l1 A2 c2 l2 A3 c3 l3 A4 c4 l4 A5 c5 l5 w0 g4 g5 gm mb first tl gs W' := by
  obtain ⟨vt, k, r⟩ := h.k5
  exact ⟨h.mkr.step hb, blk_below h.k2 hb, blk_below h.k4 hb, h.h4, h.h5, vt, blk_below k hb, Kd.R_below r hb⟩
theorem WiSt.gated (h : WiSt a0 A1 c1 l1 A2 c2 l2 A3 c3 l3 A4 c4 l4 A5 c5 l5 w0 g4 g5 gm mb first tl gs W) {gs' : List S68} (hm : MkSt first gs' w0 gm mb W') (ho : OthersG W W') : WiSt a0 A1 c1 l1 A2 c2 l2 A3 c3 l3 A4 c4 l4 A5 c5 l5 w0 g4 g5 gm mb first tl gs' W' := by
  obtain ⟨vt, k, r⟩ := h.k5
  exact ⟨hm, ho _ _ _ h.k2 (by decide) (by decide), ho _ _ _ h.k4 (by decide) (by decide), h.h4, h.h5, vt, ho _ _ _ k (by decide) (by decide), R_othersG r ho⟩
theorem WiSt.appended (h : WiSt a0 A1 c1 l1 A2 c2 l2 A3 c3 l3 A4 c4 l4 A5 c5 l5 w0 g4 g5 gm mb first tl gs W) {vt v1 : Value} {w1 : World} {x : Int} (hk : W.heap[g5]? = some (.cells #[vt] 24 (0, 0))) (hr : Kd.R (Kd.int .u32) 39 W w0.heap.size (fun _ => True) vt tl)
    (hR : Kd.R (Kd.int .u32) 39 w1 w0.heap.size (fun _ => True) v1 (tl ++ [x])) (hB : Below w0.heap.size w0 w1) (hg : W.grownBy w1 vt.ownBlock) :
    WiSt a0 A1 c1 l1 A2 c2 l2 A3 c3 l3 A4 c4 l4 A5 c5 l5 w0 g4 g5 gm mb first (tl ++ [x]) gs (w1.setCell ⟨g5, 0, none⟩ v1) ∧ w1.heap[g5]? = some (.cells #[vt] 24 (0, 0)) := by
  have k5 := blk_grown hk hg (Kd.R_ne hr hk (by decide))
  have k2 := blk_grown h.k2 hg (Kd.R_ne hr h.k2 (by decide))
  have k4 := blk_grown h.k4 hg (Kd.R_ne hr h.k4 (by decide))
  exact ⟨⟨(h.mkr.over hr hB hg).set k5 (by decide) (by decide) h.h5 0 v1, blk_far k2 (p := ⟨g5, 0, none⟩) (blk_ne k2 k5 (by decide)) v1, blk_far k4 (p := ⟨g5, 0, none⟩) (blk_ne k4 k5 (by decide)) v1, h.h4, h.h5, v1, by simpa using blk_set k5 0 v1, Kd.R_set hR k5 (by decide) 0 v1⟩, k5⟩
end
def withOk (a0 : Int) (l1 : List S41) (l2 : List S68) (l3 l4 l5 is : List Int) : Prop := mayB a0 l1 l2 l3 l4 l5 = true ∧ (is.length : Int) = a0 + (l1.length : Int) + (l2.length : Int) + 1 ∧ rd is 0 = 0 ∧ is.all (fun x => decide (x ≤ 2)) = true
instance (a0 : Int) (l1 : List S41) (l2 : List S68) (l3 l4 l5 is : List Int) : Decidable (withOk a0 l1 l2 l3 l4 l5 is) := by unfold withOk; infer_instance
def u8s (l : List Int) : Bool := l.all fun x => decide (0 ≤ x) && decide (x < 256)
def wasW (a0 : Int) (l1 : List S41) (l2 : List S68) (is : List Int) : List Int × List S68 := runW (1 + a0 + (l1.length : Int)) l2 is is.length
def strash_With.f (a0_0 : Int) (l0_1 : List (S41)) (l0_2 : List (S68)) (l0_3 : List Int) (l0_4 : List Int) (l0_5 : List Int) (l1 : List Int) : Option (Int × (List (S41)) × (List (S68)) × List Int × List Int × List Int × List Int × Int) :=
  if okIn l0_1 l0_2 = true ∧ u32s l0_3 = true ∧ u32s l0_4 = true ∧ u32s l0_5 = true ∧ u8s l1 = true ∧ u8s (l0_1.map (·.f1)) = true then
    if withOk a0_0 l0_1 l0_2 l0_3 l0_4 l0_5 l1 then some (a0_0, l0_1.map (fun g => ⟨litP (wasW a0_0 l0_1 l0_2 l1).1 g.f0, g.f1⟩), (wasW a0_0 l0_1 l0_2 l1).2, l0_3.map (litP (wasW a0_0 l0_1 l0_2 l1).1), l0_4.map (litP (wasW a0_0 l0_1 l0_2 l1).1), l0_5.map (litP (wasW a0_0 l0_1 l0_2 l1).1), (wasW a0_0 l0_1 l0_2 l1).1, 0)
    else some (0, [], [], [], [], [], [], 2)
  else none
end Go.Proofs.Yteiiodlgdbiimaa.F
end
