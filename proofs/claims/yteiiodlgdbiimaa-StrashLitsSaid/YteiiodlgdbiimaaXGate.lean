/- (*maker).gate of strash: what a gate of two literals becomes, in a list of gates of which no two are alike. -/
import Derived.Test.YteiiodlgdbiimaaXKey
namespace Go.Proofs.Yteiiodlgdbiimaa.F
open Go.RowKit Go.Shelf Go.ChangeMaps Go.MapKept Go.Proofs.YteiiodlgdbiimaaW.PrintWords Go.Proofs.YteiiodlgdbiimaaW.PrintLast Go.Proofs.YteiiodlgdbiimaaW.PrintMore
set_option linter.unusedVariables false
set_option linter.unusedSimpArgs false
attribute [local go_sem] max2_int min2_int max_two min_two max_three min_three max_four min_four

/-- what stays, whatever a maker's gate does: all rows and boxes but makers and rows of gates -/
def OthersG (W W' : World) : Prop := ∀ (b : Nat) (cs : Array Value) (t : TypeId), W.heap[b]? = some (.cells cs t (0, 0)) → t ≠ 123 → t ≠ 68 → W'.heap[b]? = some (.cells cs t (0, 0))
theorem OthersG.refl (W : World) : OthersG W W := fun _ _ _ h _ _ => h
theorem OthersG.trans {W W1 W2 : World} (h : OthersG W W1) (k : OthersG W1 W2) : OthersG W W2 := fun b cs t hb h1 h2 => k b cs t (h b cs t hb h1 h2) h1 h2
theorem OthersG.below {W W1 : World} (h : Below W.heap.size W W1) : OthersG W W1 := fun b cs t hb _ _ => blk_below hb h
theorem R_othersG {W W' : World} {base : Nat} {v : Value} {xs : List Int} (h : Kd.R (Kd.int .u32) 39 W base (fun _ => True) v xs) (ho : OthersG W W') : Kd.R (Kd.int .u32) 39 W' base (fun _ => True) v xs :=
  Kd.R_mono (Kd.R_move (Kd.R_tight rfl h) (fun k hk => by
    obtain ⟨cs, hc⟩ := Kd.R_typed h k hk.symm
    rw [hc]
    exact ho k cs 39 hc (by decide) (by decide))) (fun _ _ => trivial)
/-- blocks of gates stay, but for a maker's own row -/
def Keeps68 (first : Int) (gm mb : Nat) (W W' : World) : Prop := ∀ (b : Nat) (cs : Array Value), W.heap[b]? = some (.cells cs 68 (0, 0)) → (∀ vg, W.heap[gm]? = some (.cells #[.int .u32 first, vg, .map (some mb)] 123 (0, 0)) → some b ≠ vg.ownBlock) → W'.heap[b]? = some (.cells cs 68 (0, 0))
structure MkSt (first : Int) (gs : List S68) (w0 : World) (gm mb : Nat) (W : World) : Prop where
  below : Below w0.heap.size w0 W
  gm0 : w0.heap.size ≤ gm
  mb0 : w0.heap.size ≤ mb
  ok : ∀ g ∈ gs, Gate32 g
  ap : Apart68 gs
  map : W.heap[mb]? = some (.map (entG first gs).toArray gs.length)
  st : ∃ vg, W.heap[gm]? = some (.cells #[.int .u32 first, vg, .map (some mb)] 123 (0, 0)) ∧ Kd.R k68 68 W w0.heap.size (fun _ => True) vg gs
theorem MkSt.step {first : Int} {gs : List S68} {w0 : World} {gm mb : Nat} {W W' : World} (h : MkSt first gs w0 gm mb W) (hb : Below W.heap.size W W') : MkSt first gs w0 gm mb W' := by
  obtain ⟨vg, hk, hq⟩ := h.st
  exact ⟨below_step h.below hb, h.gm0, h.mb0, h.ok, h.ap, blk_below h.map hb, vg, blk_below hk hb, Kd.R_below hq hb⟩
theorem setBlock_grown {w : World} {b : Nat} {es : Array MapEntry} {k : Nat} {o' : Obj} (h : w.heap[b]? = some (.map es k)) : w.grownBy (setBlock w b o') (some b) := ⟨rfl, rfl, rfl, by simp [setBlock], fun i _ hi => heap_setBlock_other h _ (fun e => hi (by rw [e]))⟩
theorem Apart68.snoc {gs : List S68} (h : Apart68 gs) {a b : Int} (hn : ∀ g ∈ gs, ¬ (g.f0 = a ∧ g.f1 = b)) : Apart68 (gs ++ [⟨a, b⟩]) := by
  intro i j g k hg hk e0 e1
  by_cases hi : i < gs.length <;> by_cases hj : j < gs.length
  · rw [List.getElem?_append_left hi] at hg
    rw [List.getElem?_append_left hj] at hk
    exact h i j g k hg hk e0 e1
  · rw [List.getElem?_append_left hi] at hg
    have hj2 : j = gs.length := by have := (List.getElem?_eq_some_iff.1 hk).1; simp at this; omega
    subst hj2
    simp at hk
    subst hk
    exact absurd ⟨e0, e1⟩ (hn g (List.mem_of_getElem? hg))
  · rw [List.getElem?_append_left hj] at hk
    have hi2 : i = gs.length := by have := (List.getElem?_eq_some_iff.1 hg).1; simp at this; omega
    subst hi2
    simp at hg
    subst hg
    exact absurd ⟨e0.symm, e1.symm⟩ (hn k (List.mem_of_getElem? hk))
  · have hi2 := (List.getElem?_eq_some_iff.1 hg).1
    have hj2 := (List.getElem?_eq_some_iff.1 hk).1
    simp at hi2 hj2
    omega
/-- behind the append, the map's new entry and the maker's new slice -/
theorem MkSt.added {first : Int} {gs : List S68} {w0 : World} {gm mb : Nat} {W w1 : World} {vg v1 : Value} {a b : Int} (h : MkSt first gs w0 gm mb W) (hk : W.heap[gm]? = some (.cells #[.int .u32 first, vg, .map (some mb)] 123 (0, 0))) (hq : Kd.R k68 68 W w0.heap.size (fun _ => True) vg gs)
    (hn : ∀ g ∈ gs, ¬ (g.f0 = a ∧ g.f1 = b)) (ha : 0 ≤ a ∧ a < 4294967296) (hb : 0 ≤ b ∧ b < 4294967296)
    (hR : Kd.R k68 68 w1 w0.heap.size (fun _ => True) v1 (gs ++ [⟨a, b⟩])) (hB : Below w0.heap.size w0 w1) (hg : W.grownBy w1 vg.ownBlock) (es1 es2 : Array MapEntry) (k1 k2 : Nat) (hm2 : es2 = (entG first (gs ++ [⟨a, b⟩])).toArray ∧ k2 = (gs ++ [(⟨a, b⟩ : S68)]).length) :
    MkSt first (gs ++ [⟨a, b⟩]) w0 gm mb ((setBlock (setBlock w1 mb (.map es1 k1)) mb (.map es2 k2)).setCell ⟨gm, 1, none⟩ v1) ∧ OthersG W ((setBlock (setBlock w1 mb (.map es1 k1)) mb (.map es2 k2)).setCell ⟨gm, 1, none⟩ v1) ∧ w1.heap[gm]? = some (.cells #[.int .u32 first, vg, .map (some mb)] 123 (0, 0)) ∧ w1.heap[mb]? = some (.map (entG first gs).toArray gs.length)
      ∧ (setBlock (setBlock w1 mb (.map es1 k1)) mb (.map es2 k2)).heap[gm]? = some (.cells #[.int .u32 first, vg, .map (some mb)] 123 (0, 0))
      ∧ (∀ (b' : Nat) (cs : Array Value), W.heap[b']? = some (.cells cs 68 (0, 0)) → some b' ≠ vg.ownBlock → ((setBlock (setBlock w1 mb (.map es1 k1)) mb (.map es2 k2)).setCell ⟨gm, 1, none⟩ v1).heap[b']? = some (.cells cs 68 (0, 0))) := by
  have hk1 := blk_grown hk hg (Kd.R_ne hq hk (by decide))
  have hm1 : w1.heap[mb]? = some (.map (entG first gs).toArray gs.length) := blk_grown h.map hg (fun e => by
    obtain ⟨cs, hc⟩ := Kd.R_typed hq mb e.symm
    rw [h.map] at hc
    cases hc)
  have hne : gm ≠ mb := fun e => by rw [e, hm1] at hk1; cases hk1
  have g1 := setBlock_grown (o' := .map es1 k1) hm1
  have hm2' : (setBlock w1 mb (.map es1 k1)).heap[mb]? = some (.map es1 k1) := heap_setBlock_same hm1 _
  have g2 := setBlock_grown (o' := .map es2 k2) hm2'
  have hm3 : (setBlock (setBlock w1 mb (.map es1 k1)) mb (.map es2 k2)).heap[mb]? = some (.map es2 k2) := heap_setBlock_same hm2' _
  have hx : ∀ (k : Nat) (cs : Array Value) (t : TypeId), w1.heap[k]? = some (.cells cs t (0, 0)) → (setBlock (setBlock w1 mb (.map es1 k1)) mb (.map es2 k2)).heap[k]? = some (.cells cs t (0, 0)) := fun k cs t hc => by
    have hkm : k ≠ mb := fun e => by rw [e, hm1] at hc; cases hc
    exact (heap_setBlock_other hm2' _ hkm).trans ((heap_setBlock_other hm1 _ hkm).trans hc)
  have hB2 : Below w0.heap.size w0 (setBlock (setBlock w1 mb (.map es1 k1)) mb (.map es2 k2)) := (hB.grown g1 hB.size (fun r e => by cases e; exact h.mb0)).grown g2 (Nat.le_trans hB.size g1.size) (fun r e => by cases e; exact h.mb0)
  have hR2 : Kd.R k68 68 (setBlock (setBlock w1 mb (.map es1 k1)) mb (.map es2 k2)) w0.heap.size (fun _ => True) v1 (gs ++ [⟨a, b⟩]) := Kd.R_mono (Kd.R_move (Kd.R_bound hR) (fun k hk => by
    obtain ⟨_, _, _, q, _, cells, hc⟩ := hk
    rw [hc]
    exact hx k cells q hc)) (fun _ _ => trivial)
  have hk3 := hx gm _ _ hk1
  refine ⟨⟨hB2.setCell (p := ⟨gm, 1, none⟩) h.gm0 v1, h.gm0, h.mb0, fun g hg => ?_, h.ap.snoc hn, ?_, v1, by simpa using blk_set hk3 1 v1, Kd.R_set hR2 hk3 (by decide) 1 v1⟩, fun b' cs t hb' h1 h2 => ?_, hk1, hm1, hk3, fun b' cs hb' hne' => ?_⟩
  · rcases List.mem_append.1 hg with hg | hg
    · exact h.ok g hg
    · rw [List.mem_singleton.1 hg]
      exact ⟨ha, hb⟩
  · rw [Below.heap_setCell _ _ _ mb (fun e => hne e.symm), hm3, hm2.1, hm2.2]
  · have e1 := blk_grown hb' hg (Kd.R_ne hq hb' (fun e => h2 e.symm))
    have e2 := hx b' cs t e1
    exact blk_far e2 (p := ⟨gm, 1, none⟩) (blk_ne e2 hk3 h1) v1
  · have e2 := hx b' cs 68 (blk_grown hb' hg hne')
    exact blk_far e2 (p := ⟨gm, 1, none⟩) (blk_ne e2 hk3 (by decide)) v1
def gateP (first : Int) (gs : List S68) (a b : Int) : Int × List S68 :=
  if mn a b = 0 then (0, gs) else if mx a b = Go.bits .xor .u32 (mn a b) 1 then (0, gs) else if mn a b = 1 then (mx a b, gs) else if mx a b = mn a b then (mx a b, gs)
  else match idxG gs (mx a b) (mn a b) with
    | some j => (2 * (first + (j : Int)), gs)
    | none => (2 * (first + (gs.length : Int)), gs ++ [⟨mx a b, mn a b⟩])

set_option maxHeartbeats 8000000 in
set_option maxRecDepth 100000 in
theorem gate103 (first : Int) (gs : List S68) (w0 : World) (gm mb : Nat) (w : World) (a b : Int) (hf : 0 ≤ first ∧ first ≤ 40000) (hl : gs.length ≤ 40000) (ha : 0 ≤ a ∧ a < 4294967296) (hb : 0 ≤ b ∧ b < 4294967296) (h : MkSt first gs w0 gm mb w) :
    Calls Try.prog 103 #[.pointer (some ⟨gm, 0, none⟩), .int .u32 a, .int .u32 b] w fun e w' => e = .returned (.int .u32 (gateP first gs a b).1) ∧ MkSt first (gateP first gs a b).2 w0 gm mb w' ∧ OthersG w w' ∧ Keeps68 first gm mb w w' := by
  have H := Aside0.mk h
  have hu68 := Try.underlying68
  have hu123 := Try.underlying123
  have hHI : 0 ≤ mx a b ∧ mx a b < 4294967296 := by unfold mx; split <;> omega
  have hLO : 0 ≤ mn a b ∧ mn a b < 4294967296 := by unfold mn; split <;> omega
  unfold gateP
  obtain ⟨hi, hhi⟩ : ∃ hi, mx a b = hi := ⟨_, rfl⟩
  obtain ⟨lo, hlo⟩ : ∃ lo, mn a b = lo := ⟨_, rfl⟩
  rw [hhi] at hHI
  rw [hlo] at hLO
  rw [hhi, hlo]
  have hhi_ : (if a < b then b else a) = hi := hhi
  have hlo_ : (if b < a then b else a) = lo := hlo
  have HHI := Aside0.mk hHI
  have HLO := Aside0.mk hLO
  have HFB := Aside0.mk hf
  have HGL := Aside0.mk hl
  clear hHI hLO ha hb hf hl
  by_cases c0 : lo = 0
  · rw [if_pos c0]
    subst c0
    clear h
    go_enter Try.func103, Try.ntmps103
    go_wp2
    go_ret
    exact ⟨rfl, H.out, OthersG.refl _, fun _ _ h _ => h⟩
  rw [if_neg c0]
  have d0 : (lo == 0) = false := beq_eq_false_iff_ne.mpr c0
  by_cases c1 : hi = Go.bits .xor .u32 lo 1
  · rw [if_pos c1]
    have d1 : (hi == Go.bits .xor .u32 lo 1) = true := beq_iff_eq.mpr c1
    clear c1 c0 h
    go_enter Try.func103, Try.ntmps103
    go_wp2
    go_ret
    exact ⟨rfl, H.out, OthersG.refl _, fun _ _ h _ => h⟩
  rw [if_neg c1]
  have d1 : (hi == Go.bits .xor .u32 lo 1) = false := beq_eq_false_iff_ne.mpr c1
  by_cases c2 : lo = 1
  · rw [if_pos c2]
    have d2 : (lo == 1) = true := beq_iff_eq.mpr c2
    clear c2 c1 c0 h
    go_enter Try.func103, Try.ntmps103
    go_wp2
    go_ret
    exact ⟨rfl, H.out, OthersG.refl _, fun _ _ h _ => h⟩
  rw [if_neg c2]
  have d2 : (lo == 1) = false := beq_eq_false_iff_ne.mpr c2
  by_cases c3 : hi = lo
  · rw [if_pos c3]
    have d3 : (hi == lo) = true := beq_iff_eq.mpr c3
    clear c3 c2 c1 c0 h
    go_enter Try.func103, Try.ntmps103
    go_wp2
    go_ret
    exact ⟨rfl, H.out, OthersG.refl _, fun _ _ h _ => h⟩
  rw [if_neg c3]
  have d3 : (hi == lo) = false := beq_eq_false_iff_ne.mpr c3
  clear c3 c2 c1 c0
  obtain ⟨vg, hk, hq⟩ := h.st
  obtain ⟨Ag, cg, rfl⟩ := Kd.R_slice hq
  have HQ0 := Aside0.mk hq
  have HK0 := Aside0.mk hk
  clear h hk hq
  cases hx : idxG gs hi lo with
  | some j =>
    obtain ⟨⟨g, hj, e0, e1⟩, _⟩ := idxG_some gs j hx
    have HJ := Aside0.mk (And.intro hj (And.intro e0 e1))
    clear hx hj e0 e1
    go_enter Try.func103, Try.ntmps103
    go_wp2_with (first | ((with_reducible refine gate_dst (N := 7) rfl ?_); refine box_event ?hg (N := 7) ?hd (cs := #[.int .u32 0, .int .u32 0]) (t := 68) ?hr ?_; (case hd => rfl); (case hg => rfl); (case hr => first | (go_simp; done) | (go_simp; rfl)); intro g7 hg_ wa_ bk_ hb_; have GE_ := Aside0.mk (Nat.le_of_eq hg_.symm); clear hg_; have HB_ := Aside0.mk hb_; have BK_ := Aside0.mk bk_; have qa_ : wa_.cell? ⟨g7, 0, none⟩ = some (.int .u32 0) := (blk_cell bk_ 0).trans rfl; have qb_ : wa_.cell? ⟨g7, 1, none⟩ = some (.int .u32 0) := (blk_cell bk_ 1).trans rfl; have fa_ := blk_frozen bk_ 0; have fb_ := blk_frozen bk_ 1; clear hb_ bk_) | ((with_reducible refine gate_store (t := 68) (p := .tmp 7) (x := .tmp 32) rfl ?_); refine skip_event (W' := (wa_.setCell ⟨g7, 0, none⟩ (.int .u32 hi)).setCell ⟨g7, 1, none⟩ (.int .u32 lo)) ?hn ?hs ?hr ?_; (case hn => rfl); (case hs => rfl); (case hr => first | (go_simp; done) | (go_simp; rfl)); intro w8 hw_; have BK8 := Aside0.mk (show w8.heap[g7]? = some (.cells #[.int .u32 hi, .int .u32 lo] 68 (0, 0)) from by rw [hw_]; exact blk_set2 BK_.out _ _); have HB8 := Aside0.mk (show Below w.heap.size w w8 from by rw [hw_]; exact below_set2 HB_.out GE_.out _ _); have GE7 := GE_; clear hw_ qa_ qb_ fa_ fb_ BK_ HB_ GE_; have qg7_0 : w8.cell? ⟨g7, 0, none⟩ = some (.int .u32 hi) := (blk_cell BK8.out 0).trans rfl; have qg7_1 : w8.cell? ⟨g7, 1, none⟩ = some (.int .u32 lo) := (blk_cell BK8.out 1).trans rfl; skip))
    have HM8 := Aside0.mk (H.out.step HB8.out)
    have KM8 := Aside0.mk (blk_below HK0.out HB8.out)
    have HO8 := Aside0.mk (OthersG.below HB8.out)
    refine start_ (n := 11) (S := fun w' => w'.cell? ⟨gm, 2, none⟩ = some (.map (some mb)) ∧ w'.cell? ⟨g7, 0, none⟩ = some (.int .u32 hi) ∧ w'.cell? ⟨g7, 1, none⟩ = some (.int .u32 lo) ∧ (Instr.lookup 121 (.map (some mb)) (.agg #[.int .u32 hi, .int .u32 lo]) true).run Try.prog w' = .ok (.tuple #[.int .u32 (2 * (first + (j : Int))), .bool true]) w') (ds := []) #[false, false, false, false, false, false, false, false, false, false, false] (by kernel_rfl) rfl rfl ⟨(blk_cell KM8.out 2).trans rfl, (blk_cell BK8.out 0).trans rfl, (blk_cell BK8.out 1).trans rfl, lookG_some (w := w8.drew) HM8.out.map HM8.out.ok HM8.out.ap HHI.out HLO.out HJ.out.1 HJ.out.2.1 HJ.out.2.2⟩ (fun hHeld => ?_)
    have HM9 := Aside0.mk (HM8.out.step (W' := w8.drew) (below_drew1 (Below.refl _ _)))
    have HO9 := Aside0.mk (HO8.out.trans (OthersG.below (W1 := w8.drew) (below_drew1 (Below.refl _ _))))
    have HS9 := Aside0.mk (show Keeps68 first gm mb w w8.drew from fun b cs h _ => blk_drew (blk_below h HB8.out))
    have HW9 := Aside0.mk (show ∀ (b : Nat) (cs : Array Value), w.heap[b]? = some (.cells cs 68 (0, 0)) → w8.drew.heap[b]? = some (.cells cs 68 (0, 0)) from fun b cs h => blk_drew (blk_below h HB8.out))
    have HG0 := HK0
    clear HM8 KM8 HO8 BK8 HB8 qg7_0 qg7_1 HK0 HQ0
    generalize w8.drew = w9 at HM9 HO9 HS9 HW9 hHeld ⊢
    refine pure_ (i := 0) (N := some 34) (v := ?_) (a' := ?_) #[true, false, false, false, false, false, false, false, false, false, false] rfl rfl (by kernel_rfl) (fun _ _ _ h => h) (Or.inl ⟨by rfl, ?_⟩) ?_ ?_
    rotate_left
    · intro w'
      go_simp
      with_reducible rfl
    rotate_left
    · simp only [Act.put, List.setIfInBounds_toArray, List.set_cons_zero, List.set_cons_succ]
      rfl
    refine pure_ (i := 1) (N := some 35) (v := ?_) (a' := ?_) #[true, true, false, false, false, false, false, false, false, false, false] rfl rfl (by kernel_rfl) (fun _ _ _ h => h) (Or.inl ⟨by rfl, ?_⟩) ?_ ?_
    rotate_left
    · intro w'
      go_simp
      with_reducible rfl
    rotate_left
    · simp only [Act.put, List.setIfInBounds_toArray, List.set_cons_zero, List.set_cons_succ]
      rfl
    refine pure_ (i := 2) (N := some 36) (v := ?_) (a' := ?_) #[true, true, true, false, false, false, false, false, false, false, false] rfl rfl (by kernel_rfl) (fun _ _ _ h => h) (Or.inl ⟨by rfl, ?_⟩) ?_ ?_
    rotate_left
    · intro w'
      go_simp
      with_reducible rfl
    rotate_left
    · simp only [Act.put, List.setIfInBounds_toArray, List.set_cons_zero, List.set_cons_succ]
      rfl
    refine take_ (i := 3) (N := some 37) (v := ?_) (a' := ?_) #[true, true, true, true, false, false, false, false, false, false, false] rfl rfl (by kernel_rfl) (fun _ _ _ h => h) (Or.inl ⟨by rfl, ?_⟩) hHeld ?_ ?_
    rotate_left
    · rintro w' ⟨s0, s1, s2, s3⟩
      go_simp
      with_reducible rfl
    rotate_left
    · simp only [Act.put, List.setIfInBounds_toArray, List.set_cons_zero, List.set_cons_succ]
      rfl
    refine take_ (i := 4) (N := some 38) (v := ?_) (a' := ?_) #[true, true, true, true, true, false, false, false, false, false, false] rfl rfl (by kernel_rfl) (fun _ _ _ h => h) (Or.inl ⟨by rfl, ?_⟩) hHeld ?_ ?_
    rotate_left
    · rintro w' ⟨s0, s1, s2, s3⟩
      go_simp
      with_reducible rfl
    rotate_left
    · simp only [Act.put, List.setIfInBounds_toArray, List.set_cons_zero, List.set_cons_succ]
      rfl
    refine take_ (i := 5) (N := some 39) (v := ?_) (a' := ?_) #[true, true, true, true, true, true, false, false, false, false, false] rfl rfl (by kernel_rfl) (fun _ _ _ h => h) (Or.inl ⟨by rfl, ?_⟩) hHeld ?_ ?_
    rotate_left
    · rintro w' ⟨s0, s1, s2, s3⟩
      go_simp
      with_reducible rfl
    rotate_left
    · simp only [Act.put, List.setIfInBounds_toArray, List.set_cons_zero, List.set_cons_succ]
      rfl
    refine pure_ (i := 6) (N := some 33) (v := ?_) (a' := ?_) #[true, true, true, true, true, true, true, false, false, false, false] rfl rfl (by kernel_rfl) (fun _ _ _ h => h) (Or.inl ⟨by rfl, ?_⟩) ?_ ?_
    rotate_left
    · intro w'
      go_simp
      with_reducible rfl
    rotate_left
    · simp only [Act.put, List.setIfInBounds_toArray, List.set_cons_zero, List.set_cons_succ]
      rfl
    refine pure_ (i := 7) (N := some 40) (v := ?_) (a' := ?_) #[true, true, true, true, true, true, true, true, false, false, false] rfl rfl (by kernel_rfl) (fun _ _ _ h => h) (Or.inl ⟨by rfl, ?_⟩) ?_ ?_
    rotate_left
    · intro w'
      go_simp
      with_reducible rfl
    rotate_left
    · simp only [Act.put, List.setIfInBounds_toArray, List.set_cons_zero, List.set_cons_succ]
      rfl
    refine pure_ (i := 8) (N := some 41) (v := ?_) (a' := ?_) #[true, true, true, true, true, true, true, true, true, false, false] rfl rfl (by kernel_rfl) (fun _ _ _ h => h) (Or.inl ⟨by rfl, ?_⟩) ?_ ?_
    rotate_left
    · intro w'
      go_simp
      with_reducible rfl
    rotate_left
    · simp only [Act.put, List.setIfInBounds_toArray, List.set_cons_zero, List.set_cons_succ]
      rfl
    refine pure_ (i := 9) (N := some 8) (v := ?_) (a' := ?_) #[true, true, true, true, true, true, true, true, true, true, false] rfl rfl (by kernel_rfl) (fun _ _ _ h => h) (Or.inl ⟨by rfl, ?_⟩) ?_ ?_
    rotate_left
    · intro w'
      go_simp
      with_reducible rfl
    rotate_left
    · simp only [Act.put, List.setIfInBounds_toArray, List.set_cons_zero, List.set_cons_succ]
      rfl
    refine pure_ (i := 10) (N := some 9) (v := ?_) (a' := ?_) #[true, true, true, true, true, true, true, true, true, true, true] rfl rfl (by kernel_rfl) (fun _ _ _ h => h) (Or.inl ⟨by rfl, ?_⟩) ?_ ?_
    rotate_left
    · intro w'
      go_simp
      with_reducible rfl
    rotate_left
    · simp only [Act.put, List.setIfInBounds_toArray, List.set_cons_zero, List.set_cons_succ]
      rfl
    refine done_ (by kernel_rfl) ?_
    clear hHeld
    go_wp2
    go_ret
    exact ⟨rfl, HM9.out, HO9.out, HS9.out⟩
  | none =>
    have HNO := Aside0.mk (idxG_none gs hx)
    clear hx
    go_enter Try.func103, Try.ntmps103
    go_wp2_with (first | ((with_reducible refine gate_dst (N := 7) rfl ?_); refine box_event ?hg (N := 7) ?hd (cs := #[.int .u32 0, .int .u32 0]) (t := 68) ?hr ?_; (case hd => rfl); (case hg => rfl); (case hr => first | (go_simp; done) | (go_simp; rfl)); intro g7 hg_ wa_ bk_ hb_; have GE_ := Aside0.mk (Nat.le_of_eq hg_.symm); clear hg_; have HB_ := Aside0.mk hb_; have BK_ := Aside0.mk bk_; have qa_ : wa_.cell? ⟨g7, 0, none⟩ = some (.int .u32 0) := (blk_cell bk_ 0).trans rfl; have qb_ : wa_.cell? ⟨g7, 1, none⟩ = some (.int .u32 0) := (blk_cell bk_ 1).trans rfl; have fa_ := blk_frozen bk_ 0; have fb_ := blk_frozen bk_ 1; clear hb_ bk_) | ((with_reducible refine gate_store (t := 68) (p := .tmp 7) (x := .tmp 32) rfl ?_); refine skip_event (W' := (wa_.setCell ⟨g7, 0, none⟩ (.int .u32 hi)).setCell ⟨g7, 1, none⟩ (.int .u32 lo)) ?hn ?hs ?hr ?_; (case hn => rfl); (case hs => rfl); (case hr => first | (go_simp; done) | (go_simp; rfl)); intro w8 hw_; have BK8 := Aside0.mk (show w8.heap[g7]? = some (.cells #[.int .u32 hi, .int .u32 lo] 68 (0, 0)) from by rw [hw_]; exact blk_set2 BK_.out _ _); have HB8 := Aside0.mk (show Below w.heap.size w w8 from by rw [hw_]; exact below_set2 HB_.out GE_.out _ _); have GE7 := GE_; clear hw_ qa_ qb_ fa_ fb_ BK_ HB_ GE_; have qg7_0 : w8.cell? ⟨g7, 0, none⟩ = some (.int .u32 hi) := (blk_cell BK8.out 0).trans rfl; have qg7_1 : w8.cell? ⟨g7, 1, none⟩ = some (.int .u32 lo) := (blk_cell BK8.out 1).trans rfl; skip))
    have HM8 := Aside0.mk (H.out.step HB8.out)
    have KM8 := Aside0.mk (blk_below HK0.out HB8.out)
    have HO8 := Aside0.mk (OthersG.below HB8.out)
    have HQ8 := Aside0.mk (Kd.R_below HQ0.out HB8.out)
    have HG7 := Aside0.mk (show some g7 ≠ (Value.slice Ag gs.length cg).ownBlock from fun e => by have h1 := Kd.R_lt HQ0.out g7 e.symm; have h2 := GE7.out; omega)
    refine start_ (n := 11) (S := fun w' => w'.cell? ⟨gm, 2, none⟩ = some (.map (some mb)) ∧ w'.cell? ⟨g7, 0, none⟩ = some (.int .u32 hi) ∧ w'.cell? ⟨g7, 1, none⟩ = some (.int .u32 lo) ∧ (Instr.lookup 121 (.map (some mb)) (.agg #[.int .u32 hi, .int .u32 lo]) true).run Try.prog w' = .ok (.tuple #[.int .u32 0, .bool false]) w') (ds := []) #[false, false, false, false, false, false, false, false, false, false, false] (by kernel_rfl) rfl rfl ⟨(blk_cell KM8.out 2).trans rfl, (blk_cell BK8.out 0).trans rfl, (blk_cell BK8.out 1).trans rfl, lookG_none (w := w8.drew) HM8.out.map HM8.out.ok HHI.out HLO.out HNO.out⟩ (fun hHeld => ?_)
    have HM9 := Aside0.mk (HM8.out.step (W' := w8.drew) (below_drew1 (Below.refl _ _)))
    have HO9 := Aside0.mk (HO8.out.trans (OthersG.below (W1 := w8.drew) (below_drew1 (Below.refl _ _))))
    have HS9 := Aside0.mk (show Keeps68 first gm mb w w8.drew from fun b cs h _ => blk_drew (blk_below h HB8.out))
    have HW9 := Aside0.mk (show ∀ (b : Nat) (cs : Array Value), w.heap[b]? = some (.cells cs 68 (0, 0)) → w8.drew.heap[b]? = some (.cells cs 68 (0, 0)) from fun b cs h => blk_drew (blk_below h HB8.out))
    have HG0 := HK0
    have KM9 := Aside0.mk (blk_drew KM8.out)
    have BK9 := Aside0.mk (blk_drew BK8.out)
    have HQ9 := Aside0.mk (Kd.R_drew HQ8.out)
    clear HM8 KM8 HO8 BK8 HB8 HQ8 qg7_0 qg7_1 HK0 HQ0
    generalize w8.drew = w9 at HM9 HO9 KM9 BK9 HQ9 HS9 HW9 hHeld ⊢
    refine pure_ (i := 0) (N := some 34) (v := ?_) (a' := ?_) #[true, false, false, false, false, false, false, false, false, false, false] rfl rfl (by kernel_rfl) (fun _ _ _ h => h) (Or.inl ⟨by rfl, ?_⟩) ?_ ?_
    rotate_left
    · intro w'
      go_simp
      with_reducible rfl
    rotate_left
    · simp only [Act.put, List.setIfInBounds_toArray, List.set_cons_zero, List.set_cons_succ]
      rfl
    refine pure_ (i := 1) (N := some 35) (v := ?_) (a' := ?_) #[true, true, false, false, false, false, false, false, false, false, false] rfl rfl (by kernel_rfl) (fun _ _ _ h => h) (Or.inl ⟨by rfl, ?_⟩) ?_ ?_
    rotate_left
    · intro w'
      go_simp
      with_reducible rfl
    rotate_left
    · simp only [Act.put, List.setIfInBounds_toArray, List.set_cons_zero, List.set_cons_succ]
      rfl
    refine pure_ (i := 2) (N := some 36) (v := ?_) (a' := ?_) #[true, true, true, false, false, false, false, false, false, false, false] rfl rfl (by kernel_rfl) (fun _ _ _ h => h) (Or.inl ⟨by rfl, ?_⟩) ?_ ?_
    rotate_left
    · intro w'
      go_simp
      with_reducible rfl
    rotate_left
    · simp only [Act.put, List.setIfInBounds_toArray, List.set_cons_zero, List.set_cons_succ]
      rfl
    refine take_ (i := 3) (N := some 37) (v := ?_) (a' := ?_) #[true, true, true, true, false, false, false, false, false, false, false] rfl rfl (by kernel_rfl) (fun _ _ _ h => h) (Or.inl ⟨by rfl, ?_⟩) hHeld ?_ ?_
    rotate_left
    · rintro w' ⟨s0, s1, s2, s3⟩
      go_simp
      with_reducible rfl
    rotate_left
    · simp only [Act.put, List.setIfInBounds_toArray, List.set_cons_zero, List.set_cons_succ]
      rfl
    refine take_ (i := 4) (N := some 38) (v := ?_) (a' := ?_) #[true, true, true, true, true, false, false, false, false, false, false] rfl rfl (by kernel_rfl) (fun _ _ _ h => h) (Or.inl ⟨by rfl, ?_⟩) hHeld ?_ ?_
    rotate_left
    · rintro w' ⟨s0, s1, s2, s3⟩
      go_simp
      with_reducible rfl
    rotate_left
    · simp only [Act.put, List.setIfInBounds_toArray, List.set_cons_zero, List.set_cons_succ]
      rfl
    refine take_ (i := 5) (N := some 39) (v := ?_) (a' := ?_) #[true, true, true, true, true, true, false, false, false, false, false] rfl rfl (by kernel_rfl) (fun _ _ _ h => h) (Or.inl ⟨by rfl, ?_⟩) hHeld ?_ ?_
    rotate_left
    · rintro w' ⟨s0, s1, s2, s3⟩
      go_simp
      with_reducible rfl
    rotate_left
    · simp only [Act.put, List.setIfInBounds_toArray, List.set_cons_zero, List.set_cons_succ]
      rfl
    refine pure_ (i := 6) (N := some 33) (v := ?_) (a' := ?_) #[true, true, true, true, true, true, true, false, false, false, false] rfl rfl (by kernel_rfl) (fun _ _ _ h => h) (Or.inl ⟨by rfl, ?_⟩) ?_ ?_
    rotate_left
    · intro w'
      go_simp
      with_reducible rfl
    rotate_left
    · simp only [Act.put, List.setIfInBounds_toArray, List.set_cons_zero, List.set_cons_succ]
      rfl
    refine pure_ (i := 7) (N := some 40) (v := ?_) (a' := ?_) #[true, true, true, true, true, true, true, true, false, false, false] rfl rfl (by kernel_rfl) (fun _ _ _ h => h) (Or.inl ⟨by rfl, ?_⟩) ?_ ?_
    rotate_left
    · intro w'
      go_simp
      with_reducible rfl
    rotate_left
    · simp only [Act.put, List.setIfInBounds_toArray, List.set_cons_zero, List.set_cons_succ]
      rfl
    refine pure_ (i := 8) (N := some 41) (v := ?_) (a' := ?_) #[true, true, true, true, true, true, true, true, true, false, false] rfl rfl (by kernel_rfl) (fun _ _ _ h => h) (Or.inl ⟨by rfl, ?_⟩) ?_ ?_
    rotate_left
    · intro w'
      go_simp
      with_reducible rfl
    rotate_left
    · simp only [Act.put, List.setIfInBounds_toArray, List.set_cons_zero, List.set_cons_succ]
      rfl
    refine pure_ (i := 9) (N := some 8) (v := ?_) (a' := ?_) #[true, true, true, true, true, true, true, true, true, true, false] rfl rfl (by kernel_rfl) (fun _ _ _ h => h) (Or.inl ⟨by rfl, ?_⟩) ?_ ?_
    rotate_left
    · intro w'
      go_simp
      with_reducible rfl
    rotate_left
    · simp only [Act.put, List.setIfInBounds_toArray, List.set_cons_zero, List.set_cons_succ]
      rfl
    refine pure_ (i := 10) (N := some 9) (v := ?_) (a' := ?_) #[true, true, true, true, true, true, true, true, true, true, true] rfl rfl (by kernel_rfl) (fun _ _ _ h => h) (Or.inl ⟨by rfl, ?_⟩) ?_ ?_
    rotate_left
    · intro w'
      go_simp
      with_reducible rfl
    rotate_left
    · simp only [Act.put, List.setIfInBounds_toArray, List.set_cons_zero, List.set_cons_succ]
      rfl
    refine done_ (by kernel_rfl) ?_
    clear hHeld
    have es1 : IntKind.u32.wrap (gs.length : Int) = (gs.length : Int) := u32_id (by omega) (by have := HGL.out; omega)
    have es2 : IntKind.u32.wrap (first + (gs.length : Int)) = first + (gs.length : Int) := u32_id (by have := HFB.out; omega) (by have := HGL.out; have := HFB.out; omega)
    have es3 : IntKind.u32.wrap (2 * (first + (gs.length : Int))) = 2 * (first + (gs.length : Int)) := u32_id (by have := HFB.out; omega) (by have := HGL.out; have := HFB.out; omega)
    go_wp2_with fail
    refine start_ (n := 13) (S := fun w' => w'.cell? ⟨gm, 0, none⟩ = some (.int .u32 first) ∧ w'.cell? ⟨gm, 1, none⟩ = some (.slice Ag gs.length cg)) (ds := []) #[false, false, false, false, false, false, false, false, false, false, false, false, false] (by kernel_rfl) rfl rfl ⟨(blk_cell KM9.out 0).trans rfl, (blk_cell KM9.out 1).trans rfl⟩ (fun hHeld => ?_)
    have HMX := Aside0.mk (HM9.out.step (W' := w9.drew) (below_drew1 (Below.refl _ _)))
    have HWX := Aside0.mk (show ∀ (b : Nat) (cs : Array Value), w.heap[b]? = some (.cells cs 68 (0, 0)) → w9.drew.heap[b]? = some (.cells cs 68 (0, 0)) from fun b cs h => blk_drew (HW9.out b cs h))
    have HOX := Aside0.mk (HO9.out.trans (OthersG.below (W1 := w9.drew) (below_drew1 (Below.refl _ _))))
    have KMX := Aside0.mk (blk_drew KM9.out)
    have BKX := Aside0.mk (blk_drew BK9.out)
    have HQX := Aside0.mk (Kd.R_drew HQ9.out)
    clear HM9 HO9 KM9 BK9 HQ9 HS9 HW9
    generalize w9.drew = wx at HMX HOX KMX BKX HQX HWX hHeld ⊢
    refine pure_ (i := 0) (N := some 44) (v := ?_) (a' := ?_) #[true, false, false, false, false, false, false, false, false, false, false, false, false] rfl rfl (by kernel_rfl) (fun _ _ _ h => h) (Or.inl ⟨by rfl, ?_⟩) ?_ ?_
    rotate_left
    · intro w'
      go_simp
      with_reducible rfl
    rotate_left
    · simp only [Act.put, List.setIfInBounds_toArray, List.set_cons_zero, List.set_cons_succ]
      rfl
    refine pure_ (i := 1) (N := some 45) (v := ?_) (a' := ?_) #[true, true, false, false, false, false, false, false, false, false, false, false, false] rfl rfl (by kernel_rfl) (fun _ _ _ h => h) (Or.inl ⟨by rfl, ?_⟩) ?_ ?_
    rotate_left
    · intro w'
      go_simp
      with_reducible rfl
    rotate_left
    · simp only [Act.put, List.setIfInBounds_toArray, List.set_cons_zero, List.set_cons_succ]
      rfl
    refine pure_ (i := 2) (N := some 46) (v := ?_) (a' := ?_) #[true, true, true, false, false, false, false, false, false, false, false, false, false] rfl rfl (by kernel_rfl) (fun _ _ _ h => h) (Or.inl ⟨by rfl, ?_⟩) ?_ ?_
    rotate_left
    · intro w'
      go_simp
      with_reducible rfl
    rotate_left
    · simp only [Act.put, List.setIfInBounds_toArray, List.set_cons_zero, List.set_cons_succ]
      rfl
    refine take_ (i := 3) (N := some 47) (v := ?_) (a' := ?_) #[true, true, true, true, false, false, false, false, false, false, false, false, false] rfl rfl (by kernel_rfl) (fun _ _ _ h => h) (Or.inl ⟨by rfl, ?_⟩) hHeld ?_ ?_
    rotate_left
    · rintro w' ⟨s0, s1⟩
      go_simp
      with_reducible rfl
    rotate_left
    · simp only [Act.put, List.setIfInBounds_toArray, List.set_cons_zero, List.set_cons_succ]
      rfl
    refine pure_ (i := 4) (N := some 48) (v := ?_) (a' := ?_) #[true, true, true, true, true, false, false, false, false, false, false, false, false] rfl rfl (by kernel_rfl) (fun _ _ _ h => h) (Or.inl ⟨by rfl, ?_⟩) ?_ ?_
    rotate_left
    · intro w'
      go_simp
      with_reducible rfl
    rotate_left
    · simp only [Act.put, List.setIfInBounds_toArray, List.set_cons_zero, List.set_cons_succ]
      rfl
    refine pure_ (i := 5) (N := some 49) (v := ?_) (a' := ?_) #[true, true, true, true, true, true, false, false, false, false, false, false, false] rfl rfl (by kernel_rfl) (fun _ _ _ h => h) (Or.inl ⟨by rfl, ?_⟩) ?_ ?_
    rotate_left
    · intro w'
      go_simp
      with_reducible rfl
    rotate_left
    · simp only [Act.put, List.setIfInBounds_toArray, List.set_cons_zero, List.set_cons_succ]
      rfl
    refine pure_ (i := 6) (N := some 50) (v := ?_) (a' := ?_) #[true, true, true, true, true, true, true, false, false, false, false, false, false] rfl rfl (by kernel_rfl) (fun _ _ _ h => h) (Or.inl ⟨by rfl, ?_⟩) ?_ ?_
    rotate_left
    · intro w'
      go_simp
      with_reducible rfl
    rotate_left
    · simp only [Act.put, List.setIfInBounds_toArray, List.set_cons_zero, List.set_cons_succ]
      rfl
    refine take_ (i := 7) (N := some 51) (v := ?_) (a' := ?_) #[true, true, true, true, true, true, true, true, false, false, false, false, false] rfl rfl (by kernel_rfl) (fun _ _ _ h => h) (Or.inl ⟨by rfl, ?_⟩) hHeld ?_ ?_
    rotate_left
    · rintro w' ⟨s0, s1⟩
      go_simp
      with_reducible rfl
    rotate_left
    · simp only [Act.put, List.setIfInBounds_toArray, List.set_cons_zero, List.set_cons_succ]
      rfl
    refine pure_ (i := 8) (N := some 52) (v := ?_) (a' := ?_) #[true, true, true, true, true, true, true, true, true, false, false, false, false] rfl rfl (by kernel_rfl) (fun _ _ _ h => h) (Or.inl ⟨by rfl, ?_⟩) ?_ ?_
    rotate_left
    · intro w'
      go_simp
      with_reducible rfl
    rotate_left
    · simp only [Act.put, List.setIfInBounds_toArray, List.set_cons_zero, List.set_cons_succ]
      rfl
    refine pure_ (i := 9) (N := some 53) (v := ?_) (a' := ?_) #[true, true, true, true, true, true, true, true, true, true, false, false, false] rfl rfl (by kernel_rfl) (fun _ _ _ h => h) (Or.inl ⟨by rfl, ?_⟩) ?_ ?_
    rotate_left
    · intro w'
      go_simp
      with_reducible rfl
    rotate_left
    · simp only [Act.put, List.setIfInBounds_toArray, List.set_cons_zero, List.set_cons_succ]
      rfl
    refine pure_ (i := 10) (N := some 54) (v := ?_) (a' := ?_) #[true, true, true, true, true, true, true, true, true, true, true, false, false] rfl rfl (by kernel_rfl) (fun _ _ _ h => h) (Or.inl ⟨by rfl, ?_⟩) ?_ ?_
    rotate_left
    · intro w'
      go_simp
      with_reducible rfl
    rotate_left
    · simp only [Act.put, List.setIfInBounds_toArray, List.set_cons_zero, List.set_cons_succ]
      rfl
    refine pure_ (i := 11) (N := some 55) (v := ?_) (a' := ?_) #[true, true, true, true, true, true, true, true, true, true, true, true, false] rfl rfl (by kernel_rfl) (fun _ _ _ h => h) (Or.inl ⟨by rfl, ?_⟩) ?_ ?_
    rotate_left
    · intro w'
      go_simp
      with_reducible rfl
    rotate_left
    · simp only [Act.put, List.setIfInBounds_toArray, List.set_cons_zero, List.set_cons_succ]
      rfl
    refine pure_ (i := 12) (N := some 8) (v := ?_) (a' := ?_) #[true, true, true, true, true, true, true, true, true, true, true, true, true] rfl rfl (by kernel_rfl) (fun _ _ _ h => h) (Or.inl ⟨by rfl, ?_⟩) ?_ ?_
    rotate_left
    · intro w'
      go_simp
      with_reducible rfl
    rotate_left
    · simp only [Act.put, List.setIfInBounds_toArray, List.set_cons_zero, List.set_cons_succ]
      rfl
    refine done_ (by kernel_rfl) ?_
    clear hHeld es1 es2 es3
    go_wp2_with fail
    refine start_ (n := 20) (S := fun w' => w'.cell? ⟨gm, 1, none⟩ = some (.slice Ag gs.length cg) ∧ w'.cell? ⟨gm, 2, none⟩ = some (.map (some mb)) ∧ w'.cell? ⟨g7, 0, none⟩ = some (.int .u32 hi) ∧ w'.cell? ⟨g7, 1, none⟩ = some (.int .u32 lo)) (ds := [19]) #[false, false, false, false, false, false, false, false, false, false, false, false, false, false, false, false, false, false, false, false] (by kernel_rfl) rfl rfl ⟨(blk_cell KMX.out 1).trans rfl, (blk_cell KMX.out 2).trans rfl, (blk_cell BKX.out 0).trans rfl, (blk_cell BKX.out 1).trans rfl⟩ (fun hHeld => ?_)
    have HMA := Aside0.mk (HMX.out.step (W' := wx.drew) (below_drew1 (Below.refl _ _)))
    have HWA := Aside0.mk (show ∀ (b : Nat) (cs : Array Value), w.heap[b]? = some (.cells cs 68 (0, 0)) → wx.drew.heap[b]? = some (.cells cs 68 (0, 0)) from fun b cs h => blk_drew (HWX.out b cs h))
    have HOA := Aside0.mk (HOX.out.trans (OthersG.below (W1 := wx.drew) (below_drew1 (Below.refl _ _))))
    have KM := Aside0.mk (blk_drew KMX.out)
    have BKA := Aside0.mk (blk_drew BKX.out)
    have HQ := Aside0.mk (Kd.R_drew HQX.out)
    clear HMX HOX KMX BKX HQX HWX
    generalize wx.drew = wa at HMA HOA KM BKA HQ HWA hHeld ⊢
    refine pure_ (i := 0) (N := some 56) (v := ?_) (a' := ?_) #[true, false, false, false, false, false, false, false, false, false, false, false, false, false, false, false, false, false, false, false] rfl rfl (by kernel_rfl) (fun _ _ _ h => h) (Or.inl ⟨by rfl, ?_⟩) ?_ ?_
    rotate_left
    · intro w'
      go_simp
      with_reducible rfl
    rotate_left
    · simp only [Act.put, List.setIfInBounds_toArray, List.set_cons_zero, List.set_cons_succ]
      rfl
    refine pure_ (i := 1) (N := some 57) (v := ?_) (a' := ?_) #[true, true, false, false, false, false, false, false, false, false, false, false, false, false, false, false, false, false, false, false] rfl rfl (by kernel_rfl) (fun _ _ _ h => h) (Or.inl ⟨by rfl, ?_⟩) ?_ ?_
    rotate_left
    · intro w'
      go_simp
      with_reducible rfl
    rotate_left
    · simp only [Act.put, List.setIfInBounds_toArray, List.set_cons_zero, List.set_cons_succ]
      rfl
    refine pure_ (i := 2) (N := some 58) (v := ?_) (a' := ?_) #[true, true, true, false, false, false, false, false, false, false, false, false, false, false, false, false, false, false, false, false] rfl rfl (by kernel_rfl) (fun _ _ _ h => h) (Or.inl ⟨by rfl, ?_⟩) ?_ ?_
    rotate_left
    · intro w'
      go_simp
      with_reducible rfl
    rotate_left
    · simp only [Act.put, List.setIfInBounds_toArray, List.set_cons_zero, List.set_cons_succ]
      rfl
    refine take_ (i := 3) (N := some 59) (v := ?_) (a' := ?_) #[true, true, true, true, false, false, false, false, false, false, false, false, false, false, false, false, false, false, false, false] rfl rfl (by kernel_rfl) (fun _ _ _ h => h) (Or.inl ⟨by rfl, ?_⟩) hHeld ?_ ?_
    rotate_left
    · rintro w' ⟨s0, s1, s2, s3⟩
      go_simp
      with_reducible rfl
    rotate_left
    · simp only [Act.put, List.setIfInBounds_toArray, List.set_cons_zero, List.set_cons_succ]
      rfl
    refine take_ (i := 4) (N := some 60) (v := ?_) (a' := ?_) #[true, true, true, true, true, false, false, false, false, false, false, false, false, false, false, false, false, false, false, false] rfl rfl (by kernel_rfl) (fun _ _ _ h => h) (Or.inl ⟨by rfl, ?_⟩) hHeld ?_ ?_
    rotate_left
    · rintro w' ⟨s0, s1, s2, s3⟩
      go_simp
      with_reducible rfl
    rotate_left
    · simp only [Act.put, List.setIfInBounds_toArray, List.set_cons_zero, List.set_cons_succ]
      rfl
    refine pure_ (i := 5) (N := some 61) (v := ?_) (a' := ?_) #[true, true, true, true, true, true, false, false, false, false, false, false, false, false, false, false, false, false, false, false] rfl rfl (by kernel_rfl) (fun _ _ _ h => h) (Or.inl ⟨by rfl, ?_⟩) ?_ ?_
    rotate_left
    · intro w'
      go_simp
      with_reducible rfl
    rotate_left
    · simp only [Act.put, List.setIfInBounds_toArray, List.set_cons_zero, List.set_cons_succ]
      rfl
    refine pure_ (i := 6) (N := some 62) (v := ?_) (a' := ?_) #[true, true, true, true, true, true, true, false, false, false, false, false, false, false, false, false, false, false, false, false] rfl rfl (by kernel_rfl) (fun _ _ _ h => h) (Or.inl ⟨by rfl, ?_⟩) ?_ ?_
    rotate_left
    · intro w'
      go_simp
      with_reducible rfl
    rotate_left
    · simp only [Act.put, List.setIfInBounds_toArray, List.set_cons_zero, List.set_cons_succ]
      rfl
    refine pure_ (i := 7) (N := some 63) (v := ?_) (a' := ?_) #[true, true, true, true, true, true, true, true, false, false, false, false, false, false, false, false, false, false, false, false] rfl rfl (by kernel_rfl) (fun _ _ _ h => h) (Or.inl ⟨by rfl, ?_⟩) ?_ ?_
    rotate_left
    · intro w'
      go_simp
      with_reducible rfl
    rotate_left
    · simp only [Act.put, List.setIfInBounds_toArray, List.set_cons_zero, List.set_cons_succ]
      rfl
    refine pure_ (i := 8) (N := some 64) (v := ?_) (a' := ?_) #[true, true, true, true, true, true, true, true, true, false, false, false, false, false, false, false, false, false, false, false] rfl rfl (by kernel_rfl) (fun _ _ _ h => h) (Or.inl ⟨by rfl, ?_⟩) ?_ ?_
    rotate_left
    · intro w'
      go_simp
      with_reducible rfl
    rotate_left
    · simp only [Act.put, List.setIfInBounds_toArray, List.set_cons_zero, List.set_cons_succ]
      rfl
    refine pure_ (i := 9) (N := some 65) (v := ?_) (a' := ?_) #[true, true, true, true, true, true, true, true, true, true, false, false, false, false, false, false, false, false, false, false] rfl rfl (by kernel_rfl) (fun _ _ _ h => h) (Or.inl ⟨by rfl, ?_⟩) ?_ ?_
    rotate_left
    · intro w'
      go_simp
      with_reducible rfl
    rotate_left
    · simp only [Act.put, List.setIfInBounds_toArray, List.set_cons_zero, List.set_cons_succ]
      rfl
    refine take_ (i := 10) (N := some 66) (v := ?_) (a' := ?_) #[true, true, true, true, true, true, true, true, true, true, true, false, false, false, false, false, false, false, false, false] rfl rfl (by kernel_rfl) (fun _ _ _ h => h) (Or.inl ⟨by rfl, ?_⟩) hHeld ?_ ?_
    rotate_left
    · rintro w' ⟨s0, s1, s2, s3⟩
      go_simp
      with_reducible rfl
    rotate_left
    · simp only [Act.put, List.setIfInBounds_toArray, List.set_cons_zero, List.set_cons_succ]
      rfl
    refine take_ (i := 11) (N := some 67) (v := ?_) (a' := ?_) #[true, true, true, true, true, true, true, true, true, true, true, true, false, false, false, false, false, false, false, false] rfl rfl (by kernel_rfl) (fun _ _ _ h => h) (Or.inl ⟨by rfl, ?_⟩) hHeld ?_ ?_
    rotate_left
    · rintro w' ⟨s0, s1, s2, s3⟩
      go_simp
      with_reducible rfl
    rotate_left
    · simp only [Act.put, List.setIfInBounds_toArray, List.set_cons_zero, List.set_cons_succ]
      rfl
    refine one_ (i := 12) (N := some 68) #[true, true, true, true, true, true, true, true, true, true, true, true, true, false, false, false, false, false, false, false] rfl rfl (by kernel_rfl) (by decide) (fun K hK => ?_)
    refine value_ (w1 := ?_) (v := ?_) (by rfl) rfl ?_ ?_
    rotate_left 2
    · go_simp
      constructor
      · rfl
      · rfl
    refine hK.out _ _ ⟨(blk_cell (blk_alloc KM.out _) 1).trans rfl, (blk_cell (blk_alloc KM.out _) 2).trans rfl, (blk_cell (blk_alloc BKA.out _) 0).trans rfl, (blk_cell (blk_alloc BKA.out _) 1).trans rfl⟩ (fun hHeld => ?_)
    clear hK K
    refine norm_ (a' := ?_) ?_ ?_
    rotate_left
    · show Act.put _ (some 68) _ = _
      simp only [Act.put, List.setIfInBounds_toArray, List.set_cons_zero, List.set_cons_succ]
      rfl
    refine one_ (i := 13) (N := some 69) #[true, true, true, true, true, true, true, true, true, true, true, true, true, true, false, false, false, false, false, false] rfl rfl (by kernel_rfl) (by decide) (fun K hK => ?_)
    refine Kd.R_append_step k68 (w0 := w0) w0.heap.size (by rfl) (.tmp 66) (.tmp 68) 23 68 (.agg #[(.int .u32 0), (.int .u32 0)]) 8 rfl Try.underlying23 info68 rfl (by decide) (by omega) (.slice Ag gs.length cg) gs (⟨hi, lo⟩ : S68) [.int .u32 hi, .int .u32 lo] (fun _ => True) (fun _ => False) rfl rfl (k68_mkM _ _ _ (⟨hi, lo⟩ : S68)) (fun _ hk => hk.elim) (fun _ _ => trivial) HQ.out HMA.out.below HMA.out.below.size (by have := HGL.out; omega) ?_
    intro v1 w1 hR hB hg _
    obtain ⟨Av, cv, hv_⟩ := Kd.R_slice hR
    subst hv_
    have HAD := Aside0.mk (fun es1 k1 => HMA.out.added KM.out HQ.out HNO.out HHI.out HLO.out hR hB hg es1 ((entG first gs).toArray.push ⟨keyG hi lo, .int .u32 (2 * (first + (gs.length : Int))), gs.length⟩) k1 (gs.length + 1) ⟨by simp [entG_snoc], by simp⟩)
    have KM1 := Aside0.mk (HAD.out #[] 0).2.2.1
    have MP1 := Aside0.mk (HAD.out #[] 0).2.2.2.1
    have BKB := Aside0.mk (blk_grown BKA.out hg HG7.out)
    clear hR hB hg
    refine hK.out _ _ ⟨(blk_cell KM1.out 1).trans rfl, (blk_cell KM1.out 2).trans rfl, (blk_cell BKB.out 0).trans rfl, (blk_cell BKB.out 1).trans rfl⟩ (fun hHeld => ?_)
    clear hK K
    refine norm_ (a' := ?_) ?_ ?_
    rotate_left
    · show Act.put _ (some 69) _ = _
      simp only [Act.put, List.setIfInBounds_toArray, List.set_cons_zero, List.set_cons_succ]
      rfl
    obtain ⟨w2, hw2⟩ : ∃ w2, setBlock w1 mb (.map ((entG first gs).toArray.push ⟨keyG hi lo, .int .u32 0, gs.length⟩) (gs.length + 1)) = w2 := ⟨_, rfl⟩
    have hme := mapG_entry MP1.out HMA.out.ok HHI.out HLO.out HNO.out
    rw [hw2] at hme
    unfold keyG at hme
    have HME := Aside0.mk hme
    clear hme
    have KM2 := Aside0.mk (show w2.heap[gm]? = some (.cells #[.int .u32 first, .slice Ag gs.length cg, .map (some mb)] 123 (0, 0)) from by rw [← hw2]; exact (heap_setBlock_other MP1.out _ (fun e => by have := KM1.out; rw [e, MP1.out] at this; cases this)).trans KM1.out)
    have BKC := Aside0.mk (show w2.heap[g7]? = some (.cells #[.int .u32 hi, .int .u32 lo] 68 (0, 0)) from by rw [← hw2]; exact (heap_setBlock_other MP1.out _ (fun e => by have := BKB.out; rw [e, MP1.out] at this; cases this)).trans BKB.out)
    have MP2 := Aside0.mk (show w2.heap[mb]? = some (.map ((entG first gs).toArray.push ⟨keyG hi lo, .int .u32 0, gs.length⟩) (gs.length + 1)) from by rw [← hw2]; exact heap_setBlock_same MP1.out _)
    have HW2 := Aside0.mk hw2
    clear hw2
    refine one_ (i := 14) (N := some 70) #[true, true, true, true, true, true, true, true, true, true, true, true, true, true, true, false, false, false, false, false] rfl rfl (by kernel_rfl) (by decide) (fun K hK => ?_)
    refine value_ (w1 := ?_) (v := ?_) (by rfl) rfl ?_ ?_
    rotate_left 2
    · have hme := HME.out
      go_simp
      constructor
      · rfl
      · rfl
    refine hK.out _ _ ⟨(blk_cell KM2.out 1).trans rfl, (blk_cell KM2.out 2).trans rfl, (blk_cell BKC.out 0).trans rfl, (blk_cell BKC.out 1).trans rfl⟩ (fun hHeld => ?_)
    clear hK K
    refine norm_ (a' := ?_) ?_ ?_
    rotate_left
    · show Act.put _ (some 70) _ = _
      simp only [Act.put, List.setIfInBounds_toArray, List.set_cons_zero, List.set_cons_succ]
      rfl
    refine pure_ (i := 15) (N := some 71) (v := ?_) (a' := ?_) #[true, true, true, true, true, true, true, true, true, true, true, true, true, true, true, true, false, false, false, false] rfl rfl (by kernel_rfl) (fun _ _ _ h => h) (Or.inl ⟨by rfl, ?_⟩) ?_ ?_
    rotate_left
    · intro w'
      go_simp
      with_reducible rfl
    rotate_left
    · simp only [Act.put, List.setIfInBounds_toArray, List.set_cons_zero, List.set_cons_succ]
      rfl
    obtain ⟨w3, hw3⟩ : ∃ w3, setBlock w2 mb (.map ((entG first gs).toArray.push ⟨keyG hi lo, .int .u32 (2 * (first + (gs.length : Int))), gs.length⟩) (gs.length + 1)) = w3 := ⟨_, rfl⟩
    have hms := mapG_store (.int .u32 (2 * (first + (gs.length : Int)))) MP2.out
    rw [hw3] at hms
    have HMS := Aside0.mk hms
    clear hms
    have KM3 := Aside0.mk (show w3.heap[gm]? = some (.cells #[.int .u32 first, .slice Ag gs.length cg, .map (some mb)] 123 (0, 0)) from by rw [← hw3]; exact (heap_setBlock_other MP2.out _ (fun e => by have := KM2.out; rw [e, MP2.out] at this; cases this)).trans KM2.out)
    have BKD := Aside0.mk (show w3.heap[g7]? = some (.cells #[.int .u32 hi, .int .u32 lo] 68 (0, 0)) from by rw [← hw3]; exact (heap_setBlock_other MP2.out _ (fun e => by have := BKC.out; rw [e, MP2.out] at this; cases this)).trans BKC.out)
    have HFIN := HAD.out ((entG first gs).toArray.push ⟨keyG hi lo, .int .u32 0, gs.length⟩) (gs.length + 1)
    rw [HW2.out, hw3, show (gs ++ [(⟨hi, lo⟩ : S68)]).length = gs.length + 1 from by simp] at HFIN
    replace HFIN := Aside0.mk HFIN
    clear hw3 HAD
    refine one_ (i := 16) (N := none) #[true, true, true, true, true, true, true, true, true, true, true, true, true, true, true, true, true, false, false, false] rfl rfl (by kernel_rfl) (by decide) (fun K hK => ?_)
    refine skip_step (w1 := ?_) (by rfl) rfl ?_ ?_
    rotate_left
    · have hme := HMS.out
      go_simp
      rfl
    refine hK.out _ _ ⟨(blk_cell KM3.out 1).trans rfl, (blk_cell KM3.out 2).trans rfl, (blk_cell BKD.out 0).trans rfl, (blk_cell BKD.out 1).trans rfl⟩ (fun hHeld => ?_)
    clear hK K
    refine pure_ (i := 17) (N := some 72) (v := ?_) (a' := ?_) #[true, true, true, true, true, true, true, true, true, true, true, true, true, true, true, true, true, true, false, false] rfl rfl (by kernel_rfl) (fun _ _ _ h => h) (Or.inl ⟨by rfl, ?_⟩) ?_ ?_
    rotate_left
    · intro w'
      go_simp
      with_reducible rfl
    rotate_left
    · simp only [Act.put, List.setIfInBounds_toArray, List.set_cons_zero, List.set_cons_succ]
      rfl
    refine pure_ (i := 18) (N := some 73) (v := ?_) (a' := ?_) #[true, true, true, true, true, true, true, true, true, true, true, true, true, true, true, true, true, true, true, false] rfl rfl (by kernel_rfl) (fun _ _ _ h => h) (Or.inl ⟨by rfl, ?_⟩) ?_ ?_
    rotate_left
    · intro w'
      go_simp
      with_reducible rfl
    rotate_left
    · simp only [Act.put, List.setIfInBounds_toArray, List.set_cons_zero, List.set_cons_succ]
      rfl
    have i1 : w3.cell? ⟨gm, 1, none⟩ = some (.slice Ag gs.length cg) := (blk_cell KM3.out 1).trans rfl
    have fr := blk_frozen KM3.out 1
    clear hHeld
    refine last_ (i := 19) (N := none) #[true, true, true, true, true, true, true, true, true, true, true, true, true, true, true, true, true, true, true, true] rfl rfl (by kernel_rfl) (by decide) (fun K hK => ?_)
    refine skip_step (w1 := ?_) (by rfl) rfl ?_ ?_
    rotate_left
    · go_simp
      rfl
    refine hK.out _ _ ?_
    clear hK K
    refine done_ (by kernel_rfl) ?_
    clear i1 fr
    go_wp2
    go_ret
    exact ⟨rfl, HFIN.out.1, HOA.out.trans HFIN.out.2.1, fun b cs h hv => HFIN.out.2.2.2.2.2 b cs (HWA.out b cs h) (hv _ HG0.out)⟩
end Go.Proofs.Yteiiodlgdbiimaa.F
