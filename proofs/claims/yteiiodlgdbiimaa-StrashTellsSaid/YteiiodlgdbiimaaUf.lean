/- What the proof of the law StrashTells needs, part 6: the walks of the functions that it reaches, and the plain words on what these compute. -/
import Derived.Test.YteiiodlgdbiimaaUe
section
namespace Go.Proofs.Yteiiodlgdbiimaa.F
open Go.RowKit Go.Shelf Go.Proofs.YteiiodlgdbiimaaW.PrintWords Go.Proofs.YteiiodlgdbiimaaW.PrintLast Go.Proofs.YteiiodlgdbiimaaW.PrintMore
set_option linter.unusedVariables false
set_option linter.unusedSimpArgs false
section
variable {P : Program} {ops : Array Oper} {rest : List Oper} {o : Oper} {a : Act} {Q : Exit → Act → World → Prop}
theorem map_event {W : World} (hgd : o.guard = none) {N : Tmp} (_hd : o.dst = some N)
    (hrun : (execOp a.eval o).run P W = .ok (.value (.map (some W.heap.size))) (W.alloc (.map #[] 0)))
    (h : ∀ m, m = W.heap.size → ∀ w1, w1.heap[m]? = some (.map #[] 0) → Below W.heap.size W w1 → wpList P ops Q rest (a.put o.dst (.map (some m))) w1) : wpList P ops Q (o :: rest) a W :=
  Kd.event_run hgd hrun (h _ rfl _ (blk_new W _) (below_alloc (Below.refl _ _) _))
end
theorem run_store24 {a : Act} {o : Oper} {p x : Operand} {W : World} {g5 : Nat} {A : Option Addr} {n c : Nat} {u : Value} (ho : o.op = .store 24 p x) (hp : a.eval p = .pointer (some ⟨g5, 0, none⟩)) (hx : a.eval x = .slice A n c) (hc : W.cell? ⟨g5, 0, none⟩ = some u) (hf : W.frozen? ⟨g5, 0, none⟩ = false) :
    (execOp a.eval o).run Try.prog W = .ok .skip (W.setCell ⟨g5, 0, none⟩ (.slice A n c)) := by
  unfold execOp
  rw [ho]
  dsimp only
  rw [hp, hx]
  clear hp hx ho
  go_simp
theorem run_store26 {a : Act} {o : Oper} {p x : Operand} {W : World} {g4 : Nat} {b0 : Int} {B1 B2 B3 B4 B5 : Option Addr} {m1 m2 m3 m4 m5 d1 d2 d3 d4 d5 : Nat} {u0 u1 u2 u3 u4 u5 : Value} (ho : o.op = .store 26 p x) (hp : a.eval p = .pointer (some ⟨g4, 0, none⟩)) (hx : a.eval x = .agg #[.int .i64 b0, .slice B1 m1 d1, .slice B2 m2 d2, .slice B3 m3 d3, .slice B4 m4 d4, .slice B5 m5 d5]) (hk : W.heap[g4]? = some (.cells #[u0, u1, u2, u3, u4, u5] 26 (0, 0))) :
    (execOp a.eval o).run Try.prog W = .ok .skip (((((((W.setCell ⟨g4, 0, none⟩ (.int .i64 b0)).setCell ⟨g4, 1, none⟩ (.slice B1 m1 d1)).setCell ⟨g4, 2, none⟩ (.slice B2 m2 d2)).setCell ⟨g4, 3, none⟩ (.slice B3 m3 d3)).setCell ⟨g4, 4, none⟩ (.slice B4 m4 d4)).setCell ⟨g4, 5, none⟩ (.slice B5 m5 d5))) := by
  have hu := Try.underlying26
  have y0 : W.cell? ⟨g4, 0, none⟩ = some u0 := (blk_cell hk 0).trans rfl
  have y1 : W.cell? ⟨g4, 1, none⟩ = some u1 := (blk_cell hk 1).trans rfl
  have y2 : W.cell? ⟨g4, 2, none⟩ = some u2 := (blk_cell hk 2).trans rfl
  have y3 : W.cell? ⟨g4, 3, none⟩ = some u3 := (blk_cell hk 3).trans rfl
  have y4 : W.cell? ⟨g4, 4, none⟩ = some u4 := (blk_cell hk 4).trans rfl
  have y5 : W.cell? ⟨g4, 5, none⟩ = some u5 := (blk_cell hk 5).trans rfl
  have f0 := blk_frozen hk 0
  have f1 := blk_frozen hk 1
  have f2 := blk_frozen hk 2
  have f3 := blk_frozen hk 3
  have f4 := blk_frozen hk 4
  have f5 := blk_frozen hk 5
  unfold execOp
  rw [ho]
  dsimp only
  rw [hp, hx]
  clear hp hx ho hk
  go_simp
theorem R_far6 {α : Type} {d : Kd α} {e base : Nat} {ok : Nat → Prop} {w : World} {v : Value} {xs : List α} {g t : Nat} {cells : Array Value} (h : d.R e w base ok v xs) (hb : w.heap[g]? = some (.cells cells t (0, 0))) (ht : ∀ q, q ∈ e :: d.E → q ≠ t) (x0 x1 x2 x3 x4 x5 : Value) : d.R e ((((((w.setCell ⟨g, 0, none⟩ x0).setCell ⟨g, 1, none⟩ x1).setCell ⟨g, 2, none⟩ x2).setCell ⟨g, 3, none⟩ x3).setCell ⟨g, 4, none⟩ x4).setCell ⟨g, 5, none⟩ x5) base ok v xs := by
  have b1 := blk_set hb 0 x0
  have b2 := blk_set b1 1 x1
  have b3 := blk_set b2 2 x2
  have b4 := blk_set b3 3 x3
  have b5 := blk_set b4 4 x4
  exact Kd.R_set (Kd.R_set (Kd.R_set (Kd.R_set (Kd.R_set (Kd.R_set h hb ht 0 x0) b1 ht 1 x1) b2 ht 2 x2) b3 ht 3 x3) b4 ht 4 x4) b5 ht 5 x5
structure FinSt (w0 : World) (g4 g5 : Nat) (a0 : Int) (vl vg vo vb vk vt : Value) (ys : List S41) (gs : List S68) (lo lb lk tl : List Int) (W : World) : Prop where
  below : Below w0.heap.size w0 W
  h4 : w0.heap.size ≤ g4
  h5 : w0.heap.size ≤ g5
  k4 : W.heap[g4]? = some (.cells #[.int .i64 a0, vl, vg, vo, vb, vk] 26 (0, 0))
  k5 : W.heap[g5]? = some (.cells #[vt] 24 (0, 0))
  rl : Kd.R k41 41 W w0.heap.size (fun _ => True) vl ys
  rg : Kd.R k68 68 W w0.heap.size (fun _ => True) vg gs
  ro : Kd.R (Kd.int .u32) 39 W w0.heap.size (fun _ => True) vo lo
  rb : Kd.R (Kd.int .u32) 39 W w0.heap.size (fun _ => True) vb lb
  rk : Kd.R (Kd.int .u32) 39 W w0.heap.size (fun _ => True) vk lk
  rt : Kd.R (Kd.int .u32) 39 W w0.heap.size (fun _ => True) vt tl
section
variable {w0 : World} {g4 g5 : Nat} {a0 : Int} {vl vg vo vb vk vt : Value} {ys : List S41} {gs : List S68} {lo lb lk tl : List Int} {W W' : World}
theorem FinSt.step (h : FinSt w0 g4 g5 a0 vl vg vo vb vk vt ys gs lo lb lk tl W) (hb : Below W.heap.size W W') : FinSt w0 g4 g5 a0 vl vg vo vb vk vt ys gs lo lb lk tl W' :=
  ⟨below_step h.below hb, h.h4, h.h5, blk_below h.k4 hb, blk_below h.k5 hb, Kd.R_below h.rl hb, Kd.R_below h.rg hb, Kd.R_below h.ro hb, Kd.R_below h.rb hb, Kd.R_below h.rk hb, Kd.R_below h.rt hb⟩
theorem FinSt.set4 (h : FinSt w0 g4 g5 a0 vl vg vo vb vk vt ys gs lo lb lk tl W) (i : Nat) (u : Value) (e : (#[.int .i64 a0, vl, vg, vo, vb, vk] : Array Value).setIfInBounds i u = #[.int .i64 a0, vl, vg, vo, vb, vk]) : FinSt w0 g4 g5 a0 vl vg vo vb vk vt ys gs lo lb lk tl (W.setCell ⟨g4, i, none⟩ u) :=
  ⟨h.below.setCell (p := ⟨g4, i, none⟩) h.h4 u, h.h4, h.h5, blk_put h.k4 i u e, blk_far h.k5 (p := ⟨g4, i, none⟩) (blk_ne h.k5 h.k4 (by decide)) u, Kd.R_set h.rl h.k4 (by decide) i u, Kd.R_set h.rg h.k4 (by decide) i u, Kd.R_set h.ro h.k4 (by decide) i u, Kd.R_set h.rb h.k4 (by decide) i u, Kd.R_set h.rk h.k4 (by decide) i u, Kd.R_set h.rt h.k4 (by decide) i u⟩
theorem FinSt.six4 (h : FinSt w0 g4 g5 a0 vl vg vo vb vk vt ys gs lo lb lk tl W) : FinSt w0 g4 g5 a0 vl vg vo vb vk vt ys gs lo lb lk tl ((((((W.setCell ⟨g4, 0, none⟩ (.int .i64 a0)).setCell ⟨g4, 1, none⟩ vl).setCell ⟨g4, 2, none⟩ vg).setCell ⟨g4, 3, none⟩ vo).setCell ⟨g4, 4, none⟩ vb).setCell ⟨g4, 5, none⟩ vk) :=
  (((((h.set4 0 _ rfl).set4 1 _ rfl).set4 2 _ rfl).set4 3 _ rfl).set4 4 _ rfl).set4 5 _ rfl
theorem FinSt.set5 (h : FinSt w0 g4 g5 a0 vl vg vo vb vk vt ys gs lo lb lk tl W) : FinSt w0 g4 g5 a0 vl vg vo vb vk vt ys gs lo lb lk tl (W.setCell ⟨g5, 0, none⟩ vt) :=
  ⟨h.below.setCell (p := ⟨g5, 0, none⟩) h.h5 vt, h.h4, h.h5, blk_far h.k4 (p := ⟨g5, 0, none⟩) (blk_ne h.k4 h.k5 (by decide)) vt, by simpa using blk_set h.k5 0 vt, Kd.R_set h.rl h.k5 (by decide) 0 vt, Kd.R_set h.rg h.k5 (by decide) 0 vt, Kd.R_set h.ro h.k5 (by decide) 0 vt, Kd.R_set h.rb h.k5 (by decide) 0 vt, Kd.R_set h.rk h.k5 (by decide) 0 vt, Kd.R_set h.rt h.k5 (by decide) 0 vt⟩
theorem FinSt.appended (h : FinSt w0 g4 g5 a0 vl vg vo vb vk vt ys gs lo lb lk tl W) {v1 : Value} {w1 : World} {y : S41} (hR : Kd.R k41 41 w1 w0.heap.size (fun _ => True) v1 (ys ++ [y])) (hB : Below w0.heap.size w0 w1) (hg : W.grownBy w1 vl.ownBlock) :
    FinSt w0 g4 g5 a0 v1 vg vo vb vk vt (ys ++ [y]) gs lo lb lk tl (w1.setCell ⟨g4, 1, none⟩ v1) ∧ w1.heap[g4]? = some (.cells #[.int .i64 a0, vl, vg, vo, vb, vk] 26 (0, 0)) ∧ w1.heap[g5]? = some (.cells #[vt] 24 (0, 0)) := by
  have k4 := blk_grown h.k4 hg (Kd.R_ne h.rl h.k4 (by decide))
  have k5 := blk_grown h.k5 hg (Kd.R_ne h.rl h.k5 (by decide))
  have ty := Kd.R_typed h.rl
  exact ⟨⟨hB.setCell (p := ⟨g4, 1, none⟩) h.h4 v1, h.h4, h.h5, by simpa using blk_set k4 1 v1, blk_far k5 (p := ⟨g4, 1, none⟩) (blk_ne k5 k4 (by decide)) v1, Kd.R_set hR k4 (by decide) 1 v1, Kd.R_set (Kd.R_over' h.rg ty (by decide) hg) k4 (by decide) 1 v1, Kd.R_set (Kd.R_over' h.ro ty (by decide) hg) k4 (by decide) 1 v1, Kd.R_set (Kd.R_over' h.rb ty (by decide) hg) k4 (by decide) 1 v1, Kd.R_set (Kd.R_over' h.rk ty (by decide) hg) k4 (by decide) 1 v1, Kd.R_set (Kd.R_over' h.rt ty (by decide) hg) k4 (by decide) 1 v1⟩, k4, k5⟩
end
set_option maxHeartbeats 8000000 in
set_option maxRecDepth 100000 in
theorem strash_With.good (a0 : Int) (A1 : Option Addr) (c1 : Nat) (l1 : List S41) (A2 : Option Addr) (c2 : Nat) (l2 : List S68) (A3 : Option Addr) (c3 : Nat) (l3 : List Int) (A4 : Option Addr) (c4 : Nat) (l4 : List Int) (A5 : Option Addr) (c5 : Nat) (l5 : List Int) (A6 : Option Addr) (c6 : Nat) (is : List Int) (w : World) (hr1 : Kd.C k41 w A1 l1.length l1) (hc1 : l1.length ≤ c1) (hr2 : Kd.C k68 w A2 l2.length l2) (hc2 : l2.length ≤ c2) (hr3 : Kd.C (Kd.int .u32) w A3 l3.length l3) (hc3 : l3.length ≤ c3) (hr4 : Kd.C (Kd.int .u32) w A4 l4.length l4) (hc4 : l4.length ≤ c4) (hr5 : Kd.C (Kd.int .u32) w A5 l5.length l5) (hc5 : l5.length ≤ c5) (hr6 : Kd.C (Kd.int .u8) w A6 is.length is) (hc6 : is.length ≤ c6)
  (hok : okIn l1 l2 = true) (hi1 : In41 l1) (hi2 : In68 l2) (hi3 : InU32 l3) (hi4 : InU32 l4) (hi5 : InU32 l5) (hi : InU8 is) (hc : withOk a0 l1 l2 l3 l4 l5 is) :
  Calls Try.prog 43 #[.agg #[.int .i64 a0, .slice A1 l1.length c1, .slice A2 l2.length c2, .slice A3 l3.length c3, .slice A4 l4.length c4, .slice A5 l5.length c5], .slice A6 is.length c6] w fun e w' => ∃ v1_ v2_ v3_ v4_ v5_ v6_ : Value, e = .returned (.tuple #[.agg #[.int .i64 a0, v1_, v2_, v3_, v4_, v5_], v6_, .int .i64 0]) ∧ Kd.R k41 41 w' w.heap.size (fun _ => True) v1_ (l1.map (fun g => ⟨litP (wasW a0 l1 l2 is).1 g.f0, g.f1⟩)) ∧ Kd.R k68 68 w' w.heap.size (fun _ => True) v2_ (wasW a0 l1 l2 is).2 ∧ Kd.R (Kd.int .u32) 39 w' w.heap.size (fun k_ => some k_ ≠ (v4_ : Value).ownBlock ∧ some k_ ≠ (v5_ : Value).ownBlock ∧ some k_ ≠ (v6_ : Value).ownBlock) v3_ (l3.map (litP (wasW a0 l1 l2 is).1)) ∧ Kd.R (Kd.int .u32) 39 w' w.heap.size (fun k_ => some k_ ≠ (v3_ : Value).ownBlock ∧ some k_ ≠ (v5_ : Value).ownBlock ∧ some k_ ≠ (v6_ : Value).ownBlock) v4_ (l4.map (litP (wasW a0 l1 l2 is).1)) ∧ Kd.R (Kd.int .u32) 39 w' w.heap.size (fun k_ => some k_ ≠ (v3_ : Value).ownBlock ∧ some k_ ≠ (v4_ : Value).ownBlock ∧ some k_ ≠ (v6_ : Value).ownBlock) v5_ (l5.map (litP (wasW a0 l1 l2 is).1)) ∧ Kd.R (Kd.int .u32) 39 w' w.heap.size (fun k_ => some k_ ≠ (v3_ : Value).ownBlock ∧ some k_ ≠ (v4_ : Value).ownBlock ∧ some k_ ≠ (v5_ : Value).ownBlock) v6_ (wasW a0 l1 l2 is).1 ∧ Below w.heap.size w w' := by
 have hu26 := Try.underlying26
 have hu68 := Try.underlying68
 have hu41 := Try.underlying41
 have hu123 := Try.underlying123
 obtain ⟨hm, hl, h0, ha⟩ := hc
 have HMAY := Aside0.mk (fun W (h : MayAt a0 A1 c1 l1 A2 c2 l2 A3 c3 l3 A4 c4 l4 A5 c5 l5 w.heap.size w W) => norm_May.calls a0 A1 c1 l1 A2 c2 l2 A3 c3 l3 A4 c4 l4 A5 c5 l5 _ W h.h1 hc1 h.h2 hc2 h.h3 hc3 h.h4 hc4 h.h5 hc5 rfl)
 have HVARS := Aside0.mk (fun W (h : MayAt a0 A1 c1 l1 A2 c2 l2 A3 c3 l3 A4 c4 l4 A5 c5 l5 w.heap.size w W) => norm_Vars.calls a0 A1 c1 l1 A2 c2 l2 A3 c3 l3 A4 c4 l4 A5 c5 l5 (if mayB a0 l1 l2 l3 l4 l5 = true then varsW a0 l1.length l2.length else 0) W h.h1 hc1 h.h2 hc2 h.h3 hc3 h.h4 hc4 h.h5 hc5 (by
  simp only [norm_Vars.f, norm_May.f, norm_vars.f, Option.bind_some]
  split <;> rfl))
 have H0 := Aside0.mk (fun W (hb : Below w.heap.size w W) (hk : W.heap[w.heap.size]? = some (.cells #[.int .i64 a0, .slice A1 l1.length c1, .slice A2 l2.length c2, .slice A3 l3.length c3, .slice A4 l4.length c4, .slice A5 l5.length c5] 26 (0, 0))) => (⟨hb, hk, Kd.C_below hr1 hb, Kd.C_below hr2 hb, Kd.C_below hr3 hb, Kd.C_below hr4 hb, Kd.C_below hr5 hb⟩ : MayAt a0 A1 c1 l1 A2 c2 l2 A3 c3 l3 A4 c4 l4 A5 c5 l5 w.heap.size w W))
 have H6 := Aside0.mk hr6
 have HC1 := Aside0.mk (fun W (hb : Below w.heap.size w W) => Kd.C_below hr1 hb)
 have HI := Aside0.mk hi
 have HI1 := Aside0.mk hi1
 have HI2 := Aside0.mk hi2
 have HI35 := Aside0.mk (And.intro hi3 (And.intro hi4 hi5))
 clear hr1 hr2 hr3 hr4 hr5 hr6 hi hi1 hi2 hi3 hi4 hi5
 rw [hm] at HMAY HVARS
 rw [if_pos rfl] at HVARS
 obtain ⟨HVA, hV⟩ := valid_of_may hok hm
 have hpos := HVA.pos
 have hle := HVA.le
 have HNL := Aside0.mk (And.intro HVA.outs.1 (And.intro HVA.bads.1 HVA.cons.1))
 rw [hV] at HVARS
 obtain ⟨F, hF⟩ : ∃ F, 1 + a0 + (l1.length : Int) = F := ⟨_, rfl⟩
 have HF := Aside0.mk hF
 have HFB : Aside0 (0 ≤ F ∧ F ≤ 40000) := ⟨by omega, by omega⟩
 have HLEN : Aside0 ((is.length : Int) = F + (l2.length : Int) ∧ is.length ≤ 16385) := ⟨by omega, by omega⟩
 have HN1 : Aside0 (l1.length ≤ 16385) := ⟨by omega⟩
 generalize hVV : a0 + (l1.length : Int) + (l2.length : Int) = V at HVARS hle hl
 have es1 : IntKind.i64.wrap (V + 1) = V + 1 := IntWalk.i64_in _ (by omega)
 have es2 : wrap64 (V + 1) = V + 1 := wrap64_id (by omega) (by omega)
 have eA : wrap64 (1 + a0) = 1 + a0 := wrap64_id (by omega) (by omega)
 have eB : wrap64 (1 + a0 + (l1.length : Int)) = F := by rw [hF]; exact wrap64_id (by omega) (by omega)
 have eC : IntKind.u32.wrap F = F := u32_id (by omega) (by omega)
 have hl1 : ((is.length : Int) != V + 1) = false := bne_eq_false_iff_eq.mpr hl
 have hpz : (0 : Int) < (is.length : Int) := by omega
 obtain ⟨ad, e6, x6⟩ := Kd.at_int H6.out 0 (by omega) (by omega)
 cases e6
 replace x6 : w.cell? ad = some (.int .u8 (rd is 0)) := by simpa [add_zero_addr] using x6
 obtain ⟨m, hmE, hmI⟩ := max_is is (by omega) (by omega)
 obtain ⟨km, hmk⟩ := hmE.rounds
 have hm2 : ¬ 2 < m := fun h => by
  obtain ⟨x, hx, h2⟩ := hmI.1 h
  have := List.all_eq_true.1 ha x hx
  simp only [decide_eq_true_eq] at this
  omega
 have HMAX := Aside0.mk (fun W (hb : Below w.heap.size w W) => slices_Max_uint8_uint8.calls km (some ad) c6 is m W (Kd.C_below H6.out hb) hc6 hmk)
 have hm3 : decide (2 < m) = false := decide_eq_false hm2
 have h01 : (rd is 0 != 0) = false := bne_eq_false_iff_eq.mpr h0
 have X6 := Aside0.mk x6
 have HWAS : Aside0 (wasW a0 l1 l2 is = runW F l2 is is.length) := ⟨by unfold wasW; rw [hF]⟩
 clear hm hok hl h0 ha hmk hmI hm2 hVV HVA hV x6 hF hpos hle hmE
 go_enter Try.func43, Try.ntmps43
 go_wp2_with (first | ((with_reducible refine gate_dst (N := 2) rfl ?_); (try (refine gate_guard (by rfl) ?_; dsimp only)); refine box_event ?hg (N := 2) ?hd (cs := #[.int .i64 a0, .slice A1 l1.length c1, .slice A2 l2.length c2, .slice A3 l3.length c3, .slice A4 l4.length c4, .slice A5 l5.length c5]) (t := 26) ?hr ?_; (case hd => rfl); (case hg => rfl); (case hr => first | (go_simp; done) | (go_simp; rfl)); intro g hg_ w1 BK HB; subst hg_; have HM := Aside0.mk (H0.out _ HB BK); clear HB BK) | ((with_reducible refine gate_dst (N := 4) rfl ?_); (try (refine gate_guard (by rfl) ?_; dsimp only)); refine box_event ?hg (N := 4) ?hd (cs := #[.int .i64 0, .slice none 0 0, .slice none 0 0, .slice none 0 0, .slice none 0 0, .slice none 0 0]) (t := 26) ?hr ?_; (case hd => rfl); (case hg => rfl); (case hr => first | (go_simp; done) | (go_simp; rfl)); intro g4 hg_ w2 bk2 hb2; have HM2 := Aside0.mk (HM.out.step hb2); have G4 := Aside0.mk (show w.heap.size < g4 from by rw [hg_]; exact blk_lt HM.out.blk); have K4 := Aside0.mk bk2; clear hg_ hb2 bk2) | ((with_reducible refine gate_dst (N := 5) rfl ?_); (try (refine gate_guard (by rfl) ?_; dsimp only)); refine box_event ?hg (N := 5) ?hd (cs := #[.slice none 0 0]) (t := 24) ?hr ?_; (case hd => rfl); (case hg => rfl); (case hr => first | (go_simp; done) | (go_simp; rfl)); intro g5 hg_ w3 bk3 hb3; have HM3 := Aside0.mk (HM2.out.step hb3); have G5 := Aside0.mk (show w.heap.size ≤ g5 from by rw [hg_]; exact HM2.out.below.size); have K43 := Aside0.mk (blk_below K4.out hb3); have K5 := Aside0.mk bk3; clear hg_ hb3 bk3; have z0 : w3.cell? ⟨w.heap.size, 0, none⟩ = some (.int .i64 a0) := (blk_cell HM3.out.blk 0).trans rfl; have z1 : w3.cell? ⟨w.heap.size, 1, none⟩ = some (.slice A1 l1.length c1) := (blk_cell HM3.out.blk 1).trans rfl; have z2 : w3.cell? ⟨w.heap.size, 2, none⟩ = some (.slice A2 l2.length c2) := (blk_cell HM3.out.blk 2).trans rfl; have z3 : w3.cell? ⟨w.heap.size, 3, none⟩ = some (.slice A3 l3.length c3) := (blk_cell HM3.out.blk 3).trans rfl; have z4 : w3.cell? ⟨w.heap.size, 4, none⟩ = some (.slice A4 l4.length c4) := (blk_cell HM3.out.blk 4).trans rfl; have z5 : w3.cell? ⟨w.heap.size, 5, none⟩ = some (.slice A5 l5.length c5) := (blk_cell HM3.out.blk 5).trans rfl) | (go_at_call 92; refine (HMAY.out _ HM3.out).mono ?_; rintro e w4 ⟨rfl, hb⟩; have HM4 := Aside0.mk (HM3.out.step hb); have K44 := Aside0.mk (blk_below K43.out hb); have K54 := Aside0.mk (blk_below K5.out hb); clear hb; clear z0 z1 z2 z3 z4 z5; have z0 : w4.cell? ⟨w.heap.size, 0, none⟩ = some (.int .i64 a0) := (blk_cell HM4.out.blk 0).trans rfl; have z1 : w4.cell? ⟨w.heap.size, 1, none⟩ = some (.slice A1 l1.length c1) := (blk_cell HM4.out.blk 1).trans rfl; have z2 : w4.cell? ⟨w.heap.size, 2, none⟩ = some (.slice A2 l2.length c2) := (blk_cell HM4.out.blk 2).trans rfl; have z3 : w4.cell? ⟨w.heap.size, 3, none⟩ = some (.slice A3 l3.length c3) := (blk_cell HM4.out.blk 3).trans rfl; have z4 : w4.cell? ⟨w.heap.size, 4, none⟩ = some (.slice A4 l4.length c4) := (blk_cell HM4.out.blk 4).trans rfl; have z5 : w4.cell? ⟨w.heap.size, 5, none⟩ = some (.slice A5 l5.length c5) := (blk_cell HM4.out.blk 5).trans rfl) | (go_at_call 101; refine (HVARS.out _ HM4.out).mono ?_; rintro e w5 ⟨rfl, hb⟩; have HM5 := Aside0.mk (HM4.out.step hb); have K45 := Aside0.mk (blk_below K44.out hb); have K55 := Aside0.mk (blk_below K54.out hb); clear hb; clear z0 z1 z2 z3 z4 z5; have z0 : w5.cell? ⟨w.heap.size, 0, none⟩ = some (.int .i64 a0) := (blk_cell HM5.out.blk 0).trans rfl; have z1 : w5.cell? ⟨w.heap.size, 1, none⟩ = some (.slice A1 l1.length c1) := (blk_cell HM5.out.blk 1).trans rfl; have z2 : w5.cell? ⟨w.heap.size, 2, none⟩ = some (.slice A2 l2.length c2) := (blk_cell HM5.out.blk 2).trans rfl; have z3 : w5.cell? ⟨w.heap.size, 3, none⟩ = some (.slice A3 l3.length c3) := (blk_cell HM5.out.blk 3).trans rfl; have z4 : w5.cell? ⟨w.heap.size, 4, none⟩ = some (.slice A4 l4.length c4) := (blk_cell HM5.out.blk 4).trans rfl; have z5 : w5.cell? ⟨w.heap.size, 5, none⟩ = some (.slice A5 l5.length c5) := (blk_cell HM5.out.blk 5).trans rfl; have x6 := (HM5.out.below.cell (World.block_lt_of_cell? w _ X6.out)).trans X6.out) | (go_at_call 102; refine (HMAX.out _ HM5.out.below).mono ?_; rintro e w6 ⟨rfl, hb⟩; have HM6 := Aside0.mk (HM5.out.step hb); have K46 := Aside0.mk (blk_below K45.out hb); have K56 := Aside0.mk (blk_below K55.out hb); clear hb; clear z0 z1 z2 z3 z4 z5; have z0 : w6.cell? ⟨w.heap.size, 0, none⟩ = some (.int .i64 a0) := (blk_cell HM6.out.blk 0).trans rfl; have z1 : w6.cell? ⟨w.heap.size, 1, none⟩ = some (.slice A1 l1.length c1) := (blk_cell HM6.out.blk 1).trans rfl; have z2 : w6.cell? ⟨w.heap.size, 2, none⟩ = some (.slice A2 l2.length c2) := (blk_cell HM6.out.blk 2).trans rfl; have z3 : w6.cell? ⟨w.heap.size, 3, none⟩ = some (.slice A3 l3.length c3) := (blk_cell HM6.out.blk 3).trans rfl; have z4 : w6.cell? ⟨w.heap.size, 4, none⟩ = some (.slice A4 l4.length c4) := (blk_cell HM6.out.blk 4).trans rfl; have z5 : w6.cell? ⟨w.heap.size, 5, none⟩ = some (.slice A5 l5.length c5) := (blk_cell HM6.out.blk 5).trans rfl; clear x6) | ((with_reducible refine gate_dst (N := 45) rfl ?_); refine map_event ?hg (N := 45) ?hd ?hr ?_; (case hd => rfl); (case hg => rfl); (case hr => first | (go_simp; done) | (go_simp; rfl)); intro mb hm_ w7 bm hbm; have HM7 := Aside0.mk (HM6.out.step hbm); have MB := Aside0.mk (show w.heap.size ≤ mb from by rw [hm_]; exact HM6.out.below.size); have KM7 := Aside0.mk bm; have K47 := Aside0.mk (blk_below K46.out hbm); have K57 := Aside0.mk (blk_below K56.out hbm); clear hm_ hbm bm; clear z0 z1 z2 z3 z4 z5) | ((with_reducible refine gate_dst (N := 47) rfl ?_); (try (refine gate_guard (by rfl) ?_; dsimp only)); refine box_event ?hg (N := 47) ?hd (cs := #[.int .u32 F, .slice none 0 0, .map (some mb)]) (t := 123) ?hr ?_; (case hd => rfl); (case hg => rfl); (case hr => first | (go_simp; done) | (go_simp; rfl)); intro gm hg_ w8 bk8 hb8; have HM8 := Aside0.mk (HM7.out.step hb8); have GM := Aside0.mk (show w.heap.size ≤ gm from by rw [hg_]; exact HM7.out.below.size); have K48 := Aside0.mk (blk_below K47.out hb8); have K58 := Aside0.mk (blk_below K57.out hb8); have KM8 := Aside0.mk (blk_below KM7.out hb8); have KG8 := Aside0.mk bk8; clear hg_ hb8 bk8))
 clear es1 es2 eA eB hl1 hm3 h01
 have HW8 := Aside0.mk (show WiSt a0 A1 c1 l1 A2 c2 l2 A3 c3 l3 A4 c4 l4 A5 c5 l5 w g4 g5 gm mb F [] [] w8 from ⟨⟨HM8.out.below, GM.out, MB.out, (fun g hg => by cases hg), (fun i j g h hg => by simp at hg), KM8.out, _, KG8.out, Kd.R_nil _ _ _ _ _⟩, HM8.out.blk, K48.out, G4.out, G5.out, _, K58.out, Kd.R_nil _ _ _ _ _⟩)
 clear HM HM2 HM3 HM4 HM5 HM6 HM7 HM8 K4 K43 K44 K45 K46 K47 K48 K5 K54 K55 K56 K57 K58 KM7 KM8 KG8 HMAY HVARS HMAX
 go_loopg [50] is.length (fun gg v50 wr => ∃ (k : Nat) (tl : List Int) (gs : List S68), is.length - k ≤ gg ∧ v50 = .int .i64 k ∧ Aside0 (k ≤ is.length) ∧ Aside0 (runW F l2 is k = (tl, gs)) ∧ Aside0 (WiSt a0 A1 c1 l1 A2 c2 l2 A3 c3 l3 A4 c4 l4 A5 c5 l5 w g4 g5 gm mb F tl gs wr))
 case atStart => exact ⟨0, [], [], by omega, rfl, ⟨Nat.zero_le _⟩, ⟨rfl⟩, HW8⟩
 case round =>
  as_aux_lemma =>
   clear HW8
   obtain ⟨k, tl, gs, hg, rfl, HKP, HRU, HW⟩ := hrel
   have hkp := HKP.out
   have hln := HLEN.out.2
   by_cases hlt : k < is.length
   ·
    have hltz : (k : Int) < (is.length : Int) := by omega
    obtain ⟨ad', e, xq⟩ := Kd.at_int (Kd.C_below H6.out HW.out.mkr.below) (k : Int) (by omega) hltz
    cases e
    have ek : (k : Int).toNat = k := by omega
    rw [ek] at xq
    clear ek
    have HX := Aside0.mk (rd_u8 HI.out (k : Int))
    obtain ⟨O1, O2, O3⟩ := runW_ok HFB.out HI2.out HI.out k (by omega)
    rw [HRU.out] at O1 O2 O3
    dsimp only at O1 O2 O3
    have OL := Aside0.mk (show tl.length ≤ 16385 from by omega)
    have OG := Aside0.mk (show gs.length ≤ 16385 from by omega)
    have OU := Aside0.mk O3
    clear O1 O2 O3
    have HNX : Aside0 (runW F l2 is (k + 1) = stepW F l2 (tl, gs) k (rd is (k : Int))) := ⟨by rw [runW, HRU.out]⟩
    generalize rd is (k : Int) = x at xq HX HNX
    obtain ⟨vt, k5, r5⟩ := HW.out.k5
    obtain ⟨At, ct, rfl⟩ := Kd.R_slice r5
    have u5 : wr.cell? ⟨g5, 0, none⟩ = some (.slice At tl.length ct) := (blk_cell k5 0).trans rfl
    have K5 := Aside0.mk k5
    have R5 := Aside0.mk r5
    clear k5 r5
    by_cases hx2 : x = 2
    ·
     subst hx2
     obtain ⟨vg, hkm, hrm⟩ := HW.out.mkr.st
     obtain ⟨Ag, cg, rfl⟩ := Kd.R_slice hrm
     have KM := Aside0.mk hkm
     have RM := Aside0.mk hrm
     have um : wr.cell? ⟨gm, 0, none⟩ = some (.int .u32 F) := (blk_cell hkm 0).trans rfl
     clear hkm hrm
     have eD : IntKind.i64.wrap F = F := IntWalk.i64_in _ (by have := HFB.out; omega)
     have eD' : wrap64 F = F := wrap64_id (by have := HFB.out; omega) (by have := HFB.out; omega)
     by_cases hF2 : (k : Int) < F
     ·
      have HF2 := Aside0.mk hF2
      have e1 : wrap64 (2 * (k : Int)) = 2 * (k : Int) := wrap64_id (by omega) (by omega)
      have e2 : IntKind.u32.wrap (2 * (k : Int)) = 2 * (k : Int) := u32_id (by omega) (by omega)
      go_wp2_with (first | ((with_reducible refine gate_builtin (b := .append) (xs := #[.tmp 95, .tmp 99]) rfl ?_); at_builtin; refine Kd.R_append (Kd.int .u32) (w0 := w) w.heap.size rfl (.tmp 95) (.tmp 99) 24 39 (.int .u32 0) 4 rfl Try.underlying24 xinfoU' rfl (by decide) (by omega) (.slice At tl.length ct) tl (2 * (k : Int)) [.int .u32 (2 * (k : Int))] (fun _ => True) (fun _ => False) rfl (by first | (go_simp; done) | (go_simp; rfl)) rfl (fun _ hk => hk.elim) (fun _ _ => trivial) R5.out HW.out.mkr.below HW.out.mkr.below.size (by have := OL.out; omega) ?_; intro v1 w10 hR hB hgr _; obtain ⟨Av, cv, hv_⟩ := Kd.R_slice hR; subst hv_; have HAP := Aside0.mk (HW.out.appended K5.out R5.out hR hB hgr); clear hR hB hgr u5; have u5 : w10.cell? ⟨g5, 0, none⟩ = some (.slice At tl.length ct) := (blk_cell HAP.out.2 0).trans rfl; have f5 := blk_frozen HAP.out.2 0) | ((with_reducible refine gate_store (t := 24) (p := .tmp 5) (x := .tmp 100) rfl ?_); refine skip_event (W' := w10.setCell ⟨g5, 0, none⟩ (.slice Av (tl ++ [2 * (k : Int)]).length cv)) ?hn ?hs ?hr ?_; (case hn => rfl); (case hs => rfl); (case hr => first | (go_simp; done) | (go_simp; rfl)); intro w11 hw_; have HW11 := Aside0.mk (show WiSt a0 A1 c1 l1 A2 c2 l2 A3 c3 l3 A4 c4 l4 A5 c5 l5 w g4 g5 gm mb F (tl ++ [2 * (k : Int)]) gs w11 from by rw [hw_]; exact HAP.out.1); clear hw_ u5 f5))
      clear e1 e2
      go_wp2
      go_roundg (is.length - (k + 1))
      case measure => omega
      case rel => exact ⟨k + 1, tl ++ [2 * (k : Int)], gs, by omega, by go_num, ⟨by omega⟩, ⟨by rw [HNX.out]; unfold stepW; rw [if_neg (by decide), if_pos HF2.out]⟩, HW11⟩
     ·
      obtain ⟨j, hj⟩ : ∃ j : Nat, (k : Int) = F + (j : Int) := ⟨((k : Int) - F).toNat, by omega⟩
      have hjl : j < l2.length := by have := HLEN.out.1; omega
      have hjz : (j : Int) < (l2.length : Int) := by omega
      have hjy : 0 ≤ (j : Int) := by omega
      have M := H0.out _ HW.out.mkr.below HW.out.k2
      obtain ⟨ad2, e, q0, q1⟩ := at_T68 M.h2 (j : Int) (by omega) hjz
      cases e
      have ej : (j : Int).toNat = j := by omega
      rw [ej] at q0 q1
      clear ej M
      have hkj : (k : Int) - F = (j : Int) := by omega
      have HYO := Aside0.mk (rd68_ok HI2.out (j : Int))
      obtain ⟨y, hy⟩ : ∃ y, rd_T68 l2 (j : Int) = y := ⟨_, rfl⟩
      rw [hy] at q0 q1 HYO
      have HYE := Aside0.mk (show rd_T68 l2 ((k : Int) - F) = y from by rw [hkj, hy])
      have eE : IntKind.i64.wrap ((k : Int) - F) = (j : Int) := by rw [hkj]; exact IntWalk.i64_in _ (by have := HLEN.out; have := HFB.out; omega)
      have HNF := Aside0.mk hF2
      clear hkj hy hj
      go_wp2_with fail
      refine start_ (n := 13) (S := fun w' => w'.cell? ⟨w.heap.size, 2, none⟩ = some (.slice (some ad2) l2.length c2) ∧ w'.cell? ⟨gm, 0, none⟩ = some (.int .u32 F) ∧ w'.cell? (ad2.add (j * 2)) = some (.int .u32 y.f0) ∧ w'.cell? ⟨(ad2.add (j * 2)).block, (ad2.add (j * 2)).off + 1, none⟩ = some (.int .u32 y.f1)) (ds := [12]) #[false, false, false, false, false, false, false, false, false, false, false, false, false] (by kernel_rfl) rfl rfl ⟨(blk_cell HW.out.k2 2).trans rfl, um, q0, q1⟩ (fun hHeld => ?_)
      have HWa := Aside0.mk (HW.out.step (below_drew1 (Below.refl wr.heap.size wr)))
      have K5a := Aside0.mk (blk_below K5.out (below_drew1 (Below.refl wr.heap.size wr)))
      have R5a := Aside0.mk (Kd.R_below R5.out (below_drew1 (Below.refl wr.heap.size wr)))
      have KMa := Aside0.mk (blk_below KM.out (below_drew1 (Below.refl wr.heap.size wr)))
      have RMa := Aside0.mk (Kd.R_below RM.out (below_drew1 (Below.refl wr.heap.size wr)))
      clear HW K5 R5 KM RM um u5 q0 q1
      generalize wr.drew = wa at HWa K5a R5a KMa RMa hHeld ⊢
      refine pure_ (i := 0) (N := some 55) (v := ?_) (a' := ?_) #[true, false, false, false, false, false, false, false, false, false, false, false, false] rfl rfl (by kernel_rfl) (fun _ _ _ h => h) (Or.inl ⟨by rfl, ?_⟩) ?_ ?_
      rotate_left
      ·
       intro w'
       go_simp
       with_reducible rfl
      rotate_left
      ·
       simp only [Act.put, List.setIfInBounds_toArray, List.set_cons_zero, List.set_cons_succ]
       rfl
      refine take_ (i := 1) (N := some 56) (v := ?_) (a' := ?_) #[true, true, false, false, false, false, false, false, false, false, false, false, false] rfl rfl (by kernel_rfl) (fun _ _ _ h => h) (Or.inl ⟨by rfl, ?_⟩) hHeld ?_ ?_
      rotate_left
      ·
       rintro w' ⟨s0, s1, s2, s3⟩
       go_simp
       with_reducible rfl
      rotate_left
      ·
       simp only [Act.put, List.setIfInBounds_toArray, List.set_cons_zero, List.set_cons_succ]
       rfl
      refine pure_ (i := 2) (N := some 57) (v := ?_) (a' := ?_) #[true, true, true, false, false, false, false, false, false, false, false, false, false] rfl rfl (by kernel_rfl) (fun _ _ _ h => h) (Or.inl ⟨by rfl, ?_⟩) ?_ ?_
      rotate_left
      ·
       intro w'
       go_simp
       with_reducible rfl
      rotate_left
      ·
       simp only [Act.put, List.setIfInBounds_toArray, List.set_cons_zero, List.set_cons_succ]
       rfl
      refine pure_ (i := 3) (N := some 58) (v := ?_) (a' := ?_) #[true, true, true, true, false, false, false, false, false, false, false, false, false] rfl rfl (by kernel_rfl) (fun _ _ _ h => h) (Or.inl ⟨by rfl, ?_⟩) ?_ ?_
      rotate_left
      ·
       intro w'
       go_simp
       with_reducible rfl
      rotate_left
      ·
       simp only [Act.put, List.setIfInBounds_toArray, List.set_cons_zero, List.set_cons_succ]
       rfl
      refine pure_ (i := 4) (N := some 59) (v := ?_) (a' := ?_) #[true, true, true, true, true, false, false, false, false, false, false, false, false] rfl rfl (by kernel_rfl) (fun _ _ _ h => h) (Or.inl ⟨by rfl, ?_⟩) ?_ ?_
      rotate_left
      ·
       intro w'
       go_simp
       with_reducible rfl
      rotate_left
      ·
       simp only [Act.put, List.setIfInBounds_toArray, List.set_cons_zero, List.set_cons_succ]
       rfl
      refine pure_ (i := 5) (N := some 60) (v := ?_) (a' := ?_) #[true, true, true, true, true, true, false, false, false, false, false, false, false] rfl rfl (by kernel_rfl) (fun _ _ _ h => h) (Or.inl ⟨by rfl, ?_⟩) ?_ ?_
      rotate_left
      ·
       intro w'
       go_simp
       with_reducible rfl
      rotate_left
      ·
       simp only [Act.put, List.setIfInBounds_toArray, List.set_cons_zero, List.set_cons_succ]
       rfl
      refine take_ (i := 6) (N := some 61) (v := ?_) (a' := ?_) #[true, true, true, true, true, true, true, false, false, false, false, false, false] rfl rfl (by kernel_rfl) (fun _ _ _ h => h) (Or.inl ⟨by rfl, ?_⟩) hHeld ?_ ?_
      rotate_left
      ·
       rintro w' ⟨s0, s1, s2, s3⟩
       go_simp
       with_reducible rfl
      rotate_left
      ·
       simp only [Act.put, List.setIfInBounds_toArray, List.set_cons_zero, List.set_cons_succ]
       rfl
      refine pure_ (i := 7) (N := some 62) (v := ?_) (a' := ?_) #[true, true, true, true, true, true, true, true, false, false, false, false, false] rfl rfl (by kernel_rfl) (fun _ _ _ h => h) (Or.inl ⟨by rfl, ?_⟩) ?_ ?_
      rotate_left
      ·
       intro w'
       go_simp
       with_reducible rfl
      rotate_left
      ·
       simp only [Act.put, List.setIfInBounds_toArray, List.set_cons_zero, List.set_cons_succ]
       rfl
      refine pure_ (i := 8) (N := some 63) (v := ?_) (a' := ?_) #[true, true, true, true, true, true, true, true, true, false, false, false, false] rfl rfl (by kernel_rfl) (fun _ _ _ h => h) (Or.inl ⟨by rfl, ?_⟩) ?_ ?_
      rotate_left
      ·
       intro w'
       go_simp
       with_reducible rfl
      rotate_left
      ·
       simp only [Act.put, List.setIfInBounds_toArray, List.set_cons_zero, List.set_cons_succ]
       rfl
      refine pure_ (i := 9) (N := some 64) (v := ?_) (a' := ?_) #[true, true, true, true, true, true, true, true, true, true, false, false, false] rfl rfl (by kernel_rfl) (fun _ _ _ h => h) (Or.inl ⟨by rfl, ?_⟩) ?_ ?_
      rotate_left
      ·
       intro w'
       go_simp
       with_reducible rfl
      rotate_left
      ·
       simp only [Act.put, List.setIfInBounds_toArray, List.set_cons_zero, List.set_cons_succ]
       rfl
      refine take_ (i := 10) (N := some 65) (v := ?_) (a' := ?_) #[true, true, true, true, true, true, true, true, true, true, true, false, false] rfl rfl (by kernel_rfl) (fun _ _ _ h => h) (Or.inl ⟨by rfl, ?_⟩) hHeld ?_ ?_
      rotate_left
      ·
       rintro w' ⟨s0, s1, s2, s3⟩
       go_simp
       with_reducible rfl
      rotate_left
      ·
       simp only [Act.put, List.setIfInBounds_toArray, List.set_cons_zero, List.set_cons_succ]
       rfl
      refine one_ (i := 11) (N := some 10) #[true, true, true, true, true, true, true, true, true, true, true, true, false] rfl rfl (by kernel_rfl) (by decide) (fun K hK => ?_)
      refine box_step (by rfl) (N := 10) rfl (cs := #[.int .u32 0, .int .u32 0]) (t := 68) ?hr ?_
      case hr => first | (go_simp; done) | (go_simp; rfl)
      intro g10 hg_ wb bk hb
      have G10 := Aside0.mk (show wa.heap.size ≤ g10 from by rw [hg_]; exact Nat.le_refl _)
      have HNE := Aside0.mk (show some g10 ≠ (Value.slice Ag gs.length cg).ownBlock from fun e => by have h1 := Kd.R_lt RMa.out g10 e.symm; have h2 := G10.out; omega)
      have HBb := Aside0.mk hb
      have BKb := Aside0.mk bk
      refine hK.out _ _ ⟨(blk_cell (blk_below HWa.out.k2 hb) 2).trans rfl, (blk_cell (blk_below KMa.out hb) 0).trans rfl, (hb.cell (World.block_lt_of_cell? _ _ hHeld.2.2.1)).trans hHeld.2.2.1, (hb.cell (World.block_lt_of_cell? _ _ hHeld.2.2.2)).trans hHeld.2.2.2⟩ (fun hHeld2 => ?_)
      clear hK K hHeld hHeld2 hg_ bk hb
      refine norm_ (a' := ?_) ?_ ?_
      rotate_left
      ·
       show Act.put _ (some 10) _ = _
       simp only [Act.put, List.setIfInBounds_toArray, List.set_cons_zero, List.set_cons_succ]
       rfl
      have i0 : wb.cell? ⟨g10, 0, none⟩ = some (.int .u32 0) := (blk_cell BKb.out 0).trans rfl
      have i1 : wb.cell? ⟨g10, 1, none⟩ = some (.int .u32 0) := (blk_cell BKb.out 1).trans rfl
      have f0 := blk_frozen BKb.out 0
      have f1 := blk_frozen BKb.out 1
      refine last_ (i := 12) (N := none) #[true, true, true, true, true, true, true, true, true, true, true, true, true] rfl rfl (by kernel_rfl) (by decide) (fun K hK => ?_)
      refine skip_step (w1 := (wb.setCell ⟨g10, 0, none⟩ (.int .u32 y.f0)).setCell ⟨g10, 1, none⟩ (.int .u32 y.f1)) (by rfl) rfl ?_ ?_
      · first | (go_simp; done) | (go_simp; rfl)
      refine hK.out _ _ ?_
      clear hK K i0 i1 f0 f1
      refine done_ (by kernel_rfl) ?_
      obtain ⟨wc, hwc⟩ : ∃ wc, (wb.setCell ⟨g10, 0, none⟩ (.int .u32 y.f0)).setCell ⟨g10, 1, none⟩ (.int .u32 y.f1) = wc := ⟨_, rfl⟩
      rw [hwc]
      have HBC := Aside0.mk (show Below wa.heap.size wa wc from by rw [← hwc]; exact below_set2 HBb.out G10.out _ _)
      have BKc := Aside0.mk (show wc.heap[g10]? = some (.cells #[.int .u32 y.f0, .int .u32 y.f1] 68 (0, 0)) from by rw [← hwc]; exact blk_set2 BKb.out _ _)
      clear hwc
      have HWc := Aside0.mk (HWa.out.step HBC.out)
      have K5c := Aside0.mk (blk_below K5a.out HBC.out)
      have R5c := Aside0.mk (Kd.R_below R5a.out HBC.out)
      have KMc := Aside0.mk (blk_below KMa.out HBC.out)
      have RMc := Aside0.mk (Kd.R_below RMa.out HBC.out)
      clear HWa K5a R5a KMa RMa HBC BKb HBb G10 eD eD' eE hjz hjl hjy hF2
      obtain ⟨gp, hgp⟩ : ∃ gp, gateP F gs (litP tl y.f0) (litP tl y.f1) = gp := ⟨_, rfl⟩
      have HGP := Aside0.mk hgp
      clear hgp
      go_wp2_with fail
      refine start_ (n := 14) (S := fun w' => w'.cell? ⟨g5, 0, none⟩ = some (.slice At tl.length ct) ∧ w'.cell? ⟨g10, 0, none⟩ = some (.int .u32 y.f0) ∧ w'.cell? ⟨g10, 1, none⟩ = some (.int .u32 y.f1)) (ds := [13]) #[false, false, false, false, false, false, false, false, false, false, false, false, false, false] (by kernel_rfl) rfl rfl ⟨(blk_cell K5c.out 0).trans rfl, (blk_cell BKc.out 0).trans rfl, (blk_cell BKc.out 1).trans rfl⟩ (fun hHeld => ?_)
      have HWd := Aside0.mk (HWc.out.step (below_drew1 (Below.refl wc.heap.size wc)))
      have K5d := Aside0.mk (blk_below K5c.out (below_drew1 (Below.refl wc.heap.size wc)))
      have R5d := Aside0.mk (Kd.R_below R5c.out (below_drew1 (Below.refl wc.heap.size wc)))
      have KMd := Aside0.mk (blk_below KMc.out (below_drew1 (Below.refl wc.heap.size wc)))
      have RMd := Aside0.mk (Kd.R_below RMc.out (below_drew1 (Below.refl wc.heap.size wc)))
      have BKd := Aside0.mk (blk_below BKc.out (below_drew1 (Below.refl wc.heap.size wc)))
      clear HWc K5c R5c KMc RMc BKc
      generalize wc.drew = wd at HWd K5d R5d KMd RMd BKd hHeld ⊢
      refine take_ (i := 0) (N := some 66) (v := ?_) (a' := ?_) #[true, false, false, false, false, false, false, false, false, false, false, false, false, false] rfl rfl (by kernel_rfl) (fun _ _ _ h => h) (Or.inl ⟨by rfl, ?_⟩) hHeld ?_ ?_
      rotate_left
      ·
       rintro w' ⟨s0, s1, s2⟩
       go_simp
       with_reducible rfl
      rotate_left
      ·
       simp only [Act.put, List.setIfInBounds_toArray, List.set_cons_zero, List.set_cons_succ]
       rfl
      refine pure_ (i := 1) (N := some 67) (v := ?_) (a' := ?_) #[true, true, false, false, false, false, false, false, false, false, false, false, false, false] rfl rfl (by kernel_rfl) (fun _ _ _ h => h) (Or.inl ⟨by rfl, ?_⟩) ?_ ?_
      rotate_left
      ·
       intro w'
       go_simp
       with_reducible rfl
      rotate_left
      ·
       simp only [Act.put, List.setIfInBounds_toArray, List.set_cons_zero, List.set_cons_succ]
       rfl
      refine take_ (i := 2) (N := some 68) (v := ?_) (a' := ?_) #[true, true, true, false, false, false, false, false, false, false, false, false, false, false] rfl rfl (by kernel_rfl) (fun _ _ _ h => h) (Or.inl ⟨by rfl, ?_⟩) hHeld ?_ ?_
      rotate_left
      ·
       rintro w' ⟨s0, s1, s2⟩
       go_simp
       with_reducible rfl
      rotate_left
      ·
       simp only [Act.put, List.setIfInBounds_toArray, List.set_cons_zero, List.set_cons_succ]
       rfl
      refine pure_ (i := 3) (N := some 69) (v := ?_) (a' := ?_) #[true, true, true, true, false, false, false, false, false, false, false, false, false, false] rfl rfl (by kernel_rfl) (fun _ _ _ h => h) (Or.inl ⟨by rfl, ?_⟩) ?_ ?_
      rotate_left
      ·
       intro w'
       go_simp
       with_reducible rfl
      rotate_left
      ·
       simp only [Act.put, List.setIfInBounds_toArray, List.set_cons_zero, List.set_cons_succ]
       rfl
      refine take_ (i := 4) (N := some 70) (v := ?_) (a' := ?_) #[true, true, true, true, true, false, false, false, false, false, false, false, false, false] rfl rfl (by kernel_rfl) (fun _ _ _ h => h) (Or.inl ⟨by rfl, ?_⟩) hHeld ?_ ?_
      rotate_left
      ·
       rintro w' ⟨s0, s1, s2⟩
       go_simp
       with_reducible rfl
      rotate_left
      ·
       simp only [Act.put, List.setIfInBounds_toArray, List.set_cons_zero, List.set_cons_succ]
       rfl
      refine take_ (i := 6) (N := some 72) (v := ?_) (a' := ?_) #[true, true, true, true, true, false, true, false, false, false, false, false, false, false] rfl rfl (by kernel_rfl) (fun _ _ _ h => h) (Or.inl ⟨by rfl, ?_⟩) hHeld ?_ ?_
      rotate_left
      ·
       rintro w' ⟨s0, s1, s2⟩
       go_simp
       with_reducible rfl
      rotate_left
      ·
       simp only [Act.put, List.setIfInBounds_toArray, List.set_cons_zero, List.set_cons_succ]
       rfl
      refine pure_ (i := 7) (N := some 73) (v := ?_) (a' := ?_) #[true, true, true, true, true, false, true, true, false, false, false, false, false, false] rfl rfl (by kernel_rfl) (fun _ _ _ h => h) (Or.inl ⟨by rfl, ?_⟩) ?_ ?_
      rotate_left
      ·
       intro w'
       go_simp
       with_reducible rfl
      rotate_left
      ·
       simp only [Act.put, List.setIfInBounds_toArray, List.set_cons_zero, List.set_cons_succ]
       rfl
      refine take_ (i := 8) (N := some 74) (v := ?_) (a' := ?_) #[true, true, true, true, true, false, true, true, true, false, false, false, false, false] rfl rfl (by kernel_rfl) (fun _ _ _ h => h) (Or.inl ⟨by rfl, ?_⟩) hHeld ?_ ?_
      rotate_left
      ·
       rintro w' ⟨s0, s1, s2⟩
       go_simp
       with_reducible rfl
      rotate_left
      ·
       simp only [Act.put, List.setIfInBounds_toArray, List.set_cons_zero, List.set_cons_succ]
       rfl
      refine one_ (i := 5) (N := some 71) #[true, true, true, true, true, true, true, true, true, false, false, false, false, false] rfl rfl (by kernel_rfl) (by decide) (fun K hK => ?_)
      refine goes_ Try.func45 (by kernel_rfl) rfl #[.slice At tl.length ct, .int .u32 y.f0] (by rfl) rfl rfl (by (try simp only [List.map_toArray, List.map_cons, List.map_nil]); first | done | rfl) ?_
      refine (strash_Lit.calls At ct tl y.f0 (litP tl y.f0) _ (Kd.R_reads' R5d.out).2.2 (Kd.R_reads' R5d.out).2.1 (lit_is HYO.out.1.1 HYO.out.1.2)).mono ?_
      rintro e we ⟨rfl, hd_⟩
      have hd := hd_.below
      refine ⟨_, rfl, ?_⟩
      have HWe := Aside0.mk (HWd.out.step hd)
      have K5e := Aside0.mk (blk_below K5d.out hd)
      have R5e := Aside0.mk (Kd.R_below R5d.out hd)
      have KMe := Aside0.mk (blk_below KMd.out hd)
      have RMe := Aside0.mk (Kd.R_below RMd.out hd)
      have BKe := Aside0.mk (blk_below BKd.out hd)
      clear HWd K5d R5d KMd RMd BKd hd hd_ hHeld
      refine hK.out _ _ ⟨(blk_cell K5e.out 0).trans rfl, (blk_cell BKe.out 0).trans rfl, (blk_cell BKe.out 1).trans rfl⟩ (fun hHeld => ?_)
      clear hK K
      refine norm_ (a' := ?_) ?_ ?_
      rotate_left
      ·
       show Act.put _ (some 71) _ = _
       simp only [Act.put, List.setIfInBounds_toArray, List.set_cons_zero, List.set_cons_succ]
       rfl
      refine one_ (i := 9) (N := some 75) #[true, true, true, true, true, true, true, true, true, true, false, false, false, false] rfl rfl (by kernel_rfl) (by decide) (fun K hK => ?_)
      refine goes_ Try.func45 (by kernel_rfl) rfl #[.slice At tl.length ct, .int .u32 y.f1] (by rfl) rfl rfl (by (try simp only [List.map_toArray, List.map_cons, List.map_nil]); first | done | rfl) ?_
      refine (strash_Lit.calls At ct tl y.f1 (litP tl y.f1) _ (Kd.R_reads' R5e.out).2.2 (Kd.R_reads' R5e.out).2.1 (lit_is HYO.out.2.1 HYO.out.2.2)).mono ?_
      rintro e wf ⟨rfl, hd_⟩
      have hd := hd_.below
      refine ⟨_, rfl, ?_⟩
      have HWf := Aside0.mk (HWe.out.step hd)
      have K5f := Aside0.mk (blk_below K5e.out hd)
      have R5f := Aside0.mk (Kd.R_below R5e.out hd)
      have KMf := Aside0.mk (blk_below KMe.out hd)
      have RMf := Aside0.mk (Kd.R_below RMe.out hd)
      have BKf := Aside0.mk (blk_below BKe.out hd)
      clear HWe K5e R5e KMe RMe BKe hd hd_ hHeld
      refine hK.out _ _ ⟨(blk_cell K5f.out 0).trans rfl, (blk_cell BKf.out 0).trans rfl, (blk_cell BKf.out 1).trans rfl⟩ (fun hHeld => ?_)
      clear hK K
      refine norm_ (a' := ?_) ?_ ?_
      rotate_left
      ·
       show Act.put _ (some 75) _ = _
       simp only [Act.put, List.setIfInBounds_toArray, List.set_cons_zero, List.set_cons_succ]
       rfl
      refine one_ (i := 10) (N := some 76) #[true, true, true, true, true, true, true, true, true, true, true, false, false, false] rfl rfl (by kernel_rfl) (by decide) (fun K hK => ?_)
      refine goes_ Try.func103 (by kernel_rfl) rfl #[.pointer (some ⟨gm, 0, none⟩), .int .u32 (litP tl y.f0), .int .u32 (litP tl y.f1)] (by rfl) rfl rfl (by (try simp only [List.map_toArray, List.map_cons, List.map_nil]); first | done | rfl) ?_
      refine (gate103 F gs w gm mb _ (litP tl y.f0) (litP tl y.f1) HFB.out (by have := OG.out; omega) (litP_u32 OU.out HYO.out.1.1 HYO.out.1.2) (litP_u32 OU.out HYO.out.2.1 HYO.out.2.2) HWf.out.mkr).mono ?_
      rintro e wg ⟨rfl, hm5, ho5, hs5⟩
      rw [HGP.out] at hm5
      rw [HGP.out]
      refine ⟨_, rfl, ?_⟩
      have HWg := Aside0.mk (HWf.out.gated hm5 ho5)
      have K5g := Aside0.mk (ho5 _ _ _ K5f.out (by decide) (by decide))
      have R5g := Aside0.mk (R_othersG R5f.out ho5)
      have BKg := Aside0.mk (hs5 g10 _ BKf.out (fun vg hv => by rw [KMf.out] at hv; cases hv; exact HNE.out))
      clear HWf K5f R5f KMf RMf BKf hm5 ho5 hs5 hHeld
      refine hK.out _ _ ⟨(blk_cell K5g.out 0).trans rfl, (blk_cell BKg.out 0).trans rfl, (blk_cell BKg.out 1).trans rfl⟩ (fun hHeld => ?_)
      clear hK K
      refine norm_ (a' := ?_) ?_ ?_
      rotate_left
      ·
       show Act.put _ (some 76) _ = _
       simp only [Act.put, List.setIfInBounds_toArray, List.set_cons_zero, List.set_cons_succ]
       rfl
      refine one_ (i := 11) (N := some 77) #[true, true, true, true, true, true, true, true, true, true, true, true, false, false] rfl rfl (by kernel_rfl) (by decide) (fun K hK => ?_)
      refine value_ (w1 := ?_) (v := ?_) (by rfl) rfl ?_ ?_
      rotate_left 2
      ·
       go_simp
       constructor
       · rfl
       · rfl
      refine hK.out _ _ ⟨(blk_cell (blk_alloc K5g.out _) 0).trans rfl, (blk_cell (blk_alloc BKg.out _) 0).trans rfl, (blk_cell (blk_alloc BKg.out _) 1).trans rfl⟩ (fun hHeld => ?_)
      clear hK K
      refine norm_ (a' := ?_) ?_ ?_
      rotate_left
      ·
       show Act.put _ (some 77) _ = _
       simp only [Act.put, List.setIfInBounds_toArray, List.set_cons_zero, List.set_cons_succ]
       rfl
      refine one_ (i := 12) (N := some 78) #[true, true, true, true, true, true, true, true, true, true, true, true, true, false] rfl rfl (by kernel_rfl) (by decide) (fun K hK => ?_)
      refine Kd.R_append_step (Kd.int .u32) (w0 := w) w.heap.size (by rfl) (.tmp 66) (.tmp 77) 24 39 (.int .u32 0) 4 rfl Try.underlying24 xinfoU' rfl (by decide) (by omega) (.slice At tl.length ct) tl gp.1 [.int .u32 gp.1] (fun _ => True) (fun _ => False) rfl rfl rfl (fun _ hk => hk.elim) (fun _ _ => trivial) R5g.out HWg.out.mkr.below HWg.out.mkr.below.size (by have := OL.out; omega) ?_
      intro v1 wh hR hB hgr _
      obtain ⟨Av, cv, hv_⟩ := Kd.R_slice hR
      subst hv_
      have HAP := Aside0.mk (HWg.out.appended K5g.out R5g.out hR hB hgr)
      have BKh := Aside0.mk (blk_grown BKg.out hgr (Kd.R_ne R5g.out BKg.out (by decide)))
      clear hR hB hgr hHeld
      refine hK.out _ _ ⟨(blk_cell HAP.out.2 0).trans rfl, (blk_cell BKh.out 0).trans rfl, (blk_cell BKh.out 1).trans rfl⟩ (fun hHeld => ?_)
      clear hK K
      refine norm_ (a' := ?_) ?_ ?_
      rotate_left
      ·
       show Act.put _ (some 78) _ = _
       simp only [Act.put, List.setIfInBounds_toArray, List.set_cons_zero, List.set_cons_succ]
       rfl
      have u5 : wh.cell? ⟨g5, 0, none⟩ = some (.slice At tl.length ct) := (blk_cell HAP.out.2 0).trans rfl
      have f5 := blk_frozen HAP.out.2 0
      clear hHeld
      refine last_ (i := 13) (N := none) #[true, true, true, true, true, true, true, true, true, true, true, true, true, true] rfl rfl (by kernel_rfl) (by decide) (fun K hK => ?_)
      refine skip_step (w1 := ?_) (by rfl) rfl ?_ ?_
      rotate_left
      ·
       go_simp
       rfl
      refine hK.out _ _ ?_
      clear hK K u5 f5
      refine done_ (by kernel_rfl) ?_
      have hap := HAP.out.1
      rw [show (tl ++ [gp.1]).length = tl.length + 1 from by simp] at hap
      have HW11 := Aside0.mk hap
      clear hap HAP
      generalize wh.setCell ⟨g5, 0, none⟩ (.slice Av (tl.length + 1) cv) = wi at HW11 ⊢
      go_wp2
      go_roundg (is.length - (k + 1))
      case measure => omega
      case rel => exact ⟨k + 1, tl ++ [gp.1], gp.2, by omega, by go_num, ⟨by omega⟩, ⟨by rw [HNX.out]; unfold stepW; rw [if_neg (by decide), if_neg (by have := HNF.out; omega)]; dsimp only; rw [HYE.out, HGP.out]⟩, HW11⟩
    ·
     have hx3 : (x != 2) = true := bne_iff_ne.mpr hx2
     have HX2 := Aside0.mk hx2
     have e1 : IntKind.u32.wrap x = x := u32_id (by have := HX.out; omega) (by have := HX.out; omega)
     clear hx2
     go_wp2_with (first | ((with_reducible refine gate_builtin (b := .append) (xs := #[.tmp 82, .tmp 85]) rfl ?_); at_builtin; refine Kd.R_append (Kd.int .u32) (w0 := w) w.heap.size rfl (.tmp 82) (.tmp 85) 24 39 (.int .u32 0) 4 rfl Try.underlying24 xinfoU' rfl (by decide) (by omega) (.slice At tl.length ct) tl (x) [.int .u32 (x)] (fun _ => True) (fun _ => False) rfl (by first | (go_simp; done) | (go_simp; rfl)) rfl (fun _ hk => hk.elim) (fun _ _ => trivial) R5.out HW.out.mkr.below HW.out.mkr.below.size (by have := OL.out; omega) ?_; intro v1 w10 hR hB hgr _; obtain ⟨Av, cv, hv_⟩ := Kd.R_slice hR; subst hv_; have HAP := Aside0.mk (HW.out.appended K5.out R5.out hR hB hgr); clear hR hB hgr u5; have u5 : w10.cell? ⟨g5, 0, none⟩ = some (.slice At tl.length ct) := (blk_cell HAP.out.2 0).trans rfl; have f5 := blk_frozen HAP.out.2 0) | ((with_reducible refine gate_store (t := 24) (p := .tmp 5) (x := .tmp 86) rfl ?_); refine skip_event (W' := w10.setCell ⟨g5, 0, none⟩ (.slice Av (tl ++ [x]).length cv)) ?hn ?hs ?hr ?_; (case hn => rfl); (case hs => rfl); (case hr => first | (go_simp; done) | (go_simp; rfl)); intro w11 hw_; have HW11 := Aside0.mk (show WiSt a0 A1 c1 l1 A2 c2 l2 A3 c3 l3 A4 c4 l4 A5 c5 l5 w g4 g5 gm mb F (tl ++ [x]) gs w11 from by rw [hw_]; exact HAP.out.1); clear hw_ u5 f5))
     clear hx3 e1
     go_wp2
     go_roundg (is.length - (k + 1))
     case measure => omega
     case rel => exact ⟨k + 1, tl ++ [x], gs, by omega, by go_num, ⟨by omega⟩, ⟨by rw [HNX.out]; unfold stepW; rw [if_pos HX2.out]⟩, HW11⟩
   ·
    obtain rfl : k = is.length := by omega
    have hltz : ¬ ((is.length : Nat) : Int) < (is.length : Int) := by omega
    have HWW := Aside0.mk (HWAS.out.trans HRU.out)
    obtain ⟨O1, O2, O3⟩ := runW_ok HFB.out HI2.out HI.out is.length (by omega)
    rw [HRU.out] at O1 O2 O3
    dsimp only at O1 O2 O3
    have OL := Aside0.mk (show tl.length ≤ 16385 from by omega)
    have OU := Aside0.mk O3
    clear O1 O2 O3 HRU HKP hkp
    obtain ⟨vt, k5, r5⟩ := HW.out.k5
    obtain ⟨At, ct, rfl⟩ := Kd.R_slice r5
    have K5 := Aside0.mk k5
    have R5 := Aside0.mk r5
    clear k5 r5
    obtain ⟨vg, hkm, hrm⟩ := HW.out.mkr.st
    obtain ⟨Ag, cg, rfl⟩ := Kd.R_slice hrm
    have KM := Aside0.mk hkm
    have RM := Aside0.mk hrm
    clear hkm hrm
    obtain ⟨lo, hlo⟩ : ∃ lo, l3.map (litP tl) = lo := ⟨_, rfl⟩
    obtain ⟨lb, hlb⟩ : ∃ lb, l4.map (litP tl) = lb := ⟨_, rfl⟩
    obtain ⟨lk, hlk⟩ : ∃ lk, l5.map (litP tl) = lk := ⟨_, rfl⟩
    have HLO := Aside0.mk hlo
    have HLB := Aside0.mk hlb
    have HLK := Aside0.mk hlk
    clear hlo hlb hlk
    have MH := Aside0.mk (fun W (hb : Below wr.heap.size wr W) => H0.out W (below_step HW.out.mkr.below hb) (blk_below HW.out.k2 hb))
    go_wp2_with fail
    refine start_ (n := 20) (S := fun w' => w'.cell? ⟨w.heap.size, 0, none⟩ = some (.int .i64 a0) ∧ w'.cell? ⟨w.heap.size, 3, none⟩ = some (.slice A3 l3.length c3) ∧ w'.cell? ⟨w.heap.size, 4, none⟩ = some (.slice A4 l4.length c4) ∧ w'.cell? ⟨w.heap.size, 5, none⟩ = some (.slice A5 l5.length c5) ∧ w'.cell? ⟨gm, 1, none⟩ = some (.slice Ag gs.length cg)) (ds := [19]) #[false, false, false, false, false, false, false, false, false, false, false, false, false, false, false, false, false, false, false, false] (by kernel_rfl) rfl rfl ⟨(blk_cell HW.out.k2 0).trans rfl, (blk_cell HW.out.k2 3).trans rfl, (blk_cell HW.out.k2 4).trans rfl, (blk_cell HW.out.k2 5).trans rfl, (blk_cell KM.out 1).trans rfl⟩ (fun hHeld => ?_)
    have HBa := Aside0.mk (show Below wr.heap.size wr wr.drew from below_drew1 (Below.refl wr.heap.size wr))
    have HWa := Aside0.mk (HW.out.step HBa.out)
    have K5a := Aside0.mk (blk_below K5.out HBa.out)
    have R5a := Aside0.mk (Kd.R_below R5.out HBa.out)
    have KMa := Aside0.mk (blk_below KM.out HBa.out)
    have RMa := Aside0.mk (Kd.R_below RM.out HBa.out)
    clear HW K5 R5 KM RM
    generalize wr.drew = wa at HBa HWa K5a R5a KMa RMa hHeld ⊢
    have HTL := Aside0.mk (fun k hk => Kd.R_lt R5a.out k hk)
    refine pure_ (i := 0) (N := some 103) (v := ?_) (a' := ?_) #[true, false, false, false, false, false, false, false, false, false, false, false, false, false, false, false, false, false, false, false] rfl rfl (by kernel_rfl) (fun _ _ _ h => h) (Or.inl ⟨by rfl, ?_⟩) ?_ ?_
    rotate_left
    ·
     intro w'
     go_simp
     with_reducible rfl
    rotate_left
    ·
     simp only [Act.put, List.setIfInBounds_toArray, List.set_cons_zero, List.set_cons_succ]
     rfl
    refine take_ (i := 1) (N := some 104) (v := ?_) (a' := ?_) #[true, true, false, false, false, false, false, false, false, false, false, false, false, false, false, false, false, false, false, false] rfl rfl (by kernel_rfl) (fun _ _ _ h => h) (Or.inl ⟨by rfl, ?_⟩) hHeld ?_ ?_
    rotate_left
    ·
     rintro w' ⟨s0, s1, s2, s3, s4⟩
     go_simp
     with_reducible rfl
    rotate_left
    ·
     simp only [Act.put, List.setIfInBounds_toArray, List.set_cons_zero, List.set_cons_succ]
     rfl
    refine pure_ (i := 2) (N := some 105) (v := ?_) (a' := ?_) #[true, true, true, false, false, false, false, false, false, false, false, false, false, false, false, false, false, false, false, false] rfl rfl (by kernel_rfl) (fun _ _ _ h => h) (Or.inl ⟨by rfl, ?_⟩) ?_ ?_
    rotate_left
    ·
     intro w'
     go_simp
     with_reducible rfl
    rotate_left
    ·
     simp only [Act.put, List.setIfInBounds_toArray, List.set_cons_zero, List.set_cons_succ]
     rfl
    refine pure_ (i := 3) (N := some 106) (v := ?_) (a' := ?_) #[true, true, true, true, false, false, false, false, false, false, false, false, false, false, false, false, false, false, false, false] rfl rfl (by kernel_rfl) (fun _ _ _ h => h) (Or.inl ⟨by rfl, ?_⟩) ?_ ?_
    rotate_left
    ·
     intro w'
     go_simp
     with_reducible rfl
    rotate_left
    ·
     simp only [Act.put, List.setIfInBounds_toArray, List.set_cons_zero, List.set_cons_succ]
     rfl
    refine pure_ (i := 4) (N := some 107) (v := ?_) (a' := ?_) #[true, true, true, true, true, false, false, false, false, false, false, false, false, false, false, false, false, false, false, false] rfl rfl (by kernel_rfl) (fun _ _ _ h => h) (Or.inl ⟨by rfl, ?_⟩) ?_ ?_
    rotate_left
    ·
     intro w'
     go_simp
     with_reducible rfl
    rotate_left
    ·
     simp only [Act.put, List.setIfInBounds_toArray, List.set_cons_zero, List.set_cons_succ]
     rfl
    refine take_ (i := 5) (N := some 108) (v := ?_) (a' := ?_) #[true, true, true, true, true, true, false, false, false, false, false, false, false, false, false, false, false, false, false, false] rfl rfl (by kernel_rfl) (fun _ _ _ h => h) (Or.inl ⟨by rfl, ?_⟩) hHeld ?_ ?_
    rotate_left
    ·
     rintro w' ⟨s0, s1, s2, s3, s4⟩
     go_simp
     with_reducible rfl
    rotate_left
    ·
     simp only [Act.put, List.setIfInBounds_toArray, List.set_cons_zero, List.set_cons_succ]
     rfl
    refine pure_ (i := 6) (N := some 109) (v := ?_) (a' := ?_) #[true, true, true, true, true, true, true, false, false, false, false, false, false, false, false, false, false, false, false, false] rfl rfl (by kernel_rfl) (fun _ _ _ h => h) (Or.inl ⟨by rfl, ?_⟩) ?_ ?_
    rotate_left
    ·
     intro w'
     go_simp
     with_reducible rfl
    rotate_left
    ·
     simp only [Act.put, List.setIfInBounds_toArray, List.set_cons_zero, List.set_cons_succ]
     rfl
    refine pure_ (i := 7) (N := some 110) (v := ?_) (a' := ?_) #[true, true, true, true, true, true, true, true, false, false, false, false, false, false, false, false, false, false, false, false] rfl rfl (by kernel_rfl) (fun _ _ _ h => h) (Or.inl ⟨by rfl, ?_⟩) ?_ ?_
    rotate_left
    ·
     intro w'
     go_simp
     with_reducible rfl
    rotate_left
    ·
     simp only [Act.put, List.setIfInBounds_toArray, List.set_cons_zero, List.set_cons_succ]
     rfl
    refine take_ (i := 8) (N := some 111) (v := ?_) (a' := ?_) #[true, true, true, true, true, true, true, true, true, false, false, false, false, false, false, false, false, false, false, false] rfl rfl (by kernel_rfl) (fun _ _ _ h => h) (Or.inl ⟨by rfl, ?_⟩) hHeld ?_ ?_
    rotate_left
    ·
     rintro w' ⟨s0, s1, s2, s3, s4⟩
     go_simp
     with_reducible rfl
    rotate_left
    ·
     simp only [Act.put, List.setIfInBounds_toArray, List.set_cons_zero, List.set_cons_succ]
     rfl
    refine pure_ (i := 10) (N := some 113) (v := ?_) (a' := ?_) #[true, true, true, true, true, true, true, true, true, false, true, false, false, false, false, false, false, false, false, false] rfl rfl (by kernel_rfl) (fun _ _ _ h => h) (Or.inl ⟨by rfl, ?_⟩) ?_ ?_
    rotate_left
    ·
     intro w'
     go_simp
     with_reducible rfl
    rotate_left
    ·
     simp only [Act.put, List.setIfInBounds_toArray, List.set_cons_zero, List.set_cons_succ]
     rfl
    refine pure_ (i := 11) (N := some 114) (v := ?_) (a' := ?_) #[true, true, true, true, true, true, true, true, true, false, true, true, false, false, false, false, false, false, false, false] rfl rfl (by kernel_rfl) (fun _ _ _ h => h) (Or.inl ⟨by rfl, ?_⟩) ?_ ?_
    rotate_left
    ·
     intro w'
     go_simp
     with_reducible rfl
    rotate_left
    ·
     simp only [Act.put, List.setIfInBounds_toArray, List.set_cons_zero, List.set_cons_succ]
     rfl
    refine take_ (i := 12) (N := some 115) (v := ?_) (a' := ?_) #[true, true, true, true, true, true, true, true, true, false, true, true, true, false, false, false, false, false, false, false] rfl rfl (by kernel_rfl) (fun _ _ _ h => h) (Or.inl ⟨by rfl, ?_⟩) hHeld ?_ ?_
    rotate_left
    ·
     rintro w' ⟨s0, s1, s2, s3, s4⟩
     go_simp
     with_reducible rfl
    rotate_left
    ·
     simp only [Act.put, List.setIfInBounds_toArray, List.set_cons_zero, List.set_cons_succ]
     rfl
    refine pure_ (i := 14) (N := some 117) (v := ?_) (a' := ?_) #[true, true, true, true, true, true, true, true, true, false, true, true, true, false, true, false, false, false, false, false] rfl rfl (by kernel_rfl) (fun _ _ _ h => h) (Or.inl ⟨by rfl, ?_⟩) ?_ ?_
    rotate_left
    ·
     intro w'
     go_simp
     with_reducible rfl
    rotate_left
    ·
     simp only [Act.put, List.setIfInBounds_toArray, List.set_cons_zero, List.set_cons_succ]
     rfl
    refine pure_ (i := 15) (N := some 118) (v := ?_) (a' := ?_) #[true, true, true, true, true, true, true, true, true, false, true, true, true, false, true, true, false, false, false, false] rfl rfl (by kernel_rfl) (fun _ _ _ h => h) (Or.inl ⟨by rfl, ?_⟩) ?_ ?_
    rotate_left
    ·
     intro w'
     go_simp
     with_reducible rfl
    rotate_left
    ·
     simp only [Act.put, List.setIfInBounds_toArray, List.set_cons_zero, List.set_cons_succ]
     rfl
    refine take_ (i := 16) (N := some 119) (v := ?_) (a' := ?_) #[true, true, true, true, true, true, true, true, true, false, true, true, true, false, true, true, true, false, false, false] rfl rfl (by kernel_rfl) (fun _ _ _ h => h) (Or.inl ⟨by rfl, ?_⟩) hHeld ?_ ?_
    rotate_left
    ·
     rintro w' ⟨s0, s1, s2, s3, s4⟩
     go_simp
     with_reducible rfl
    rotate_left
    ·
     simp only [Act.put, List.setIfInBounds_toArray, List.set_cons_zero, List.set_cons_succ]
     rfl
    refine one_ (i := 9) (N := some 112) #[true, true, true, true, true, true, true, true, true, true, true, true, true, false, true, true, true, false, false, false] rfl rfl (by kernel_rfl) (by decide) (fun K hK => ?_)
    refine call_ 104 #[.slice A3 l3.length c3, .pointer (some ⟨g5, 0, none⟩)] (by rfl) rfl ?hrun ?_
    case hrun => first | (go_simp; done) | (go_simp; rfl)
    refine (lits104 tl At ct g5 l3 A3 c3 _ (MH.out _ HBa.out).h3 HI35.out.1 (by have := HNL.out; omega) (Kd.R_reads' R5a.out).2.2 (Kd.R_reads' R5a.out).2.1 K5a.out).mono ?_
    rintro e wb ⟨v_, rfl, hR_, hb_⟩
    rw [HLO.out] at hR_
    obtain ⟨Ao, co, hv_⟩ := Kd.R_slice hR_
    subst hv_
    refine ⟨_, rfl, ?_⟩
    have HWb := Aside0.mk (HWa.out.step hb_)
    have K5b := Aside0.mk (blk_below K5a.out hb_)
    have R5b := Aside0.mk (Kd.R_below R5a.out hb_)
    have KMb := Aside0.mk (blk_below KMa.out hb_)
    have RMb := Aside0.mk (Kd.R_below RMa.out hb_)
    have HBb := Aside0.mk (below_step HBa.out hb_)
    have HZb := Aside0.mk hb_.size
    have HNo := Aside0.mk (fun k hk => And.intro (Kd.R_base hR_ k hk) (Kd.R_lt hR_ k hk))
    have Rob := Aside0.mk (Kd.R_lower hR_ HWa.out.mkr.below.size)
    clear hR_ hb_ hHeld
    refine hK.out _ _ ⟨(blk_cell HWb.out.k2 0).trans rfl, (blk_cell HWb.out.k2 3).trans rfl, (blk_cell HWb.out.k2 4).trans rfl, (blk_cell HWb.out.k2 5).trans rfl, (blk_cell KMb.out 1).trans rfl⟩ (fun hHeld => ?_)
    clear hK K
    refine norm_ (a' := ?_) ?_ ?_
    rotate_left
    ·
     show Act.put _ (some 112) _ = _
     simp only [Act.put, List.setIfInBounds_toArray, List.set_cons_zero, List.set_cons_succ]
     rfl
    refine one_ (i := 13) (N := some 116) #[true, true, true, true, true, true, true, true, true, true, true, true, true, true, true, true, true, false, false, false] rfl rfl (by kernel_rfl) (by decide) (fun K hK => ?_)
    refine call_ 104 #[.slice A4 l4.length c4, .pointer (some ⟨g5, 0, none⟩)] (by rfl) rfl ?hrun ?_
    case hrun => first | (go_simp; done) | (go_simp; rfl)
    refine (lits104 tl At ct g5 l4 A4 c4 _ (MH.out _ HBb.out).h4 HI35.out.2.1 (by have := HNL.out; omega) (Kd.R_reads' R5b.out).2.2 (Kd.R_reads' R5b.out).2.1 K5b.out).mono ?_
    rintro e wc ⟨v_, rfl, hR_, hb_⟩
    rw [HLB.out] at hR_
    obtain ⟨Ab, cb, hv_⟩ := Kd.R_slice hR_
    subst hv_
    refine ⟨_, rfl, ?_⟩
    have HWc := Aside0.mk (HWb.out.step hb_)
    have K5c := Aside0.mk (blk_below K5b.out hb_)
    have R5c := Aside0.mk (Kd.R_below R5b.out hb_)
    have KMc := Aside0.mk (blk_below KMb.out hb_)
    have RMc := Aside0.mk (Kd.R_below RMb.out hb_)
    have HBc := Aside0.mk (below_step HBb.out hb_)
    have HZc := Aside0.mk hb_.size
    have Roc := Aside0.mk (Kd.R_below Rob.out hb_)
    have HNb := Aside0.mk (fun k hk => And.intro (Kd.R_base hR_ k hk) (Kd.R_lt hR_ k hk))
    have Rbc := Aside0.mk (Kd.R_lower hR_ HWb.out.mkr.below.size)
    clear hR_ hb_ hHeld
    refine hK.out _ _ ⟨(blk_cell HWc.out.k2 0).trans rfl, (blk_cell HWc.out.k2 3).trans rfl, (blk_cell HWc.out.k2 4).trans rfl, (blk_cell HWc.out.k2 5).trans rfl, (blk_cell KMc.out 1).trans rfl⟩ (fun hHeld => ?_)
    clear hK K
    refine norm_ (a' := ?_) ?_ ?_
    rotate_left
    ·
     show Act.put _ (some 116) _ = _
     simp only [Act.put, List.setIfInBounds_toArray, List.set_cons_zero, List.set_cons_succ]
     rfl
    refine one_ (i := 17) (N := some 120) #[true, true, true, true, true, true, true, true, true, true, true, true, true, true, true, true, true, true, false, false] rfl rfl (by kernel_rfl) (by decide) (fun K hK => ?_)
    refine call_ 104 #[.slice A5 l5.length c5, .pointer (some ⟨g5, 0, none⟩)] (by rfl) rfl ?hrun ?_
    case hrun => first | (go_simp; done) | (go_simp; rfl)
    refine (lits104 tl At ct g5 l5 A5 c5 _ (MH.out _ HBc.out).h5 HI35.out.2.2 (by have := HNL.out; omega) (Kd.R_reads' R5c.out).2.2 (Kd.R_reads' R5c.out).2.1 K5c.out).mono ?_
    rintro e wd ⟨v_, rfl, hR_, hb_⟩
    rw [HLK.out] at hR_
    obtain ⟨Ak, ck, hv_⟩ := Kd.R_slice hR_
    subst hv_
    refine ⟨_, rfl, ?_⟩
    have HWd := Aside0.mk (HWc.out.step hb_)
    have K5d := Aside0.mk (blk_below K5c.out hb_)
    have R5d := Aside0.mk (Kd.R_below R5c.out hb_)
    have KMd := Aside0.mk (blk_below KMc.out hb_)
    have RMd := Aside0.mk (Kd.R_below RMc.out hb_)
    have HBd := Aside0.mk (below_step HBc.out hb_)
    have HZd := Aside0.mk hb_.size
    have Rod := Aside0.mk (Kd.R_below Roc.out hb_)
    have Rbd := Aside0.mk (Kd.R_below Rbc.out hb_)
    have HNk := Aside0.mk (fun k hk => And.intro (Kd.R_base hR_ k hk) (Kd.R_lt hR_ k hk))
    have Rkd := Aside0.mk (Kd.R_lower hR_ HWc.out.mkr.below.size)
    clear hR_ hb_ hHeld
    refine hK.out _ _ ⟨(blk_cell HWd.out.k2 0).trans rfl, (blk_cell HWd.out.k2 3).trans rfl, (blk_cell HWd.out.k2 4).trans rfl, (blk_cell HWd.out.k2 5).trans rfl, (blk_cell KMd.out 1).trans rfl⟩ (fun hHeld => ?_)
    clear hK K
    refine norm_ (a' := ?_) ?_ ?_
    rotate_left
    ·
     show Act.put _ (some 120) _ = _
     simp only [Act.put, List.setIfInBounds_toArray, List.set_cons_zero, List.set_cons_succ]
     rfl
    refine pure_ (i := 18) (N := some 121) (v := ?_) (a' := ?_) #[true, true, true, true, true, true, true, true, true, true, true, true, true, true, true, true, true, true, true, false] rfl rfl (by kernel_rfl) (fun _ _ _ h => h) (Or.inl ⟨by rfl, ?_⟩) ?_ ?_
    rotate_left
    ·
     intro w'
     go_simp
     with_reducible rfl
    rotate_left
    ·
     simp only [Act.put, List.setIfInBounds_toArray, List.set_cons_zero, List.set_cons_succ]
     rfl
    clear hHeld
    refine last_ (i := 19) (N := none) #[true, true, true, true, true, true, true, true, true, true, true, true, true, true, true, true, true, true, true, true] rfl rfl (by kernel_rfl) (by decide) (fun K hK => ?_)
    refine skip_step (w1 := ((((((wd).setCell ⟨g4, 0, none⟩ (.int .i64 a0)).setCell ⟨g4, 1, none⟩ (.slice none 0 0)).setCell ⟨g4, 2, none⟩ (.slice Ag gs.length cg)).setCell ⟨g4, 3, none⟩ (.slice Ao lo.length co)).setCell ⟨g4, 4, none⟩ (.slice Ab lb.length cb)).setCell ⟨g4, 5, none⟩ (.slice Ak lk.length ck)) (by rfl) rfl (run_store26 rfl rfl rfl HWd.out.k4) ?_
    refine hK.out _ _ ?_
    clear hK K
    refine done_ (by kernel_rfl) ?_
    obtain ⟨we, hwe⟩ : ∃ we, ((((((wd).setCell ⟨g4, 0, none⟩ (.int .i64 a0)).setCell ⟨g4, 1, none⟩ (.slice none 0 0)).setCell ⟨g4, 2, none⟩ (.slice Ag gs.length cg)).setCell ⟨g4, 3, none⟩ (.slice Ao lo.length co)).setCell ⟨g4, 4, none⟩ (.slice Ab lb.length cb)).setCell ⟨g4, 5, none⟩ (.slice Ak lk.length ck) = we := ⟨_, rfl⟩
    rw [hwe]
    have HFS := Aside0.mk (show FinSt w g4 g5 a0 (.slice none 0 0) (.slice Ag gs.length cg) (.slice Ao lo.length co) (.slice Ab lb.length cb) (.slice Ak lk.length ck) (.slice At tl.length ct) [] gs lo lb lk tl we from by
     rw [← hwe]
     refine ⟨below_set6 HWd.out.mkr.below (Nat.le_of_lt HWd.out.h4) _ _ _ _ _ _, Nat.le_of_lt HWd.out.h4, HWd.out.h5, blk_set6 HWd.out.k4 _ _ _ _ _ _, blk_far6 K5d.out (blk_ne K5d.out HWd.out.k4 (by decide)) _ _ _ _ _ _, Kd.R_nil _ _ _ _ _, ?_, ?_, ?_, ?_, ?_⟩
     · exact R_far6 RMd.out HWd.out.k4 (by decide) _ _ _ _ _ _
     · exact R_far6 Rod.out HWd.out.k4 (by decide) _ _ _ _ _ _
     · exact R_far6 Rbd.out HWd.out.k4 (by decide) _ _ _ _ _ _
     · exact R_far6 Rkd.out HWd.out.k4 (by decide) _ _ _ _ _ _
     · exact R_far6 R5d.out HWd.out.k4 (by decide) _ _ _ _ _ _)
    have K2e := Aside0.mk (show we.cell? ⟨w.heap.size, 1, none⟩ = some (.slice A1 l1.length c1) from by rw [← hwe]; exact (blk_cell (blk_far6 HWd.out.k2 (fun e => by have := HWd.out.h4; omega) _ _ _ _ _ _) 1).trans rfl)
    clear hwe HWd K5d R5d KMd RMd Rod Rbd Rkd HWa K5a R5a KMa RMa HWb K5b R5b KMb RMb HWc K5c R5c KMc RMc Rob Roc Rbc
    have z1 := K2e.out
    go_wp2
    clear z1 K2e
    go_loopg [125] l1.length (fun gg v125 wr => ∃ (k : Nat) (vl : Value) (ys : List S41), l1.length - k ≤ gg ∧ v125 = .int .i64 k ∧ Aside0 (k ≤ l1.length) ∧ Aside0 (ys = (l1.take k).map (fun g => ⟨litP tl g.f0, g.f1⟩)) ∧ Aside0 (FinSt w g4 g5 a0 vl (.slice Ag gs.length cg) (.slice Ao lo.length co) (.slice Ab lb.length cb) (.slice Ak lk.length ck) (.slice At tl.length ct) ys gs lo lb lk tl wr))
    case atStart => exact ⟨0, _, [], by omega, rfl, ⟨Nat.zero_le _⟩, ⟨rfl⟩, HFS⟩
    case round =>
     as_aux_lemma =>
      clear HFS
      obtain ⟨k, vl, ys, hg, rfl, HKP, HYS, HFS⟩ := hrel
      have hkp := HKP.out
      have n1 := HLEN.out
      have n2 := HN1.out
      by_cases hlt : k < l1.length
      ·
       have hltz : (k : Int) < (l1.length : Int) := by omega
       obtain ⟨ad1, e, q0, q1⟩ := at_T41 (HC1.out _ HFS.out.below) (k : Int) (by omega) hltz
       cases e
       have ek : (k : Int).toNat = k := by omega
       rw [ek] at q0 q1
       clear ek
       have HYO := Aside0.mk (HI1.out _ (List.getElem_mem hlt)).1
       have hy41 : rd_T41 l1 (k : Int) = l1[k] := rd41_at hlt
       rw [hy41] at q0 q1
       have E := Aside0.mk (show ys ++ [(⟨litP tl l1[k].f0, l1[k].f1⟩ : S41)] = (l1.take (k + 1)).map (fun g => ⟨litP tl g.f0, g.f1⟩) from by rw [HYS.out, take_next hlt, List.map_append]; rfl)
       have HYL := Aside0.mk (show ys.length ≤ 16385 from by rw [HYS.out, List.length_map, List.length_take]; have := HN1.out; omega)
       clear hy41 HYS
       generalize l1[k] = y at q0 q1 HYO E
       obtain ⟨Al, cl, rfl⟩ := Kd.R_slice HFS.out.rl
       go_wp2_with (first | ((with_reducible refine gate_dst (N := 13) rfl ?_); refine box_event ?hg (N := 13) ?hd (cs := #[.int .u32 0, .int .u8 0]) (t := 41) ?hr ?_; (case hd => rfl); (case hg => rfl); (case hr => first | (go_simp; done) | (go_simp; rfl)); intro g13 hg_ wa_ bk_ hb_; have GE_ := Aside0.mk (Nat.le_of_eq hg_.symm); clear hg_; have HB_ := Aside0.mk hb_; have BK_ := Aside0.mk bk_; have qa_ : wa_.cell? ⟨g13, 0, none⟩ = some (.int .u32 0) := (blk_cell bk_ 0).trans rfl; have qb_ : wa_.cell? ⟨g13, 1, none⟩ = some (.int .u8 0) := (blk_cell bk_ 1).trans rfl; have fa_ := blk_frozen bk_ 0; have fb_ := blk_frozen bk_ 1; clear hb_ bk_) | ((with_reducible refine gate_store (t := 41) (p := .tmp 13) (x := .tmp 128) rfl ?_); refine skip_event (W' := (wa_.setCell ⟨g13, 0, none⟩ (.int .u32 y.f0)).setCell ⟨g13, 1, none⟩ (.int .u8 y.f1)) ?hn ?hs ?hr ?_; (case hn => rfl); (case hs => rfl); (case hr => first | (go_simp; done) | (go_simp; rfl)); intro w8 hw_; have BK8 := Aside0.mk (show w8.heap[g13]? = some (.cells #[.int .u32 y.f0, .int .u8 y.f1] 41 (0, 0)) from by rw [hw_]; exact blk_set2 BK_.out _ _); have HB8 := Aside0.mk (show Below wr.heap.size wr w8 from by rw [hw_]; exact below_set2 HB_.out GE_.out _ _); have GE13 := GE_; clear hw_ qa_ qb_ fa_ fb_ BK_ HB_ GE_; have qg13_0 : w8.cell? ⟨g13, 0, none⟩ = some (.int .u32 y.f0) := (blk_cell BK8.out 0).trans rfl; have qg13_1 : w8.cell? ⟨g13, 1, none⟩ = some (.int .u8 y.f1) := (blk_cell BK8.out 1).trans rfl; skip))
       have HF8 := Aside0.mk (HFS.out.step HB8.out)
       have HNE := Aside0.mk (show some g13 ≠ (Value.slice Al ys.length cl).ownBlock from fun e => by have h1 := Kd.R_lt HFS.out.rl g13 e.symm; have h2 := GE13.out; omega)
       refine start_ (n := 13) (S := fun w' => w'.cell? ⟨g4, 1, none⟩ = some (.slice Al ys.length cl) ∧ w'.cell? ⟨g5, 0, none⟩ = some (.slice At tl.length ct) ∧ w'.cell? ⟨g13, 0, none⟩ = some (.int .u32 y.f0) ∧ w'.cell? ⟨g13, 1, none⟩ = some (.int .u8 y.f1)) (ds := [12]) #[false, false, false, false, false, false, false, false, false, false, false, false, false] (by kernel_rfl) rfl rfl ⟨(blk_cell HF8.out.k4 1).trans rfl, (blk_cell HF8.out.k5 0).trans rfl, (blk_cell BK8.out 0).trans rfl, (blk_cell BK8.out 1).trans rfl⟩ (fun hHeld => ?_)
       have HFa := Aside0.mk (HF8.out.step (W' := w8.drew) (below_drew1 (Below.refl w8.heap.size w8)))
       have BKa := Aside0.mk (blk_drew BK8.out)
       clear HFS HF8 BK8 HB8 GE13 q0 q1 qg13_0 qg13_1
       generalize w8.drew = xa at HFa BKa hHeld ⊢
       refine pure_ (i := 0) (N := some 129) (v := ?_) (a' := ?_) #[true, false, false, false, false, false, false, false, false, false, false, false, false] rfl rfl (by kernel_rfl) (fun _ _ _ h => h) (Or.inl ⟨by rfl, ?_⟩) ?_ ?_
       rotate_left
       ·
        intro w'
        go_simp
        with_reducible rfl
       rotate_left
       ·
        simp only [Act.put, List.setIfInBounds_toArray, List.set_cons_zero, List.set_cons_succ]
        rfl
       refine take_ (i := 1) (N := some 130) (v := ?_) (a' := ?_) #[true, true, false, false, false, false, false, false, false, false, false, false, false] rfl rfl (by kernel_rfl) (fun _ _ _ h => h) (Or.inl ⟨by rfl, ?_⟩) hHeld ?_ ?_
       rotate_left
       ·
        rintro w' ⟨s0, s1, s2, s3⟩
        go_simp
        with_reducible rfl
       rotate_left
       ·
        simp only [Act.put, List.setIfInBounds_toArray, List.set_cons_zero, List.set_cons_succ]
        rfl
       refine take_ (i := 2) (N := some 131) (v := ?_) (a' := ?_) #[true, true, true, false, false, false, false, false, false, false, false, false, false] rfl rfl (by kernel_rfl) (fun _ _ _ h => h) (Or.inl ⟨by rfl, ?_⟩) hHeld ?_ ?_
       rotate_left
       ·
        rintro w' ⟨s0, s1, s2, s3⟩
        go_simp
        with_reducible rfl
       rotate_left
       ·
        simp only [Act.put, List.setIfInBounds_toArray, List.set_cons_zero, List.set_cons_succ]
        rfl
       refine pure_ (i := 3) (N := some 132) (v := ?_) (a' := ?_) #[true, true, true, true, false, false, false, false, false, false, false, false, false] rfl rfl (by kernel_rfl) (fun _ _ _ h => h) (Or.inl ⟨by rfl, ?_⟩) ?_ ?_
       rotate_left
       ·
        intro w'
        go_simp
        with_reducible rfl
       rotate_left
       ·
        simp only [Act.put, List.setIfInBounds_toArray, List.set_cons_zero, List.set_cons_succ]
        rfl
       refine take_ (i := 4) (N := some 133) (v := ?_) (a' := ?_) #[true, true, true, true, true, false, false, false, false, false, false, false, false] rfl rfl (by kernel_rfl) (fun _ _ _ h => h) (Or.inl ⟨by rfl, ?_⟩) hHeld ?_ ?_
       rotate_left
       ·
        rintro w' ⟨s0, s1, s2, s3⟩
        go_simp
        with_reducible rfl
       rotate_left
       ·
        simp only [Act.put, List.setIfInBounds_toArray, List.set_cons_zero, List.set_cons_succ]
        rfl
       refine pure_ (i := 6) (N := some 135) (v := ?_) (a' := ?_) #[true, true, true, true, true, false, true, false, false, false, false, false, false] rfl rfl (by kernel_rfl) (fun _ _ _ h => h) (Or.inl ⟨by rfl, ?_⟩) ?_ ?_
       rotate_left
       ·
        intro w'
        go_simp
        with_reducible rfl
       rotate_left
       ·
        simp only [Act.put, List.setIfInBounds_toArray, List.set_cons_zero, List.set_cons_succ]
        rfl
       refine take_ (i := 7) (N := some 136) (v := ?_) (a' := ?_) #[true, true, true, true, true, false, true, true, false, false, false, false, false] rfl rfl (by kernel_rfl) (fun _ _ _ h => h) (Or.inl ⟨by rfl, ?_⟩) hHeld ?_ ?_
       rotate_left
       ·
        rintro w' ⟨s0, s1, s2, s3⟩
        go_simp
        with_reducible rfl
       rotate_left
       ·
        simp only [Act.put, List.setIfInBounds_toArray, List.set_cons_zero, List.set_cons_succ]
        rfl
       refine one_ (i := 5) (N := some 134) #[true, true, true, true, true, true, true, true, false, false, false, false, false] rfl rfl (by kernel_rfl) (by decide) (fun K hK => ?_)
       refine goes_ Try.func45 (by kernel_rfl) rfl #[.slice At tl.length ct, .int .u32 y.f0] (by rfl) rfl rfl (by (try simp only [List.map_toArray, List.map_cons, List.map_nil]); first | done | rfl) ?_
       refine (strash_Lit.calls At ct tl y.f0 (litP tl y.f0) _ (Kd.R_reads' HFa.out.rt).2.2 (Kd.R_reads' HFa.out.rt).2.1 (lit_is HYO.out.1 HYO.out.2)).mono ?_
       rintro e xb ⟨rfl, hd_⟩
       have hd := hd_.below
       refine ⟨_, rfl, ?_⟩
       have HFb := Aside0.mk (HFa.out.step hd)
       have BKb := Aside0.mk (blk_below BKa.out hd)
       clear HFa BKa hd hd_ hHeld
       refine hK.out _ _ ⟨(blk_cell HFb.out.k4 1).trans rfl, (blk_cell HFb.out.k5 0).trans rfl, (blk_cell BKb.out 0).trans rfl, (blk_cell BKb.out 1).trans rfl⟩ (fun hHeld => ?_)
       clear hK K
       refine norm_ (a' := ?_) ?_ ?_
       rotate_left
       ·
        show Act.put _ (some 134) _ = _
        simp only [Act.put, List.setIfInBounds_toArray, List.set_cons_zero, List.set_cons_succ]
        rfl
       refine pure_ (i := 8) (N := some 137) (v := ?_) (a' := ?_) #[true, true, true, true, true, true, true, true, true, false, false, false, false] rfl rfl (by kernel_rfl) (fun _ _ _ h => h) (Or.inl ⟨by rfl, ?_⟩) ?_ ?_
       rotate_left
       ·
        intro w'
        go_simp
        with_reducible rfl
       rotate_left
       ·
        simp only [Act.put, List.setIfInBounds_toArray, List.set_cons_zero, List.set_cons_succ]
        rfl
       refine one_ (i := 9) (N := some 138) #[true, true, true, true, true, true, true, true, true, true, false, false, false] rfl rfl (by kernel_rfl) (by decide) (fun K hK => ?_)
       refine value_ (w1 := ?_) (v := ?_) (by rfl) rfl ?_ ?_
       rotate_left 2
       ·
        go_simp
        constructor
        · rfl
        · rfl
       refine hK.out _ _ ⟨(blk_cell (blk_alloc HFb.out.k4 _) 1).trans rfl, (blk_cell (blk_alloc HFb.out.k5 _) 0).trans rfl, (blk_cell (blk_alloc BKb.out _) 0).trans rfl, (blk_cell (blk_alloc BKb.out _) 1).trans rfl⟩ (fun hHeld => ?_)
       clear hK K
       refine norm_ (a' := ?_) ?_ ?_
       rotate_left
       ·
        show Act.put _ (some 138) _ = _
        simp only [Act.put, List.setIfInBounds_toArray, List.set_cons_zero, List.set_cons_succ]
        rfl
       refine one_ (i := 10) (N := some 139) #[true, true, true, true, true, true, true, true, true, true, true, false, false] rfl rfl (by kernel_rfl) (by decide) (fun K hK => ?_)
       refine Kd.R_append_step k41 (w0 := w) w.heap.size (by rfl) (.tmp 130) (.tmp 138) 22 41 (.agg #[(.int .u32 0), (.int .u8 0)]) 8 rfl Try.underlying22 info41 rfl (by decide) (by omega) (.slice Al ys.length cl) ys (⟨litP tl y.f0, y.f1⟩ : S41) [.int .u32 (litP tl y.f0), .int .u8 y.f1] (fun _ => True) (fun _ => False) rfl rfl (k41_mkM _ _ _ (⟨litP tl y.f0, y.f1⟩ : S41)) (fun _ hk => hk.elim) (fun _ _ => trivial) HFb.out.rl HFb.out.below HFb.out.below.size (by have := HYL.out; omega) ?_
       intro v1 xc hR hB hgr _
       obtain ⟨Av, cv, hv_⟩ := Kd.R_slice hR
       subst hv_
       have HAP := Aside0.mk (HFb.out.appended hR hB hgr)
       have BKc := Aside0.mk (blk_grown BKb.out hgr HNE.out)
       clear hR hB hgr hHeld
       refine hK.out _ _ ⟨(blk_cell HAP.out.2.1 1).trans rfl, (blk_cell HAP.out.2.2 0).trans rfl, (blk_cell BKc.out 0).trans rfl, (blk_cell BKc.out 1).trans rfl⟩ (fun hHeld => ?_)
       clear hK K
       refine norm_ (a' := ?_) ?_ ?_
       rotate_left
       ·
        show Act.put _ (some 139) _ = _
        simp only [Act.put, List.setIfInBounds_toArray, List.set_cons_zero, List.set_cons_succ]
        rfl
       refine pure_ (i := 11) (N := some 140) (v := ?_) (a' := ?_) #[true, true, true, true, true, true, true, true, true, true, true, true, false] rfl rfl (by kernel_rfl) (fun _ _ _ h => h) (Or.inl ⟨by rfl, ?_⟩) ?_ ?_
       rotate_left
       ·
        intro w'
        go_simp
        with_reducible rfl
       rotate_left
       ·
        simp only [Act.put, List.setIfInBounds_toArray, List.set_cons_zero, List.set_cons_succ]
        rfl
       have i1 : xc.cell? ⟨g4, 1, none⟩ = some (.slice Al ys.length cl) := (blk_cell HAP.out.2.1 1).trans rfl
       have f1 := blk_frozen HAP.out.2.1 1
       clear hHeld
       refine last_ (i := 12) (N := none) #[true, true, true, true, true, true, true, true, true, true, true, true, true] rfl rfl (by kernel_rfl) (by decide) (fun K hK => ?_)
       refine skip_step (w1 := ?_) (by rfl) rfl ?_ ?_
       rotate_left
       ·
        go_simp
        rfl
       refine hK.out _ _ ?_
       clear hK K i1 f1
       refine done_ (by kernel_rfl) ?_
       have hap := HAP.out.1
       rw [show (ys ++ [(⟨litP tl y.f0, y.f1⟩ : S41)]).length = ys.length + 1 from by simp] at hap
       have HFe := Aside0.mk hap
       clear hap HAP
       generalize xc.setCell ⟨g4, 1, none⟩ (.slice Av (ys.length + 1) cv) = xd at HFe ⊢
       go_wp2
       go_roundg (l1.length - (k + 1))
       case measure => omega
       case rel => exact ⟨k + 1, _, _, by omega, by go_num, ⟨by omega⟩, E, HFe⟩
      ·
       obtain rfl : k = l1.length := by omega
       have hltz : ¬ ((l1.length : Nat) : Int) < (l1.length : Int) := by omega
       have HYF := Aside0.mk (show ys = l1.map (fun g => ⟨litP tl g.f0, g.f1⟩) from by rw [HYS.out, List.take_of_length_le (Nat.le_refl _)])
       obtain ⟨Al, cl, rfl⟩ := Kd.R_slice HFS.out.rl
       go_wp2_with fail
       refine start_ (n := 5) (S := fun w' => w'.cell? ⟨g4, 0, none⟩ = some (.int .i64 a0) ∧ w'.cell? ⟨g4, 1, none⟩ = some (.slice Al ys.length cl) ∧ w'.cell? ⟨g4, 2, none⟩ = some (.slice Ag gs.length cg) ∧ w'.cell? ⟨g4, 3, none⟩ = some (.slice Ao lo.length co) ∧ w'.cell? ⟨g4, 4, none⟩ = some (.slice Ab lb.length cb) ∧ w'.cell? ⟨g4, 5, none⟩ = some (.slice Ak lk.length ck) ∧ w'.cell? ⟨g5, 0, none⟩ = some (.slice At tl.length ct)) (ds := []) #[false, false, false, false, false] (by kernel_rfl) rfl rfl ⟨(blk_cell HFS.out.k4 0).trans rfl, (blk_cell HFS.out.k4 1).trans rfl, (blk_cell HFS.out.k4 2).trans rfl, (blk_cell HFS.out.k4 3).trans rfl, (blk_cell HFS.out.k4 4).trans rfl, (blk_cell HFS.out.k4 5).trans rfl, (blk_cell HFS.out.k5 0).trans rfl⟩ (fun hHeld => ?_)
       have HFa := Aside0.mk (HFS.out.step (W' := wr.drew) (below_drew1 (Below.refl wr.heap.size wr)))
       clear HFS
       generalize wr.drew = xa at HFa hHeld ⊢
       refine take_ (i := 0) (N := some 142) (v := ?_) (a' := ?_) #[true, false, false, false, false] rfl rfl (by kernel_rfl) (fun _ _ _ h => h) (Or.inl ⟨by rfl, ?_⟩) hHeld ?_ ?_
       rotate_left
       ·
        rintro w' ⟨s0, s1, s2, s3, s4, s5, s6⟩
        go_simp
        with_reducible rfl
       rotate_left
       ·
        simp only [Act.put, List.setIfInBounds_toArray, List.set_cons_zero, List.set_cons_succ]
        rfl
       refine take_ (i := 1) (N := some 143) (v := ?_) (a' := ?_) #[true, true, false, false, false] rfl rfl (by kernel_rfl) (fun _ _ _ h => h) (Or.inl ⟨by rfl, ?_⟩) hHeld ?_ ?_
       rotate_left
       ·
        rintro w' ⟨s0, s1, s2, s3, s4, s5, s6⟩
        go_simp
        with_reducible rfl
       rotate_left
       ·
        simp only [Act.put, List.setIfInBounds_toArray, List.set_cons_zero, List.set_cons_succ]
        rfl
       refine one_ (i := 2) (N := none) #[true, true, true, false, false] rfl rfl (by kernel_rfl) (by decide) (fun K hK => ?_)
       clear hHeld
       refine skip_step (w1 := ((((((xa).setCell ⟨g4, 0, none⟩ (.int .i64 a0)).setCell ⟨g4, 1, none⟩ (.slice Al ys.length cl)).setCell ⟨g4, 2, none⟩ (.slice Ag gs.length cg)).setCell ⟨g4, 3, none⟩ (.slice Ao lo.length co)).setCell ⟨g4, 4, none⟩ (.slice Ab lb.length cb)).setCell ⟨g4, 5, none⟩ (.slice Ak lk.length ck)) (by rfl) rfl (run_store26 rfl rfl rfl HFa.out.k4) ?_
       have HFb := Aside0.mk HFa.out.six4
       clear HFa
       generalize ((((((xa).setCell ⟨g4, 0, none⟩ (.int .i64 a0)).setCell ⟨g4, 1, none⟩ (.slice Al ys.length cl)).setCell ⟨g4, 2, none⟩ (.slice Ag gs.length cg)).setCell ⟨g4, 3, none⟩ (.slice Ao lo.length co)).setCell ⟨g4, 4, none⟩ (.slice Ab lb.length cb)).setCell ⟨g4, 5, none⟩ (.slice Ak lk.length ck) = xb at HFb ⊢
       refine hK.out _ _ ⟨(blk_cell HFb.out.k4 0).trans rfl, (blk_cell HFb.out.k4 1).trans rfl, (blk_cell HFb.out.k4 2).trans rfl, (blk_cell HFb.out.k4 3).trans rfl, (blk_cell HFb.out.k4 4).trans rfl, (blk_cell HFb.out.k4 5).trans rfl, (blk_cell HFb.out.k5 0).trans rfl⟩ (fun hHeld => ?_)
       clear hK K
       refine one_ (i := 3) (N := none) #[true, true, true, true, false] rfl rfl (by kernel_rfl) (by decide) (fun K hK => ?_)
       have u5 : xb.cell? ⟨g5, 0, none⟩ = some (.slice At tl.length ct) := (blk_cell HFb.out.k5 0).trans rfl
       have f5 := blk_frozen HFb.out.k5 0
       clear hHeld
       refine skip_step (w1 := xb.setCell ⟨g5, 0, none⟩ (.slice At tl.length ct)) (by rfl) rfl (run_store24 rfl rfl rfl u5 f5) ?_
       clear u5 f5
       have HFc := Aside0.mk HFb.out.set5
       clear HFb
       generalize xb.setCell ⟨g5, 0, none⟩ (.slice At tl.length ct) = xc at HFc ⊢
       refine hK.out _ _ ⟨(blk_cell HFc.out.k4 0).trans rfl, (blk_cell HFc.out.k4 1).trans rfl, (blk_cell HFc.out.k4 2).trans rfl, (blk_cell HFc.out.k4 3).trans rfl, (blk_cell HFc.out.k4 4).trans rfl, (blk_cell HFc.out.k4 5).trans rfl, (blk_cell HFc.out.k5 0).trans rfl⟩ (fun hHeld => ?_)
       clear hK K
       refine pure_ (i := 4) (N := some 6) (v := ?_) (a' := ?_) #[true, true, true, true, true] rfl rfl (by kernel_rfl) (fun _ _ _ h => h) (Or.inl ⟨by rfl, ?_⟩) ?_ ?_
       rotate_left
       ·
        intro w'
        go_simp
        with_reducible rfl
       rotate_left
       ·
        simp only [Act.put, List.setIfInBounds_toArray, List.set_cons_zero, List.set_cons_succ]
        rfl
       refine done_ (by kernel_rfl) ?_
       go_wp2
       refine bodyPost_ret (results43 _ xc g4 g5 #[.int .i64 a0, .slice Al ys.length cl, .slice Ag gs.length cg, .slice Ao lo.length co, .slice Ab lb.length cb, .slice Ak lk.length ck] (.slice At tl.length ct) rfl HFc.out.k4 rfl rfl HFc.out.k5) rfl ?_
       rw [HWW.out]
       dsimp only
       rw [HLO.out, HLB.out, HLK.out, ← HYF.out]
       exact ⟨_, _, _, _, _, _, rfl, HFc.out.rl, HFc.out.rg, Kd.R_mono (Kd.R_tight rfl HFc.out.ro) (fun q hq => ⟨(fun e => by have h1 := HNo.out q hq.symm; have h2 := HNb.out q e.symm; have z1 := HZb.out; have z2 := HZc.out; have z3 := HZd.out; omega), (fun e => by have h1 := HNo.out q hq.symm; have h2 := HNk.out q e.symm; have z1 := HZb.out; have z2 := HZc.out; have z3 := HZd.out; omega), (fun e => by have h1 := HNo.out q hq.symm; have h2 := HTL.out q e.symm; have z1 := HZb.out; have z2 := HZc.out; have z3 := HZd.out; omega)⟩), Kd.R_mono (Kd.R_tight rfl HFc.out.rb) (fun q hq => ⟨(fun e => by have h1 := HNb.out q hq.symm; have h2 := HNo.out q e.symm; have z1 := HZb.out; have z2 := HZc.out; have z3 := HZd.out; omega), (fun e => by have h1 := HNb.out q hq.symm; have h2 := HNk.out q e.symm; have z1 := HZb.out; have z2 := HZc.out; have z3 := HZd.out; omega), (fun e => by have h1 := HNb.out q hq.symm; have h2 := HTL.out q e.symm; have z1 := HZb.out; have z2 := HZc.out; have z3 := HZd.out; omega)⟩), Kd.R_mono (Kd.R_tight rfl HFc.out.rk) (fun q hq => ⟨(fun e => by have h1 := HNk.out q hq.symm; have h2 := HNo.out q e.symm; have z1 := HZb.out; have z2 := HZc.out; have z3 := HZd.out; omega), (fun e => by have h1 := HNk.out q hq.symm; have h2 := HNb.out q e.symm; have z1 := HZb.out; have z2 := HZc.out; have z3 := HZd.out; omega), (fun e => by have h1 := HNk.out q hq.symm; have h2 := HTL.out q e.symm; have z1 := HZb.out; have z2 := HZc.out; have z3 := HZd.out; omega)⟩), Kd.R_mono (Kd.R_tight rfl HFc.out.rt) (fun q hq => ⟨(fun e => by have h1 := HTL.out q hq.symm; have h2 := HNo.out q e.symm; have z1 := HZb.out; have z2 := HZc.out; have z3 := HZd.out; omega), (fun e => by have h1 := HTL.out q hq.symm; have h2 := HNb.out q e.symm; have z1 := HZb.out; have z2 := HZc.out; have z3 := HZd.out; omega), (fun e => by have h1 := HTL.out q hq.symm; have h2 := HNk.out q e.symm; have z1 := HZb.out; have z2 := HZc.out; have z3 := HZd.out; omega)⟩), HFc.out.below⟩
end Go.Proofs.Yteiiodlgdbiimaa.F
end
