/- norm.May comes to what its text says of a circuit's fields. -/
import Derived.Test.YteiiodlgdbiimaaXFunc
import Derived.Test.YteiiodlgdbiimaaFn143
namespace Go.Proofs.Yteiiodlgdbiimaa.F
open Go.RowKit Go.Shelf Go.Proofs.YteiiodlgdbiimaaW.PrintWords Go.Proofs.YteiiodlgdbiimaaW.PrintLast Go.Proofs.YteiiodlgdbiimaaW.PrintMore
set_option linter.unusedVariables false
set_option linter.unusedSimpArgs false

def varsW (a : Int) (n m : Nat) : Int := wrap64 ((wrap64 (a + (n : Int))) + (m : Int))
def beyW (V x : Int) : Bool := decide (V < wrap64 (x / 2))
def listOk (V : Int) (l : List Int) : Bool := !decide (1024 < (l.length : Int)) && !l.any (beyW V)
def latchOk (V : Int) (x : S41) : Bool := !decide (2 < x.f1) && !beyW V x.f0
def gatesOk : Int → List S68 → Bool
  | _, [] => true
  | o, g :: gs => !decide (IntKind.u32.wrap (o + 1) ≤ g.f0 / 2) && !decide (g.f0 < g.f1) && gatesOk (IntKind.u32.wrap (o + 1)) gs
def mayB (a : Int) (l1 : List S41) (l2 : List S68) (l3 l4 l5 : List Int) : Bool :=
  !decide (a < 0) && !decide (16384 < a) && !decide (16384 < varsW a l1.length l2.length) && listOk (varsW a l1.length l2.length) l3 && listOk (varsW a l1.length l2.length) l4 && listOk (varsW a l1.length l2.length) l5
    && l1.all (latchOk (varsW a l1.length l2.length)) && gatesOk (IntKind.u32.wrap (wrap64 (a + (l1.length : Int)))) l2

set_option maxHeartbeats 4000000 in
theorem may1 (a0 : Int) (A1 : Option Addr) (c1 : Nat) (l1 : List S41) (A2 : Option Addr) (c2 : Nat) (l2 : List S68) (A3 : Option Addr) (c3 : Nat) (l3 : List Int) (A4 : Option Addr) (c4 : Nat) (l4 : List Int) (A5 : Option Addr) (c5 : Nat) (l5 : List Int)
    (g : Nat) (x : Int) (w : World) (hr1 : Kd.C k41 w A1 l1.length l1) (hc1 : l1.length ≤ c1) (hr2 : Kd.C k68 w A2 l2.length l2) (hc2 : l2.length ≤ c2) (hr3 : Kd.C (Kd.int .u32) w A3 l3.length l3) (hc3 : l3.length ≤ c3) (hr4 : Kd.C (Kd.int .u32) w A4 l4.length l4) (hc4 : l4.length ≤ c4) (hr5 : Kd.C (Kd.int .u32) w A5 l5.length l5) (hc5 : l5.length ≤ c5)
    (hb : w.heap[g]? = some (.cells #[.int .i64 a0, .slice A1 l1.length c1, .slice A2 l2.length c2, .slice A3 l3.length c3, .slice A4 l4.length c4, .slice A5 l5.length c5] 26 (0, 0))) :
    Calls Try.prog 144 #[.int .u32 x, .pointer (some ⟨g, 0, none⟩)] w fun e w' => e = .returned (.bool (beyW (varsW a0 l1.length l2.length) x)) ∧ Below w.heap.size w w' := by
  have hu26 := Try.underlying26
  have hv := norm_vars.calls a0 A1 c1 l1 A2 c2 l2 A3 c3 l3 A4 c4 l4 A5 c5 l5 _ w hr1 hc1 hr2 hc2 hr3 hc3 hr4 hc4 hr5 hc5 rfl
  have HV := Aside0.mk hv
  clear hv hr1 hr2 hr3 hr4 hr5 hc1 hc2 hc3 hc4 hc5
  have z0 : w.cell? ⟨g, 0, none⟩ = some (.int .i64 a0) := (blk_cell hb 0).trans rfl
  have z1 : w.cell? ⟨g, 1, none⟩ = some (.slice A1 l1.length c1) := (blk_cell hb 1).trans rfl
  have z2 : w.cell? ⟨g, 2, none⟩ = some (.slice A2 l2.length c2) := (blk_cell hb 2).trans rfl
  have z3 : w.cell? ⟨g, 3, none⟩ = some (.slice A3 l3.length c3) := (blk_cell hb 3).trans rfl
  have z4 : w.cell? ⟨g, 4, none⟩ = some (.slice A4 l4.length c4) := (blk_cell hb 4).trans rfl
  have z5 : w.cell? ⟨g, 5, none⟩ = some (.slice A5 l5.length c5) := (blk_cell hb 5).trans rfl
  clear hb
  go_enter Try.func144, Try.ntmps144
  go_wp2_with (go_at_call 143; refine HV.out.mono ?_; rintro e w' ⟨rfl, hb'⟩)
  go_ret
  exact ⟨rfl, hb'⟩

def norm_May.f (a0_0 : Int) (l0_1 : List (S41)) (l0_2 : List (S68)) (l0_3 : List Int) (l0_4 : List Int) (l0_5 : List Int) : Option (Bool) := some (mayB a0_0 l0_1 l0_2 l0_3 l0_4 l0_5)

/-- The world behind norm.May's box, and all that lies behind it. -/
structure MayAt (a0 : Int) (A1 : Option Addr) (c1 : Nat) (l1 : List S41) (A2 : Option Addr) (c2 : Nat) (l2 : List S68) (A3 : Option Addr) (c3 : Nat) (l3 : List Int) (A4 : Option Addr) (c4 : Nat) (l4 : List Int) (A5 : Option Addr) (c5 : Nat) (l5 : List Int) (g : Nat) (w W : World) : Prop where
  below : Below w.heap.size w W
  blk : W.heap[g]? = some (.cells #[.int .i64 a0, .slice A1 l1.length c1, .slice A2 l2.length c2, .slice A3 l3.length c3, .slice A4 l4.length c4, .slice A5 l5.length c5] 26 (0, 0))
  h1 : Kd.C k41 W A1 l1.length l1
  h2 : Kd.C k68 W A2 l2.length l2
  h3 : Kd.C (Kd.int .u32) W A3 l3.length l3
  h4 : Kd.C (Kd.int .u32) W A4 l4.length l4
  h5 : Kd.C (Kd.int .u32) W A5 l5.length l5
theorem MayAt.step {a0 : Int} {A1 : Option Addr} {c1 : Nat} {l1 : List S41} {A2 : Option Addr} {c2 : Nat} {l2 : List S68} {A3 : Option Addr} {c3 : Nat} {l3 : List Int} {A4 : Option Addr} {c4 : Nat} {l4 : List Int} {A5 : Option Addr} {c5 : Nat} {l5 : List Int} {g : Nat} {w W W' : World}
    (h : MayAt a0 A1 c1 l1 A2 c2 l2 A3 c3 l3 A4 c4 l4 A5 c5 l5 g w W) (hb : Below W.heap.size W W') : MayAt a0 A1 c1 l1 A2 c2 l2 A3 c3 l3 A4 c4 l4 A5 c5 l5 g w W' :=
  ⟨below_step h.below hb, blk_below h.blk hb, Kd.C_below h.h1 hb, Kd.C_below h.h2 hb, Kd.C_below h.h3 hb, Kd.C_below h.h4 hb, Kd.C_below h.h5 hb⟩
/-- the closure, asked of a slice of literals -/
theorem mayAny (a0 : Int) (A1 : Option Addr) (c1 : Nat) (l1 : List S41) (A2 : Option Addr) (c2 : Nat) (l2 : List S68) (A3 : Option Addr) (c3 : Nat) (l3 : List Int) (A4 : Option Addr) (c4 : Nat) (l4 : List Int) (A5 : Option Addr) (c5 : Nat) (l5 : List Int) (g : Nat) (w W : World) (h : MayAt a0 A1 c1 l1 A2 c2 l2 A3 c3 l3 A4 c4 l4 A5 c5 l5 g w W) (hc1 : l1.length ≤ c1) (hc2 : l2.length ≤ c2) (hc3 : l3.length ≤ c3) (hc4 : l4.length ≤ c4) (hc5 : l5.length ≤ c5)
    (A : Option Addr) (c : Nat) (l : List Int) (hl : Kd.C (Kd.int .u32) W A l.length l) :
    Calls Try.prog 139 #[.slice A l.length c, .func (.func 144) #[] #[.pointer (some ⟨g, 0, none⟩)]] W fun e w' => e = .returned (.bool (l.any (beyW (varsW a0 l1.length l2.length)))) ∧ Below W.heap.size W w' := by
  have e : l.any (beyW (varsW a0 l1.length l2.length)) = (List.range l.length).any (fun j => beyW (varsW a0 l1.length l2.length) (l.getD j 0)) := by
    rw [Bool.eq_iff_iff, List.any_eq_true, List.any_eq_true]
    constructor
    · rintro ⟨x, hx, hp⟩
      obtain ⟨j, hj, rfl⟩ := List.mem_iff_getElem.1 hx
      exact ⟨j, List.mem_range.2 hj, by simpa [List.getD_eq_getElem?_getD, List.getElem?_eq_getElem hj] using hp⟩
    · rintro ⟨j, hj, hp⟩
      have hj' := List.mem_range.1 hj
      exact ⟨l[j], List.getElem_mem hj', by simpa [List.getD_eq_getElem?_getD, List.getElem?_eq_getElem hj'] using hp⟩
  rw [e]
  refine contains177 144 #[.pointer (some ⟨g, 0, none⟩)] (enters_of Try.func144 (by kernel_rfl) rfl) (fun j => .int .u32 (l.getD j 0)) _ A l.length c W hl.2.1 (fun j hj => ?_) (fun j hj W' hb => ?_)
  · obtain ⟨ad, e, hx⟩ := Kd.at_int hl (j : Int) (by omega) (by omega)
    exact ⟨ad, e, by simpa [rd] using hx⟩
  · have h' := h.step hb
    exact may1 a0 A1 c1 l1 A2 c2 l2 A3 c3 l3 A4 c4 l4 A5 c5 l5 g _ W' h'.h1 hc1 h'.h2 hc2 h'.h3 hc3 h'.h4 hc4 h'.h5 hc5 h'.blk

set_option maxHeartbeats 8000000 in
set_option maxRecDepth 100000 in
theorem norm_May.calls (a0 : Int) (A1 : Option Addr) (c1 : Nat) (l1 : List S41) (A2 : Option Addr) (c2 : Nat) (l2 : List S68) (A3 : Option Addr) (c3 : Nat) (l3 : List Int) (A4 : Option Addr) (c4 : Nat) (l4 : List Int) (A5 : Option Addr) (c5 : Nat) (l5 : List Int)
    (r : Bool) (w : World) (hr1 : Kd.C k41 w A1 l1.length l1) (hc1 : l1.length ≤ c1) (hr2 : Kd.C k68 w A2 l2.length l2) (hc2 : l2.length ≤ c2) (hr3 : Kd.C (Kd.int .u32) w A3 l3.length l3) (hc3 : l3.length ≤ c3) (hr4 : Kd.C (Kd.int .u32) w A4 l4.length l4) (hc4 : l4.length ≤ c4) (hr5 : Kd.C (Kd.int .u32) w A5 l5.length l5) (hc5 : l5.length ≤ c5)
    (h : norm_May.f a0 l1 l2 l3 l4 l5 = some r) :
    Calls Try.prog 92 #[.agg #[.int .i64 a0, .slice A1 l1.length c1, .slice A2 l2.length c2, .slice A3 l3.length c3, .slice A4 l4.length c4, .slice A5 l5.length c5]] w fun e w' => e = .returned (.bool r) ∧ Below w.heap.size w w' := by
  obtain rfl := Option.some.inj h
  clear h
  have hu26 := Try.underlying26
  have hu41 := Try.underlying41
  have hu68 := Try.underlying68
  have HV := Aside0.mk (fun W (h : MayAt a0 A1 c1 l1 A2 c2 l2 A3 c3 l3 A4 c4 l4 A5 c5 l5 w.heap.size w W) => norm_vars.calls a0 A1 c1 l1 A2 c2 l2 A3 c3 l3 A4 c4 l4 A5 c5 l5 _ W h.h1 hc1 h.h2 hc2 h.h3 hc3 h.h4 hc4 h.h5 hc5 rfl)
  have HQ := Aside0.mk (fun W (h : MayAt a0 A1 c1 l1 A2 c2 l2 A3 c3 l3 A4 c4 l4 A5 c5 l5 w.heap.size w W) => mayAny a0 A1 c1 l1 A2 c2 l2 A3 c3 l3 A4 c4 l4 A5 c5 l5 w.heap.size w W h hc1 hc2 hc3 hc4 hc5)
  have H0 := Aside0.mk (fun W (hb : Below w.heap.size w W) (hk : W.heap[w.heap.size]? = some (.cells #[.int .i64 a0, .slice A1 l1.length c1, .slice A2 l2.length c2, .slice A3 l3.length c3, .slice A4 l4.length c4, .slice A5 l5.length c5] 26 (0, 0))) => (⟨hb, hk, Kd.C_below hr1 hb, Kd.C_below hr2 hb, Kd.C_below hr3 hb, Kd.C_below hr4 hb, Kd.C_below hr5 hb⟩ : MayAt a0 A1 c1 l1 A2 c2 l2 A3 c3 l3 A4 c4 l4 A5 c5 l5 w.heap.size w W))
  have HB1 := Aside0.mk (fun W (h : MayAt a0 A1 c1 l1 A2 c2 l2 A3 c3 l3 A4 c4 l4 A5 c5 l5 w.heap.size w W) x => may1 a0 A1 c1 l1 A2 c2 l2 A3 c3 l3 A4 c4 l4 A5 c5 l5 w.heap.size x W h.h1 hc1 h.h2 hc2 h.h3 hc3 h.h4 hc4 h.h5 hc5 h.blk)
  clear hr1 hr2 hr3 hr4 hr5
  by_cases d1 : a0 < 0
  · have R : Aside0 (mayB a0 l1 l2 l3 l4 l5 = false) := ⟨by simp [mayB, d1]⟩
    have d1b : decide (a0 < 0) = true := decide_eq_true d1
    go_enter Try.func92, Try.ntmps92
    go_wp2_with ((with_reducible refine gate_dst (N := 1) rfl ?_); (try (refine gate_guard (by rfl) ?_; dsimp only)); refine box_event ?hg (N := 1) ?hd (cs := #[.int .i64 a0, .slice A1 l1.length c1, .slice A2 l2.length c2, .slice A3 l3.length c3, .slice A4 l4.length c4, .slice A5 l5.length c5]) (t := 26) ?hr ?_; (case hd => rfl); (case hg => rfl); (case hr => first | (go_simp; done) | (go_simp; rfl)); intro g hg_ w1 BK HB; subst hg_; have z0 : w1.cell? ⟨w.heap.size, 0, none⟩ = some (.int .i64 a0) := (blk_cell BK 0).trans rfl; have z1 : w1.cell? ⟨w.heap.size, 1, none⟩ = some (.slice A1 l1.length c1) := (blk_cell BK 1).trans rfl; have z2 : w1.cell? ⟨w.heap.size, 2, none⟩ = some (.slice A2 l2.length c2) := (blk_cell BK 2).trans rfl; have z3 : w1.cell? ⟨w.heap.size, 3, none⟩ = some (.slice A3 l3.length c3) := (blk_cell BK 3).trans rfl; have z4 : w1.cell? ⟨w.heap.size, 4, none⟩ = some (.slice A4 l4.length c4) := (blk_cell BK 4).trans rfl; have z5 : w1.cell? ⟨w.heap.size, 5, none⟩ = some (.slice A5 l5.length c5) := (blk_cell BK 5).trans rfl)
    go_ret
    exact ⟨by rw [R.out]; rfl, HB⟩
  have d1b : decide (a0 < 0) = false := decide_eq_false d1
  by_cases d2 : 16384 < a0
  · have R : Aside0 (mayB a0 l1 l2 l3 l4 l5 = false) := ⟨by simp [mayB, d2]⟩
    have d2b : decide (16384 < a0) = true := decide_eq_true d2
    go_enter Try.func92, Try.ntmps92
    go_wp2_with ((with_reducible refine gate_dst (N := 1) rfl ?_); (try (refine gate_guard (by rfl) ?_; dsimp only)); refine box_event ?hg (N := 1) ?hd (cs := #[.int .i64 a0, .slice A1 l1.length c1, .slice A2 l2.length c2, .slice A3 l3.length c3, .slice A4 l4.length c4, .slice A5 l5.length c5]) (t := 26) ?hr ?_; (case hd => rfl); (case hg => rfl); (case hr => first | (go_simp; done) | (go_simp; rfl)); intro g hg_ w1 BK HB; subst hg_; have z0 : w1.cell? ⟨w.heap.size, 0, none⟩ = some (.int .i64 a0) := (blk_cell BK 0).trans rfl; have z1 : w1.cell? ⟨w.heap.size, 1, none⟩ = some (.slice A1 l1.length c1) := (blk_cell BK 1).trans rfl; have z2 : w1.cell? ⟨w.heap.size, 2, none⟩ = some (.slice A2 l2.length c2) := (blk_cell BK 2).trans rfl; have z3 : w1.cell? ⟨w.heap.size, 3, none⟩ = some (.slice A3 l3.length c3) := (blk_cell BK 3).trans rfl; have z4 : w1.cell? ⟨w.heap.size, 4, none⟩ = some (.slice A4 l4.length c4) := (blk_cell BK 4).trans rfl; have z5 : w1.cell? ⟨w.heap.size, 5, none⟩ = some (.slice A5 l5.length c5) := (blk_cell BK 5).trans rfl)
    go_ret
    exact ⟨by rw [R.out]; rfl, HB⟩
  have d2b : decide (16384 < a0) = false := decide_eq_false d2
  generalize hV : varsW a0 l1.length l2.length = V at HQ HB1
  have HVE := Aside0.mk hV
  clear hV
  have HV := Aside0.mk (fun W h => by have := HV.out W h; rw [show wrap64 ((wrap64 (a0 + (l1.length : Int))) + (l2.length : Int)) = V from HVE.out] at this; exact this)
  by_cases d3 : 16384 < V
  · have R : Aside0 (mayB a0 l1 l2 l3 l4 l5 = false) := ⟨by simp [mayB, HVE.out, d3]⟩
    have d3b : decide (16384 < V) = true := decide_eq_true d3
    go_enter Try.func92, Try.ntmps92
    go_wp2_with (first | ((with_reducible refine gate_dst (N := 1) rfl ?_); (try (refine gate_guard (by rfl) ?_; dsimp only)); refine box_event ?hg (N := 1) ?hd (cs := #[.int .i64 a0, .slice A1 l1.length c1, .slice A2 l2.length c2, .slice A3 l3.length c3, .slice A4 l4.length c4, .slice A5 l5.length c5]) (t := 26) ?hr ?_; (case hd => rfl); (case hg => rfl); (case hr => first | (go_simp; done) | (go_simp; rfl)); intro g hg_ w1 BK HB; subst hg_; have z0 : w1.cell? ⟨w.heap.size, 0, none⟩ = some (.int .i64 a0) := (blk_cell BK 0).trans rfl; have z1 : w1.cell? ⟨w.heap.size, 1, none⟩ = some (.slice A1 l1.length c1) := (blk_cell BK 1).trans rfl; have z2 : w1.cell? ⟨w.heap.size, 2, none⟩ = some (.slice A2 l2.length c2) := (blk_cell BK 2).trans rfl; have z3 : w1.cell? ⟨w.heap.size, 3, none⟩ = some (.slice A3 l3.length c3) := (blk_cell BK 3).trans rfl; have z4 : w1.cell? ⟨w.heap.size, 4, none⟩ = some (.slice A4 l4.length c4) := (blk_cell BK 4).trans rfl; have z5 : w1.cell? ⟨w.heap.size, 5, none⟩ = some (.slice A5 l5.length c5) := (blk_cell BK 5).trans rfl; have HM := Aside0.mk (H0.out _ HB BK)) | (go_at_call 143; refine (HV.out _ HM.out).mono ?_; rintro e w' ⟨rfl, hb'⟩))
    go_ret
    exact ⟨by rw [R.out]; rfl, below_step HM.out.below hb'⟩
  have d3b : decide (16384 < V) = false := decide_eq_false d3
  go_enter Try.func92, Try.ntmps92
  go_wp2_with (first | ((with_reducible refine gate_dst (N := 1) rfl ?_); (try (refine gate_guard (by rfl) ?_; dsimp only)); refine box_event ?hg (N := 1) ?hd (cs := #[.int .i64 a0, .slice A1 l1.length c1, .slice A2 l2.length c2, .slice A3 l3.length c3, .slice A4 l4.length c4, .slice A5 l5.length c5]) (t := 26) ?hr ?_; (case hd => rfl); (case hg => rfl); (case hr => first | (go_simp; done) | (go_simp; rfl)); intro g hg_ w1 BK HB; subst hg_; have z0 : w1.cell? ⟨w.heap.size, 0, none⟩ = some (.int .i64 a0) := (blk_cell BK 0).trans rfl; have z1 : w1.cell? ⟨w.heap.size, 1, none⟩ = some (.slice A1 l1.length c1) := (blk_cell BK 1).trans rfl; have z2 : w1.cell? ⟨w.heap.size, 2, none⟩ = some (.slice A2 l2.length c2) := (blk_cell BK 2).trans rfl; have z3 : w1.cell? ⟨w.heap.size, 3, none⟩ = some (.slice A3 l3.length c3) := (blk_cell BK 3).trans rfl; have z4 : w1.cell? ⟨w.heap.size, 4, none⟩ = some (.slice A4 l4.length c4) := (blk_cell BK 4).trans rfl; have z5 : w1.cell? ⟨w.heap.size, 5, none⟩ = some (.slice A5 l5.length c5) := (blk_cell BK 5).trans rfl; have HM := Aside0.mk (H0.out _ HB BK)) | (go_at_call 143; refine (HV.out _ HM.out).mono ?_; rintro e w' ⟨rfl, hb'⟩; have HM2 := Aside0.mk (HM.out.step hb'); clear HB BK HM z0 z1 z2 z3 z4 z5 hb'; have z0 : w'.cell? ⟨w.heap.size, 0, none⟩ = some (.int .i64 a0) := (blk_cell HM2.out.blk 0).trans rfl; have z1 : w'.cell? ⟨w.heap.size, 1, none⟩ = some (.slice A1 l1.length c1) := (blk_cell HM2.out.blk 1).trans rfl; have z2 : w'.cell? ⟨w.heap.size, 2, none⟩ = some (.slice A2 l2.length c2) := (blk_cell HM2.out.blk 2).trans rfl; have z3 : w'.cell? ⟨w.heap.size, 3, none⟩ = some (.slice A3 l3.length c3) := (blk_cell HM2.out.blk 3).trans rfl; have z4 : w'.cell? ⟨w.heap.size, 4, none⟩ = some (.slice A4 l4.length c4) := (blk_cell HM2.out.blk 4).trans rfl; have z5 : w'.cell? ⟨w.heap.size, 5, none⟩ = some (.slice A5 l5.length c5) := (blk_cell HM2.out.blk 5).trans rfl))

  have MB : Aside0 (mayB a0 l1 l2 l3 l4 l5 = ([l3, l4, l5].all (listOk V) && (l1.all (latchOk V) && gatesOk (IntKind.u32.wrap (wrap64 (a0 + (l1.length : Int)))) l2))) := ⟨by simp [mayB, HVE.out, d1b, d2b, d3b, Bool.and_assoc]⟩
  go_loopg [33] 3 (fun gg v33 wr => ∃ k : Nat, k ≤ 3 ∧ 3 - k ≤ gg ∧ v33 = .int .i64 k ∧ Aside0 (MayAt a0 A1 c1 l1 A2 c2 l2 A3 c3 l3 A4 c4 l4 A5 c5 l5 w.heap.size w wr) ∧ Aside0 (wr.heap[w'.heap.size]? = some (.cells #[.slice A3 l3.length c3, .slice A4 l4.length c4, .slice A5 l5.length c5] 24 (0, 0)))
    ∧ Aside0 (mayB a0 l1 l2 l3 l4 l5 = (([l3, l4, l5].drop k).all (listOk V) && (l1.all (latchOk V) && gatesOk (IntKind.u32.wrap (wrap64 (a0 + (l1.length : Int)))) l2))))
  case atStart => exact ⟨0, by omega, by omega, rfl, ⟨HM2.out.step (below_alloc (Below.refl _ _) _)⟩, ⟨blk_new _ _⟩, MB⟩
  case round =>
    clear z0 z1 z2 z3 z4 z5 MB
    obtain ⟨k, hk, hg, rfl, HM, BS, MB⟩ := hrel
    have s0 : wr.cell? ⟨w'.heap.size, 0, none⟩ = some (.slice A3 l3.length c3) := (blk_cell BS.out 0).trans rfl
    have s1 : wr.cell? ⟨w'.heap.size, 1, none⟩ = some (.slice A4 l4.length c4) := (blk_cell BS.out 1).trans rfl
    have s2 : wr.cell? ⟨w'.heap.size, 2, none⟩ = some (.slice A5 l5.length c5) := (blk_cell BS.out 2).trans rfl
    match k, hk with
    | 0, _ =>
      by_cases e1 : 1024 < (l3.length : Int)
      · have R : Aside0 (mayB a0 l1 l2 l3 l4 l5 = false) := ⟨MB.out.trans (by simp [listOk, e1])⟩
        have e1b : decide (1024 < (l3.length : Int)) = true := decide_eq_true e1
        have e1c : decide (1024 < l3.length) = true := decide_eq_true (by omega)
        clear e1
        go_wp2
        go_ret
        exact ⟨by rw [R.out]; rfl, HM.out.below⟩
      · have e1b : decide (1024 < (l3.length : Int)) = false := decide_eq_false e1
        have e1c : decide (1024 < l3.length) = false := decide_eq_false (by omega)
        clear e1
        have hcall := HQ.out wr HM.out A3 c3 l3 HM.out.h3
        cases hq : l3.any (beyW V) with
        | true =>
          have R : Aside0 (mayB a0 l1 l2 l3 l4 l5 = false) := ⟨MB.out.trans (by simp [listOk, hq])⟩
          rw [hq] at hcall
          clear hq
          have hcall := Aside0.mk hcall
          go_wp2_with (go_at_call 139; refine hcall.out.mono ?_; rintro e w3 ⟨rfl, hb'⟩)
          go_ret
          exact ⟨by rw [R.out]; rfl, below_step HM.out.below hb'⟩
        | false =>
          have R : Aside0 (mayB a0 l1 l2 l3 l4 l5 = (([l3, l4, l5].drop 1).all (listOk V) && (l1.all (latchOk V) && gatesOk (IntKind.u32.wrap (wrap64 (a0 + (l1.length : Int)))) l2))) := ⟨MB.out.trans (by simp [listOk, hq, e1b, e1c]; try omega)⟩
          rw [hq] at hcall
          clear hq
          have hcall := Aside0.mk hcall
          go_wp2_with (go_at_call 139; refine hcall.out.mono ?_; rintro e w3 ⟨rfl, hb'⟩)
          go_roundg (2 - 0)
          case measure => omega
          case rel => exact ⟨1, by omega, by omega, by go_num, ⟨HM.out.step hb'⟩, ⟨blk_below BS.out hb'⟩, R⟩
    | 1, _ =>
      by_cases e1 : 1024 < (l4.length : Int)
      · have R : Aside0 (mayB a0 l1 l2 l3 l4 l5 = false) := ⟨MB.out.trans (by simp [listOk, e1])⟩
        have e1b : decide (1024 < (l4.length : Int)) = true := decide_eq_true e1
        have e1c : decide (1024 < l4.length) = true := decide_eq_true (by omega)
        clear e1
        go_wp2
        go_ret
        exact ⟨by rw [R.out]; rfl, HM.out.below⟩
      · have e1b : decide (1024 < (l4.length : Int)) = false := decide_eq_false e1
        have e1c : decide (1024 < l4.length) = false := decide_eq_false (by omega)
        clear e1
        have hcall := HQ.out wr HM.out A4 c4 l4 HM.out.h4
        cases hq : l4.any (beyW V) with
        | true =>
          have R : Aside0 (mayB a0 l1 l2 l3 l4 l5 = false) := ⟨MB.out.trans (by simp [listOk, hq])⟩
          rw [hq] at hcall
          clear hq
          have hcall := Aside0.mk hcall
          go_wp2_with (go_at_call 139; refine hcall.out.mono ?_; rintro e w3 ⟨rfl, hb'⟩)
          go_ret
          exact ⟨by rw [R.out]; rfl, below_step HM.out.below hb'⟩
        | false =>
          have R : Aside0 (mayB a0 l1 l2 l3 l4 l5 = (([l3, l4, l5].drop 2).all (listOk V) && (l1.all (latchOk V) && gatesOk (IntKind.u32.wrap (wrap64 (a0 + (l1.length : Int)))) l2))) := ⟨MB.out.trans (by simp [listOk, hq, e1b, e1c]; try omega)⟩
          rw [hq] at hcall
          clear hq
          have hcall := Aside0.mk hcall
          go_wp2_with (go_at_call 139; refine hcall.out.mono ?_; rintro e w3 ⟨rfl, hb'⟩)
          go_roundg (2 - 1)
          case measure => omega
          case rel => exact ⟨2, by omega, by omega, by go_num, ⟨HM.out.step hb'⟩, ⟨blk_below BS.out hb'⟩, R⟩
    | 2, _ =>
      by_cases e1 : 1024 < (l5.length : Int)
      · have R : Aside0 (mayB a0 l1 l2 l3 l4 l5 = false) := ⟨MB.out.trans (by simp [listOk, e1])⟩
        have e1b : decide (1024 < (l5.length : Int)) = true := decide_eq_true e1
        have e1c : decide (1024 < l5.length) = true := decide_eq_true (by omega)
        clear e1
        go_wp2
        go_ret
        exact ⟨by rw [R.out]; rfl, HM.out.below⟩
      · have e1b : decide (1024 < (l5.length : Int)) = false := decide_eq_false e1
        have e1c : decide (1024 < l5.length) = false := decide_eq_false (by omega)
        clear e1
        have hcall := HQ.out wr HM.out A5 c5 l5 HM.out.h5
        cases hq : l5.any (beyW V) with
        | true =>
          have R : Aside0 (mayB a0 l1 l2 l3 l4 l5 = false) := ⟨MB.out.trans (by simp [listOk, hq])⟩
          rw [hq] at hcall
          clear hq
          have hcall := Aside0.mk hcall
          go_wp2_with (go_at_call 139; refine hcall.out.mono ?_; rintro e w3 ⟨rfl, hb'⟩)
          go_ret
          exact ⟨by rw [R.out]; rfl, below_step HM.out.below hb'⟩
        | false =>
          have R : Aside0 (mayB a0 l1 l2 l3 l4 l5 = (([l3, l4, l5].drop 3).all (listOk V) && (l1.all (latchOk V) && gatesOk (IntKind.u32.wrap (wrap64 (a0 + (l1.length : Int)))) l2))) := ⟨MB.out.trans (by simp [listOk, hq, e1b, e1c]; try omega)⟩
          rw [hq] at hcall
          clear hq
          have hcall := Aside0.mk hcall
          go_wp2_with (go_at_call 139; refine hcall.out.mono ?_; rintro e w3 ⟨rfl, hb'⟩)
          go_roundg (2 - 2)
          case measure => omega
          case rel => exact ⟨3, by omega, by omega, by go_num, ⟨HM.out.step hb'⟩, ⟨blk_below BS.out hb'⟩, R⟩
    | 3, _ =>
      clear s0 s1 s2
      have z0 : wr.cell? ⟨w.heap.size, 0, none⟩ = some (.int .i64 a0) := (blk_cell HM.out.blk 0).trans rfl
      have z1 : wr.cell? ⟨w.heap.size, 1, none⟩ = some (.slice A1 l1.length c1) := (blk_cell HM.out.blk 1).trans rfl
      have z2 : wr.cell? ⟨w.heap.size, 2, none⟩ = some (.slice A2 l2.length c2) := (blk_cell HM.out.blk 2).trans rfl
      have z3 : wr.cell? ⟨w.heap.size, 3, none⟩ = some (.slice A3 l3.length c3) := (blk_cell HM.out.blk 3).trans rfl
      have z4 : wr.cell? ⟨w.heap.size, 4, none⟩ = some (.slice A4 l4.length c4) := (blk_cell HM.out.blk 4).trans rfl
      have z5 : wr.cell? ⟨w.heap.size, 5, none⟩ = some (.slice A5 l5.length c5) := (blk_cell HM.out.blk 5).trans rfl
      have MB := Aside0.mk (MB.out.trans (by simp : _ = (l1.all (latchOk V) && gatesOk (IntKind.u32.wrap (wrap64 (a0 + (l1.length : Int)))) l2)))
      have n1 := HM.out.h1.2.1
      have n2 := HM.out.h2.2.1
      go_wp2

      go_loopg [49] l1.length (fun gg v49 wq => ∃ k : Nat, k ≤ l1.length ∧ l1.length - k ≤ gg ∧ v49 = .int .i64 k ∧ Aside0 (MayAt a0 A1 c1 l1 A2 c2 l2 A3 c3 l3 A4 c4 l4 A5 c5 l5 w.heap.size w wq)
        ∧ Aside0 (mayB a0 l1 l2 l3 l4 l5 = ((l1.drop k).all (latchOk V) && gatesOk (IntKind.u32.wrap (wrap64 (a0 + (l1.length : Int)))) l2)))
      case atStart => exact ⟨0, by omega, by omega, rfl, HM, MB⟩
      case round =>
        clear z0 z1 z2 z3 z4 z5 MB HM BS
        obtain ⟨k, hk, hg, rfl, HM, MB⟩ := hrel
        by_cases hlt : k < l1.length
        · have hltz : (k : Int) < (l1.length : Int) := by omega
          obtain ⟨ad, e, x0, x1⟩ := at_T41 HM.out.h1 (k : Int) (by omega) hltz
          cases e
          have ek : (k : Int).toNat = k := by omega
          rw [ek] at x0 x1
          clear ek
          have E : Aside0 ((l1.drop k).all (latchOk V) = (latchOk V (rd_T41 l1 k) && (l1.drop (k + 1)).all (latchOk V))) := ⟨by rw [List.drop_eq_getElem_cons hlt, List.all_cons]; simp [rd_T41, List.getD_eq_getElem?_getD, List.getElem?_eq_getElem hlt]⟩
          generalize rd_T41 l1 (k : Int) = y at x0 x1 E
          by_cases e1 : 2 < y.f1
          · have R : Aside0 (mayB a0 l1 l2 l3 l4 l5 = false) := ⟨MB.out.trans (by rw [E.out]; simp [latchOk, e1])⟩
            have e1b : decide (2 < y.f1) = true := decide_eq_true e1
            clear e1
            go_wp2_with ((with_reducible refine gate_dst (N := 7) rfl ?_); (try (refine gate_guard (by rfl) ?_; dsimp only)); refine box_event ?hg (N := 7) ?hd (cs := #[.int .u32 0, .int .u8 0]) (t := 41) ?hr ?_; (case hd => rfl); (case hg => rfl); (case hr => first | (go_simp; done) | (go_simp; rfl)); intro g7 hg_ w7 bk7 hb7; have ge7 := Aside0.mk (Nat.le_of_eq hg_.symm); clear hg_; have y0 : w7.cell? ⟨g7, 0, none⟩ = some (.int .u32 0) := (blk_cell bk7 0).trans rfl; have y1 : w7.cell? ⟨g7, 1, none⟩ = some (.int .u8 0) := (blk_cell bk7 1).trans rfl; have f7_0 := blk_frozen bk7 0; have f7_1 := blk_frozen bk7 1)
            go_ret
            exact ⟨by rw [R.out]; rfl, below_step HM.out.below ((hb7.setCell (p := ⟨g7, 0, none⟩) ge7.out _).setCell (p := ⟨g7, 1, none⟩) ge7.out _)⟩
          · have e1b : decide (2 < y.f1) = false := decide_eq_false e1
            clear e1
            have hcall := Aside0.mk (fun W hb => HB1.out W hb y.f0)
            cases hq : beyW V y.f0 with
            | true =>
              have R : Aside0 (mayB a0 l1 l2 l3 l4 l5 = false) := ⟨MB.out.trans (by rw [E.out]; simp [latchOk, hq])⟩
              rw [hq] at hcall
              clear hq
              go_wp2_with (first | ((with_reducible refine gate_dst (N := 7) rfl ?_); (try (refine gate_guard (by rfl) ?_; dsimp only)); refine box_event ?hg (N := 7) ?hd (cs := #[.int .u32 0, .int .u8 0]) (t := 41) ?hr ?_; (case hd => rfl); (case hg => rfl); (case hr => first | (go_simp; done) | (go_simp; rfl)); intro g7 hg_ w7 bk7 hb7; have ge7 := Aside0.mk (Nat.le_of_eq hg_.symm); clear hg_; have y0 : w7.cell? ⟨g7, 0, none⟩ = some (.int .u32 0) := (blk_cell bk7 0).trans rfl; have y1 : w7.cell? ⟨g7, 1, none⟩ = some (.int .u8 0) := (blk_cell bk7 1).trans rfl; have f7_0 := blk_frozen bk7 0; have f7_1 := blk_frozen bk7 1) | (go_at_call 144; refine (hcall.out _ (HM.out.step ((hb7.setCell (p := ⟨g7, 0, none⟩) ge7.out _).setCell (p := ⟨g7, 1, none⟩) ge7.out _))).mono ?_; rintro e w8 ⟨rfl, hb8⟩))
              go_ret
              exact ⟨by rw [R.out]; rfl, below_step HM.out.below (below_step ((hb7.setCell (p := ⟨g7, 0, none⟩) ge7.out _).setCell (p := ⟨g7, 1, none⟩) ge7.out _) hb8)⟩
            | false =>
              have R : Aside0 (mayB a0 l1 l2 l3 l4 l5 = ((l1.drop (k + 1)).all (latchOk V) && gatesOk (IntKind.u32.wrap (wrap64 (a0 + (l1.length : Int)))) l2)) := ⟨MB.out.trans (by rw [E.out]; simp [latchOk, hq, e1b]; try omega)⟩
              rw [hq] at hcall
              clear hq
              go_wp2_with (first | ((with_reducible refine gate_dst (N := 7) rfl ?_); (try (refine gate_guard (by rfl) ?_; dsimp only)); refine box_event ?hg (N := 7) ?hd (cs := #[.int .u32 0, .int .u8 0]) (t := 41) ?hr ?_; (case hd => rfl); (case hg => rfl); (case hr => first | (go_simp; done) | (go_simp; rfl)); intro g7 hg_ w7 bk7 hb7; have ge7 := Aside0.mk (Nat.le_of_eq hg_.symm); clear hg_; have y0 : w7.cell? ⟨g7, 0, none⟩ = some (.int .u32 0) := (blk_cell bk7 0).trans rfl; have y1 : w7.cell? ⟨g7, 1, none⟩ = some (.int .u8 0) := (blk_cell bk7 1).trans rfl; have f7_0 := blk_frozen bk7 0; have f7_1 := blk_frozen bk7 1) | (go_at_call 144; refine (hcall.out _ (HM.out.step ((hb7.setCell (p := ⟨g7, 0, none⟩) ge7.out _).setCell (p := ⟨g7, 1, none⟩) ge7.out _))).mono ?_; rintro e w8 ⟨rfl, hb8⟩))
              go_roundg (l1.length - (k + 1))
              case measure => omega
              case rel => exact ⟨k + 1, by omega, by omega, by go_num, ⟨HM.out.step (below_step ((hb7.setCell (p := ⟨g7, 0, none⟩) ge7.out _).setCell (p := ⟨g7, 1, none⟩) ge7.out _) hb8)⟩, R⟩
        · have hltz : ¬ (k : Int) < (l1.length : Int) := by omega
          have MB : Aside0 (mayB a0 l1 l2 l3 l4 l5 = gatesOk (IntKind.u32.wrap (wrap64 (a0 + (l1.length : Int)))) l2) := ⟨MB.out.trans (by rw [List.drop_eq_nil_of_le (by omega)]; simp)⟩
          have z0 : wr.cell? ⟨w.heap.size, 0, none⟩ = some (.int .i64 a0) := (blk_cell HM.out.blk 0).trans rfl
          have z1 : wr.cell? ⟨w.heap.size, 1, none⟩ = some (.slice A1 l1.length c1) := (blk_cell HM.out.blk 1).trans rfl
          have z2 : wr.cell? ⟨w.heap.size, 2, none⟩ = some (.slice A2 l2.length c2) := (blk_cell HM.out.blk 2).trans rfl
          have z3 : wr.cell? ⟨w.heap.size, 3, none⟩ = some (.slice A3 l3.length c3) := (blk_cell HM.out.blk 3).trans rfl
          have z4 : wr.cell? ⟨w.heap.size, 4, none⟩ = some (.slice A4 l4.length c4) := (blk_cell HM.out.blk 4).trans rfl
          have z5 : wr.cell? ⟨w.heap.size, 5, none⟩ = some (.slice A5 l5.length c5) := (blk_cell HM.out.blk 5).trans rfl
          go_wp2
          go_loopg [8, 73] l2.length (fun gg v8 v73 wp => ∃ (k : Nat) (o : Int), k ≤ l2.length ∧ l2.length - k ≤ gg ∧ v8 = .int .u32 o ∧ v73 = .int .i64 k ∧ Aside0 (MayAt a0 A1 c1 l1 A2 c2 l2 A3 c3 l3 A4 c4 l4 A5 c5 l5 w.heap.size w wp)
            ∧ Aside0 (mayB a0 l1 l2 l3 l4 l5 = gatesOk o (l2.drop k)))
          case atStart => exact ⟨0, _, by omega, by omega, rfl, rfl, HM, MB⟩
          case round =>
            clear z0 z1 z2 z3 z4 z5 MB HM hltz hk hg
            obtain ⟨k, o, hk, hg, rfl, rfl, HM, MB⟩ := hrel
            by_cases hlt : k < l2.length
            · have hltz : (k : Int) < (l2.length : Int) := by omega
              obtain ⟨ad, e, x0, x1⟩ := at_T68 HM.out.h2 (k : Int) (by omega) hltz
              cases e
              have ek : (k : Int).toNat = k := by omega
              rw [ek] at x0 x1
              clear ek
              have E : Aside0 (gatesOk o (l2.drop k) = (!decide (IntKind.u32.wrap (o + 1) ≤ (rd_T68 l2 k).f0 / 2) && !decide ((rd_T68 l2 k).f0 < (rd_T68 l2 k).f1) && gatesOk (IntKind.u32.wrap (o + 1)) (l2.drop (k + 1)))) := ⟨by rw [List.drop_eq_getElem_cons hlt, gatesOk]; simp [rd_T68, List.getD_eq_getElem?_getD, List.getElem?_eq_getElem hlt]⟩
              generalize rd_T68 l2 (k : Int) = y at x0 x1 E
              generalize ho : IntKind.u32.wrap (o + 1) = o1 at E
              by_cases e1 : o1 ≤ y.f0 / 2
              · have R : Aside0 (mayB a0 l1 l2 l3 l4 l5 = false) := ⟨MB.out.trans (by rw [E.out]; simp [e1])⟩
                have e1b : decide (o1 ≤ y.f0 / 2) = true := decide_eq_true e1
                clear e1
                go_wp2_with ((with_reducible refine gate_dst (N := 10) rfl ?_); (try (refine gate_guard (by rfl) ?_; dsimp only)); refine box_event ?hg (N := 10) ?hd (cs := #[.int .u32 0, .int .u32 0]) (t := 68) ?hr ?_; (case hd => rfl); (case hg => rfl); (case hr => first | (go_simp; done) | (go_simp; rfl)); intro g7 hg_ w7 bk7 hb7; have ge7 := Aside0.mk (Nat.le_of_eq hg_.symm); clear hg_; have y0 : w7.cell? ⟨g7, 0, none⟩ = some (.int .u32 0) := (blk_cell bk7 0).trans rfl; have y1 : w7.cell? ⟨g7, 1, none⟩ = some (.int .u32 0) := (blk_cell bk7 1).trans rfl; have f7_0 := blk_frozen bk7 0; have f7_1 := blk_frozen bk7 1)
                go_ret
                exact ⟨by rw [R.out]; rfl, below_step HM.out.below ((hb7.setCell (p := ⟨g7, 0, none⟩) ge7.out _).setCell (p := ⟨g7, 1, none⟩) ge7.out _)⟩
              · have e1b : decide (o1 ≤ y.f0 / 2) = false := decide_eq_false e1
                clear e1
                by_cases e2 : y.f0 < y.f1
                · have R : Aside0 (mayB a0 l1 l2 l3 l4 l5 = false) := ⟨MB.out.trans (by rw [E.out]; simp [e2])⟩
                  have e2b : decide (y.f0 < y.f1) = true := decide_eq_true e2
                  clear e2
                  go_wp2_with ((with_reducible refine gate_dst (N := 10) rfl ?_); (try (refine gate_guard (by rfl) ?_; dsimp only)); refine box_event ?hg (N := 10) ?hd (cs := #[.int .u32 0, .int .u32 0]) (t := 68) ?hr ?_; (case hd => rfl); (case hg => rfl); (case hr => first | (go_simp; done) | (go_simp; rfl)); intro g7 hg_ w7 bk7 hb7; have ge7 := Aside0.mk (Nat.le_of_eq hg_.symm); clear hg_; have y0 : w7.cell? ⟨g7, 0, none⟩ = some (.int .u32 0) := (blk_cell bk7 0).trans rfl; have y1 : w7.cell? ⟨g7, 1, none⟩ = some (.int .u32 0) := (blk_cell bk7 1).trans rfl; have f7_0 := blk_frozen bk7 0; have f7_1 := blk_frozen bk7 1)
                  go_ret
                  exact ⟨by rw [R.out]; rfl, below_step HM.out.below ((hb7.setCell (p := ⟨g7, 0, none⟩) ge7.out _).setCell (p := ⟨g7, 1, none⟩) ge7.out _)⟩
                · have e2b : decide (y.f0 < y.f1) = false := decide_eq_false e2
                  have R : Aside0 (mayB a0 l1 l2 l3 l4 l5 = gatesOk o1 (l2.drop (k + 1))) := ⟨MB.out.trans (by rw [E.out, e1b, e2b]; simp)⟩
                  clear e2
                  go_wp2_with ((with_reducible refine gate_dst (N := 10) rfl ?_); (try (refine gate_guard (by rfl) ?_; dsimp only)); refine box_event ?hg (N := 10) ?hd (cs := #[.int .u32 0, .int .u32 0]) (t := 68) ?hr ?_; (case hd => rfl); (case hg => rfl); (case hr => first | (go_simp; done) | (go_simp; rfl)); intro g7 hg_ w7 bk7 hb7; have ge7 := Aside0.mk (Nat.le_of_eq hg_.symm); clear hg_; have y0 : w7.cell? ⟨g7, 0, none⟩ = some (.int .u32 0) := (blk_cell bk7 0).trans rfl; have y1 : w7.cell? ⟨g7, 1, none⟩ = some (.int .u32 0) := (blk_cell bk7 1).trans rfl; have f7_0 := blk_frozen bk7 0; have f7_1 := blk_frozen bk7 1)
                  go_roundg (l2.length - (k + 1))
                  case measure => omega
                  case rel => exact ⟨k + 1, o1, by omega, by omega, rfl, by go_num, ⟨HM.out.step ((hb7.setCell (p := ⟨g7, 0, none⟩) ge7.out _).setCell (p := ⟨g7, 1, none⟩) ge7.out _)⟩, R⟩
            · have hltz : ¬ (k : Int) < (l2.length : Int) := by omega
              have R : Aside0 (mayB a0 l1 l2 l3 l4 l5 = true) := ⟨MB.out.trans (by rw [List.drop_eq_nil_of_le (by omega)]; rfl)⟩
              go_wp2
              go_ret
              exact ⟨by rw [R.out]; rfl, HM.out.below⟩
end Go.Proofs.Yteiiodlgdbiimaa.F
