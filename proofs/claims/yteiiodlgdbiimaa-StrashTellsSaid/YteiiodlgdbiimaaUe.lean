/- What the proof of the law StrashTells needs, part 5: the walks of the functions that it reaches, and the plain words on what these compute. -/
import Derived.Test.YteiiodlgdbiimaaUd
section
namespace Go.Proofs.Yteiiodlgdbiimaa.F
open Go.RowKit Go.Proofs.YteiiodlgdbiimaaW.PrintWords Go.Proofs.YteiiodlgdbiimaaW.PrintLast Go.Proofs.YteiiodlgdbiimaaW.PrintMore
attribute [local go_sem] max2_int min2_int max_two min_two max_three min_three max_four min_four
set_option linter.unusedVariables false
set_option linter.unusedSimpArgs false
def slices_Max_uint8_uint8.l0 : Nat → List Int → Int → Int → Option (Int)
  | 0, _, _, _ => none
  | k + 1, x0, x3, x4 => if x4 < (x0.length : Int) then (if 0 ≤ x4 then (slices_Max_uint8_uint8.l0 k x0 (mx x3 (rd x0 x4)) (wrap64 (x4 + 1))) else (none)) else (some x3)
def slices_Max_uint8_uint8.f (k : Nat) (l0 : List Int) : Option (Int) := if (l0.length : Int) < 1 then (none) else (if 0 < (l0.length : Int) then (slices_Max_uint8_uint8.l0 k l0 (rd l0 0) 1) else (none))
set_option maxHeartbeats 8000000 in
set_option maxRecDepth 100000 in
theorem slices_Max_uint8_uint8.calls (k : Nat) (A0 : Option Addr) (c0 : Nat) (l0 : List Int) (r : Int) (w : World) (hr0 : Kd.C (Kd.int .u8) w A0 l0.length l0) (hc0 : l0.length ≤ c0) (h : slices_Max_uint8_uint8.f k l0 = some r) :
    Calls Try.prog 102 #[.slice A0 l0.length c0] w fun e w' => e = .returned (.int .u8 r) ∧ Below w.heap.size w w' := by
  have HR0 := Aside0.mk hr0
  have HC0 := Aside0.mk hc0
  clear hr0 hc0
  have HB := Aside0.mk (Below.refl w.heap.size w)
  have H : (if (l0.length : Int) < 1 then (none) else (if 0 < (l0.length : Int) then (slices_Max_uint8_uint8.l0 k l0 (rd l0 0) 1) else (none))) = some r := h
  clear h
  by_cases c2 : (l0.length : Int) < 1
  · rw [if_pos c2] at H
    exact absurd H (by simp)
  · rw [if_neg c2] at H
    have c2b0 : decide ((l0.length : Int) < 1) = false := decide_eq_false c2
    have c2b1 : decide (l0.length < 1) = false := decide_eq_false (by omega)
    clear c2
    by_cases c3 : 0 < (l0.length : Int)
    · rw [if_pos c3] at H
      have c3b0 : decide (0 < (l0.length : Int)) = true := decide_eq_true c3
      have c3b1 : decide (0 < l0.length) = true := decide_eq_true (by omega)
      clear c3
      have H' := Aside0.mk H
      clear H
      have p305 : 0 ≤ (0 : Int) := (by omega)
      have q305 : 0 < (l0.length : Int) := of_decide_eq_true (by first | (with_reducible assumption) | assumption)
      obtain ⟨ad305, e305, hx305_0⟩ := Kd.at_int HR0.out 0 p305 q305
      cases e305
      have qi305 : (0 < l0.length) = True := eq_true (by omega)
      (try rw [show ((0 : Int)).toNat = 0 from rfl] at hx305_0)
      (try rw [Addr.add_zero'] at hx305_0)
      replace p305 := eq_true p305
      replace q305 := eq_true q305
      go_enter Try.func102, Try.ntmps102
      go_wp2
      go_loopg [3, 4] k (fun kq v3 v4 w' => ∃ (x3_1 : Int) (x4_1 : Int), v3 = .int .u8 x3_1 ∧ v4 = .int .i64 x4_1 ∧ Aside0 (slices_Max_uint8_uint8.l0 kq l0 x3_1 x4_1 = some r) ∧ Aside0 (kq ≤ k) ∧ Aside0 (Below w.heap.size w w'))
      case atStart => exact ⟨(rd l0 0), (1), (by first | rfl | (simp; done) | (simp [*]; done)), (by first | rfl | (simp; done) | (simp [*]; done)), H', ⟨Nat.le_refl _⟩, ⟨by repeat (first | (with_reducible first | exact HB.out | apply below_alloc | apply pw_below_drewN | apply below_drew1) | exact HB.out)⟩⟩
      case round =>
        clear H'
        try clear c1
        try clear c2
        try clear c2b0
        try clear c2b1
        try clear p2
        try clear c3
        try clear c3b0
        try clear c3b1
        try clear p3
        try clear q3
        try clear hx3
        try clear qi3
        try clear hx305_0
        try clear p305
        try clear q305
        obtain ⟨x3_1, x4_1, rfl, rfl, HA, HK1, HB⟩ := hrel
        cases gk with
        | zero => exact absurd HA.out (by simp [slices_Max_uint8_uint8.l0])
        | succ k1 =>
          have H := HA.out
          clear HA
          simp only [slices_Max_uint8_uint8.l0] at H
          by_cases c4 : x4_1 < (l0.length : Int)
          · rw [if_pos c4] at H
            have c4b0 : decide (x4_1 < (l0.length : Int)) = true := decide_eq_true c4
            clear c4
            by_cases c5 : 0 ≤ x4_1
            · rw [if_pos c5] at H
              have c5b0 : decide (0 ≤ x4_1) = true := decide_eq_true c5
              clear c5
              obtain ⟨ji6, hji6⟩ : ∃ j_ : Int, (mx x3_1 (rd l0 x4_1)) = j_ := ⟨_, rfl⟩
              replace H : (slices_Max_uint8_uint8.l0 k1 l0 ji6 (wrap64 (x4_1 + 1))) = some r := by first | (rw [hji6] at H; exact H) | (simp only [hji6] at H ⊢; exact H)
              have hji6_ : (if x3_1 < (rd l0 x4_1) then (rd l0 x4_1) else x3_1) = ji6 := hji6
              have H' := Aside0.mk H
              clear H
              have p306 : 0 ≤ (x4_1 : Int) := of_decide_eq_true (by first | (with_reducible assumption) | assumption)
              have q306 : x4_1 < (l0.length : Int) := of_decide_eq_true (by first | (with_reducible assumption) | assumption)
              obtain ⟨ad306, e306, hx306_0⟩ := Kd.at_int HR0.out x4_1 p306 q306
              obtain rfl : ad305 = ad306 := (by injection e306)
              replace hx306_0 := (HB.out.cell (World.block_lt_of_cell? w _ hx306_0)).trans hx306_0
              replace p306 := eq_true p306
              replace q306 := eq_true q306
              go_wp2
              go_roundg k1
              case measure => have := HK1.out; omega
              case rel => exact ⟨(ji6), (wrap64 (x4_1 + 1)), (by first | rfl | (simp; done) | (simp only [← hji6] <;> (first | rfl | simp)) | (simp [*]; done)), (by first | rfl | (simp; done) | (simp [*]; done)), H', ⟨by have := HK1.out; omega⟩, ⟨by repeat (first | (with_reducible first | exact HB.out | apply below_alloc | apply pw_below_drewN | apply below_drew1) | exact HB.out)⟩⟩
            · rw [if_neg c5] at H
              exact absurd H (by simp)
          · rw [if_neg c4] at H
            have c4b0 : decide (x4_1 < (l0.length : Int)) = false := decide_eq_false c4
            clear c4
            obtain rfl := Option.some.inj H
            go_wp2
            go_ret
            exact ⟨by first | rfl | (simp [errW_none, errW_some] <;> rfl) | (simp [*, errW_none, errW_some] <;> rfl), by repeat (first | (with_reducible first | exact HB.out | apply below_alloc | apply pw_below_drewN | apply below_drew1) | exact HB.out)⟩
    · rw [if_neg c3] at H
      exact absurd H (by simp)
end Go.Proofs.Yteiiodlgdbiimaa.F
end
section
namespace Go.Proofs.Yteiiodlgdbiimaa.F
open Go.RowKit Go.Shelf Go.Proofs.YteiiodlgdbiimaaW.PrintWords Go.Proofs.YteiiodlgdbiimaaW.PrintLast Go.Proofs.YteiiodlgdbiimaaW.PrintMore
set_option linter.unusedVariables false
set_option linter.unusedSimpArgs false
theorem blk_set6 {w : World} {g t : Nat} {p0 p1 p2 p3 p4 p5 : Value} (h : w.heap[g]? = some (.cells #[p0, p1, p2, p3, p4, p5] t (0, 0))) (x0 x1 x2 x3 x4 x5 : Value) : ((((((w.setCell ⟨g, 0, none⟩ x0).setCell ⟨g, 1, none⟩ x1).setCell ⟨g, 2, none⟩ x2).setCell ⟨g, 3, none⟩ x3).setCell ⟨g, 4, none⟩ x4).setCell ⟨g, 5, none⟩ x5).heap[g]? = some (.cells #[x0, x1, x2, x3, x4, x5] t (0, 0)) := by
  simpa using blk_set (blk_set (blk_set (blk_set (blk_set (blk_set h 0 x0) 1 x1) 2 x2) 3 x3) 4 x4) 5 x5
theorem blk_far6 {w : World} {g g' t : Nat} {cs : Array Value} (h : w.heap[g']? = some (.cells cs t (0, 0))) (hne : g' ≠ g) (x0 x1 x2 x3 x4 x5 : Value) : ((((((w.setCell ⟨g, 0, none⟩ x0).setCell ⟨g, 1, none⟩ x1).setCell ⟨g, 2, none⟩ x2).setCell ⟨g, 3, none⟩ x3).setCell ⟨g, 4, none⟩ x4).setCell ⟨g, 5, none⟩ x5).heap[g']? = some (.cells cs t (0, 0)) :=
  blk_far (blk_far (blk_far (blk_far (blk_far (blk_far h (p := ⟨g, 0, none⟩) hne x0) (p := ⟨g, 1, none⟩) hne x1) (p := ⟨g, 2, none⟩) hne x2) (p := ⟨g, 3, none⟩) hne x3) (p := ⟨g, 4, none⟩) hne x4) (p := ⟨g, 5, none⟩) hne x5
theorem below_set6 {B : Nat} {w0 w : World} {g : Nat} (h : Below B w0 w) (hg : B ≤ g) (x0 x1 x2 x3 x4 x5 : Value) : Below B w0 ((((((w.setCell ⟨g, 0, none⟩ x0).setCell ⟨g, 1, none⟩ x1).setCell ⟨g, 2, none⟩ x2).setCell ⟨g, 3, none⟩ x3).setCell ⟨g, 4, none⟩ x4).setCell ⟨g, 5, none⟩ x5) :=
  (((((h.setCell (p := ⟨g, 0, none⟩) hg x0).setCell (p := ⟨g, 1, none⟩) hg x1).setCell (p := ⟨g, 2, none⟩) hg x2).setCell (p := ⟨g, 3, none⟩) hg x3).setCell (p := ⟨g, 4, none⟩) hg x4).setCell (p := ⟨g, 5, none⟩) hg x5
theorem add_zero_addr (a : Addr) : a.add 0 = a := by
  cases a
  simp [Addr.add]
theorem results43 (tmps : Array Value) (w : World) (g4 g5 : Nat) (cs : Array Value) (v : Value) (h4 : tmps.getD 4 undef = .pointer (some ⟨g4, 0, none⟩)) (k4 : w.heap[g4]? = some (.cells cs 26 (0, 0))) (hs : cs.size = 6) (h5 : tmps.getD 5 undef = .pointer (some ⟨g5, 0, none⟩)) (k5 : w.heap[g5]? = some (.cells #[v] 24 (0, 0))) :
    (results Try.f43 tmps).run Try.prog w = .ok (.tuple #[.agg cs, v, tmps.getD 6 undef]) w := by
  have h4' : tmps[4]?.getD undef = .pointer (some ⟨g4, 0, none⟩) := by simpa using h4
  have h5' : tmps[5]?.getD undef = .pointer (some ⟨g5, 0, none⟩) := by simpa using h5
  have e1 := run_loadVar_row (P := Try.prog) w g4 26 26 cs (0, 0) _ k4 Try.underlying26 rfl (by rw [hs]; kernel_rfl)
  have c5 : w.cell? ⟨g5, 0, none⟩ = some v := (blk_cell k5 0).trans rfl
  have e2 : (loadVar 24 ⟨g5, 0, none⟩).run Try.prog w = .ok v w := by simp [go_sem, c5]
  simp [results, show Try.f43.results = #[.cell 4 26, .cell 5 24, .tmp 6] from rfl, h4', h5', asAddr, e1, e2]
theorem max_is (is : List Int) (h1 : 1 ≤ is.length) (h2 : is.length ≤ 40000) : ∃ m, Ev (fun k => slices_Max_uint8_uint8.f k is) m ∧ (2 < m ↔ ∃ x ∈ is, 2 < x) := by
  have key : ∀ (d i : Nat) (m0 : Int), is.length - i = d → i ≤ is.length → ∃ m, Ev (fun k => slices_Max_uint8_uint8.l0 k is m0 (i : Int)) m ∧ (2 < m ↔ 2 < m0 ∨ ∃ j : Nat, i ≤ j ∧ ∃ h : j < is.length, 2 < is[j]) := by
    intro d
    induction d with
    | zero =>
      intro i m0 hd hi
      refine ⟨m0, Ev.step (f := fun _ => some m0) (fun k => ?_) (Ev.now m0), ⟨fun h => .inl h, fun h => ?_⟩⟩
      · simp only [slices_Max_uint8_uint8.l0]
        rw [if_neg (by omega)]
      · rcases h with h | ⟨j, h1, h2, _⟩
        · exact h
        · omega
    | succ d ih =>
      intro i m0 hd hi
      have hlt : i < is.length := by omega
      obtain ⟨m, hE, hI⟩ := ih (i + 1) (mx m0 (rd is (i : Int))) (by omega) (by omega)
      refine ⟨m, Ev.step (fun k => ?_) hE, ?_⟩
      · simp only [slices_Max_uint8_uint8.l0]
        rw [if_pos (by omega), if_pos (by omega), wrap_nat (by omega)]
      · rw [hI, rd_at hlt]
        have hmx : 2 < mx m0 is[i] ↔ 2 < m0 ∨ 2 < is[i] := by unfold mx; split <;> omega
        rw [hmx]
        constructor
        · rintro ((h | h) | ⟨j, h1, h2, h3⟩)
          · exact .inl h
          · exact .inr ⟨i, Nat.le_refl _, hlt, h⟩
          · exact .inr ⟨j, by omega, h2, h3⟩
        · rintro (h | ⟨j, h1, h2, h3⟩)
          · exact .inl (.inl h)
          · by_cases e : j = i
            · subst e
              exact .inl (.inr h3)
            · exact .inr ⟨j, by omega, h2, h3⟩
  have hlt : 0 < is.length := by omega
  obtain ⟨m, hE, hI⟩ := key (is.length - 1) 1 (rd is 0) (by omega) (by omega)
  refine ⟨m, Ev.congr (fun k => ?_) hE, ?_⟩
  · unfold slices_Max_uint8_uint8.f
    rw [if_neg (by omega), if_pos (by omega)]
    rfl
  · have e0 : rd is 0 = is[0] := rd_at hlt
    rw [hI, e0]
    constructor
    · rintro (h | ⟨j, _, h2, h3⟩)
      · exact ⟨_, List.getElem_mem _, h⟩
      · exact ⟨_, List.getElem_mem _, h3⟩
    · rintro ⟨x, hx, h⟩
      obtain ⟨j, hj, rfl⟩ := List.mem_iff_getElem.1 hx
      by_cases e : j = 0
      · subst e
        exact .inl h
      · exact .inr ⟨j, by omega, hj, h⟩
set_option maxHeartbeats 8000000 in
set_option maxRecDepth 100000 in
theorem strash_With.bad (a0 : Int) (A1 : Option Addr) (c1 : Nat) (l1 : List S41) (A2 : Option Addr) (c2 : Nat) (l2 : List S68) (A3 : Option Addr) (c3 : Nat) (l3 : List Int) (A4 : Option Addr) (c4 : Nat) (l4 : List Int) (A5 : Option Addr) (c5 : Nat) (l5 : List Int) (A6 : Option Addr) (c6 : Nat) (is : List Int) (w : World) (hr1 : Kd.C k41 w A1 l1.length l1) (hc1 : l1.length ≤ c1) (hr2 : Kd.C k68 w A2 l2.length l2) (hc2 : l2.length ≤ c2) (hr3 : Kd.C (Kd.int .u32) w A3 l3.length l3) (hc3 : l3.length ≤ c3) (hr4 : Kd.C (Kd.int .u32) w A4 l4.length l4) (hc4 : l4.length ≤ c4) (hr5 : Kd.C (Kd.int .u32) w A5 l5.length l5) (hc5 : l5.length ≤ c5) (hr6 : Kd.C (Kd.int .u8) w A6 is.length is) (hc6 : is.length ≤ c6)
  (hok : okIn l1 l2 = true) (hi : InU8 is) (hc : ¬ withOk a0 l1 l2 l3 l4 l5 is) :
  Calls Try.prog 43 #[.agg #[.int .i64 a0, .slice A1 l1.length c1, .slice A2 l2.length c2, .slice A3 l3.length c3, .slice A4 l4.length c4, .slice A5 l5.length c5], .slice A6 is.length c6] w fun e w' => e = .returned (.tuple #[.agg #[.int .i64 0, .slice none 0 0, .slice none 0 0, .slice none 0 0, .slice none 0 0, .slice none 0 0], .slice none 0 0, .int .i64 2]) ∧ Below w.heap.size w w' := by
 have hu26 := Try.underlying26
 have HMAY := Aside0.mk (fun W (h : MayAt a0 A1 c1 l1 A2 c2 l2 A3 c3 l3 A4 c4 l4 A5 c5 l5 w.heap.size w W) => norm_May.calls a0 A1 c1 l1 A2 c2 l2 A3 c3 l3 A4 c4 l4 A5 c5 l5 _ W h.h1 hc1 h.h2 hc2 h.h3 hc3 h.h4 hc4 h.h5 hc5 rfl)
 have HVARS := Aside0.mk (fun W (h : MayAt a0 A1 c1 l1 A2 c2 l2 A3 c3 l3 A4 c4 l4 A5 c5 l5 w.heap.size w W) => norm_Vars.calls a0 A1 c1 l1 A2 c2 l2 A3 c3 l3 A4 c4 l4 A5 c5 l5 (if mayB a0 l1 l2 l3 l4 l5 = true then varsW a0 l1.length l2.length else 0) W h.h1 hc1 h.h2 hc2 h.h3 hc3 h.h4 hc4 h.h5 hc5 (by
  simp only [norm_Vars.f, norm_May.f, norm_vars.f, Option.bind_some]
  split <;> rfl))
 have H0 := Aside0.mk (fun W (hb : Below w.heap.size w W) (hk : W.heap[w.heap.size]? = some (.cells #[.int .i64 a0, .slice A1 l1.length c1, .slice A2 l2.length c2, .slice A3 l3.length c3, .slice A4 l4.length c4, .slice A5 l5.length c5] 26 (0, 0))) => (⟨hb, hk, Kd.C_below hr1 hb, Kd.C_below hr2 hb, Kd.C_below hr3 hb, Kd.C_below hr4 hb, Kd.C_below hr5 hb⟩ : MayAt a0 A1 c1 l1 A2 c2 l2 A3 c3 l3 A4 c4 l4 A5 c5 l5 w.heap.size w W))
 have H6 := Aside0.mk hr6
 clear hr1 hr2 hr3 hr4 hr5 hr6
 cases hm : mayB a0 l1 l2 l3 l4 l5 with
 | false =>
  rw [hm] at HMAY HVARS
  clear hc hm hok
  go_enter Try.func43, Try.ntmps43
  go_wp2_with (first | ((with_reducible refine gate_dst (N := 2) rfl ?_); (try (refine gate_guard (by rfl) ?_; dsimp only)); refine box_event ?hg (N := 2) ?hd (cs := #[.int .i64 a0, .slice A1 l1.length c1, .slice A2 l2.length c2, .slice A3 l3.length c3, .slice A4 l4.length c4, .slice A5 l5.length c5]) (t := 26) ?hr ?_; (case hd => rfl); (case hg => rfl); (case hr => first | (go_simp; done) | (go_simp; rfl)); intro g hg_ w1 BK HB; subst hg_; have HM := Aside0.mk (H0.out _ HB BK); clear HB BK) | ((with_reducible refine gate_dst (N := 4) rfl ?_); (try (refine gate_guard (by rfl) ?_; dsimp only)); refine box_event ?hg (N := 4) ?hd (cs := #[.int .i64 0, .slice none 0 0, .slice none 0 0, .slice none 0 0, .slice none 0 0, .slice none 0 0]) (t := 26) ?hr ?_; (case hd => rfl); (case hg => rfl); (case hr => first | (go_simp; done) | (go_simp; rfl)); intro g4 hg_ w2 bk2 hb2; have HM2 := Aside0.mk (HM.out.step hb2); have G4 := Aside0.mk (show w.heap.size < g4 from by rw [hg_]; exact blk_lt HM.out.blk); have K4 := Aside0.mk bk2; clear hg_ hb2 bk2) | ((with_reducible refine gate_dst (N := 5) rfl ?_); (try (refine gate_guard (by rfl) ?_; dsimp only)); refine box_event ?hg (N := 5) ?hd (cs := #[.slice none 0 0]) (t := 24) ?hr ?_; (case hd => rfl); (case hg => rfl); (case hr => first | (go_simp; done) | (go_simp; rfl)); intro g5 hg_ w3 bk3 hb3; have HM3 := Aside0.mk (HM2.out.step hb3); have G5 := Aside0.mk (show w.heap.size ≤ g5 from by rw [hg_]; exact HM2.out.below.size); have K43 := Aside0.mk (blk_below K4.out hb3); have K5 := Aside0.mk bk3; clear hg_ hb3 bk3; have z0 : w3.cell? ⟨w.heap.size, 0, none⟩ = some (.int .i64 a0) := (blk_cell HM3.out.blk 0).trans rfl; have z1 : w3.cell? ⟨w.heap.size, 1, none⟩ = some (.slice A1 l1.length c1) := (blk_cell HM3.out.blk 1).trans rfl; have z2 : w3.cell? ⟨w.heap.size, 2, none⟩ = some (.slice A2 l2.length c2) := (blk_cell HM3.out.blk 2).trans rfl; have z3 : w3.cell? ⟨w.heap.size, 3, none⟩ = some (.slice A3 l3.length c3) := (blk_cell HM3.out.blk 3).trans rfl; have z4 : w3.cell? ⟨w.heap.size, 4, none⟩ = some (.slice A4 l4.length c4) := (blk_cell HM3.out.blk 4).trans rfl; have z5 : w3.cell? ⟨w.heap.size, 5, none⟩ = some (.slice A5 l5.length c5) := (blk_cell HM3.out.blk 5).trans rfl) | (go_at_call 92; refine (HMAY.out _ HM3.out).mono ?_; rintro e w4 ⟨rfl, hb⟩; have HM4 := Aside0.mk (HM3.out.step hb); have K44 := Aside0.mk (blk_below K43.out hb); have K54 := Aside0.mk (blk_below K5.out hb); clear hb; clear z0 z1 z2 z3 z4 z5; have z0 : w4.cell? ⟨w.heap.size, 0, none⟩ = some (.int .i64 a0) := (blk_cell HM4.out.blk 0).trans rfl; have z1 : w4.cell? ⟨w.heap.size, 1, none⟩ = some (.slice A1 l1.length c1) := (blk_cell HM4.out.blk 1).trans rfl; have z2 : w4.cell? ⟨w.heap.size, 2, none⟩ = some (.slice A2 l2.length c2) := (blk_cell HM4.out.blk 2).trans rfl; have z3 : w4.cell? ⟨w.heap.size, 3, none⟩ = some (.slice A3 l3.length c3) := (blk_cell HM4.out.blk 3).trans rfl; have z4 : w4.cell? ⟨w.heap.size, 4, none⟩ = some (.slice A4 l4.length c4) := (blk_cell HM4.out.blk 4).trans rfl; have z5 : w4.cell? ⟨w.heap.size, 5, none⟩ = some (.slice A5 l5.length c5) := (blk_cell HM4.out.blk 5).trans rfl; have y0 : w4.cell? ⟨g4, 0, none⟩ = some (.int .i64 0) := (blk_cell K44.out 0).trans rfl; have f0 := blk_frozen K44.out 0; have y1 : w4.cell? ⟨g4, 1, none⟩ = some (.slice none 0 0) := (blk_cell K44.out 1).trans rfl; have f1 := blk_frozen K44.out 1; have y2 : w4.cell? ⟨g4, 2, none⟩ = some (.slice none 0 0) := (blk_cell K44.out 2).trans rfl; have f2 := blk_frozen K44.out 2; have y3 : w4.cell? ⟨g4, 3, none⟩ = some (.slice none 0 0) := (blk_cell K44.out 3).trans rfl; have f3 := blk_frozen K44.out 3; have y4 : w4.cell? ⟨g4, 4, none⟩ = some (.slice none 0 0) := (blk_cell K44.out 4).trans rfl; have f4 := blk_frozen K44.out 4; have y5 : w4.cell? ⟨g4, 5, none⟩ = some (.slice none 0 0) := (blk_cell K44.out 5).trans rfl; have f5 := blk_frozen K44.out 5; have u0 : w4.cell? ⟨g5, 0, none⟩ = some (.slice none 0 0) := (blk_cell K54.out 0).trans rfl; have K4Y := K44; have K5Y := K54; have HMY := HM4; clear z0 z1 z2 z3 z4 z5) | ((with_reducible refine gate_store (t := 26) (p := .tmp 4) (x := .tmp 36) rfl ?_); refine skip_event (W' := ((((((w4).setCell ⟨g4, 0, none⟩ (.int .i64 0)).setCell ⟨g4, 1, none⟩ (.slice none 0 0)).setCell ⟨g4, 2, none⟩ (.slice none 0 0)).setCell ⟨g4, 3, none⟩ (.slice none 0 0)).setCell ⟨g4, 4, none⟩ (.slice none 0 0)).setCell ⟨g4, 5, none⟩ (.slice none 0 0)) ?hn ?hs ?hr ?_; (case hn => rfl); (case hs => rfl); (case hr => first | (go_simp; done) | (go_simp; rfl)); intro wx hw_; have KX4 := Aside0.mk (show wx.heap[g4]? = some (.cells #[.int .i64 0, .slice none 0 0, .slice none 0 0, .slice none 0 0, .slice none 0 0, .slice none 0 0] 26 (0, 0)) from by rw [hw_]; exact blk_set6 K4Y.out _ _ _ _ _ _); have KX5 := Aside0.mk (show wx.heap[g5]? = some (.cells #[.slice none 0 0] 24 (0, 0)) from by rw [hw_]; exact blk_far6 K5Y.out (blk_ne K5Y.out K4Y.out (by decide)) _ _ _ _ _ _); have HX := Aside0.mk (show Below w.heap.size w wx from by rw [hw_]; exact below_set6 HMY.out.below (Nat.le_of_lt G4.out) _ _ _ _ _ _); clear hw_ y0 y1 y2 y3 y4 y5 f0 f1 f2 f3 f4 f5 u0; have u0 : wx.cell? ⟨g5, 0, none⟩ = some (.slice none 0 0) := (blk_cell KX5.out 0).trans rfl; have v0 := blk_frozen KX5.out 0) | ((with_reducible refine gate_store (t := 24) (p := .tmp 5) (x := .const (.slice none 0 0)) rfl ?_); refine skip_event (W' := wx.setCell ⟨g5, 0, none⟩ (.slice none 0 0)) ?hn ?hs ?hr ?_; (case hn => rfl); (case hs => rfl); (case hr => first | (go_simp; done) | (go_simp; rfl)); intro wy hw_; have KY4 := Aside0.mk (show wy.heap[g4]? = some (.cells #[.int .i64 0, .slice none 0 0, .slice none 0 0, .slice none 0 0, .slice none 0 0, .slice none 0 0] 26 (0, 0)) from by rw [hw_]; exact blk_far KX4.out (p := ⟨g5, 0, none⟩) (blk_ne KX4.out KX5.out (by decide)) _); have KY5 := Aside0.mk (show wy.heap[g5]? = some (.cells #[.slice none 0 0] 24 (0, 0)) from by rw [hw_]; simpa using blk_set KX5.out 0 (.slice none 0 0)); have HY := Aside0.mk (show Below w.heap.size w wy from by rw [hw_]; exact HX.out.setCell (p := ⟨g5, 0, none⟩) G5.out _); clear hw_ u0 v0))
  refine bodyPost_ret (results43 _ wy g4 g5 #[.int .i64 0, .slice none 0 0, .slice none 0 0, .slice none 0 0, .slice none 0 0, .slice none 0 0] (.slice none 0 0) rfl KY4.out rfl rfl KY5.out) rfl ?_
  exact ⟨rfl, HY.out⟩
 | true =>
  rw [hm] at HMAY HVARS
  rw [if_pos rfl] at HVARS
  obtain ⟨HVA, hV⟩ := valid_of_may hok hm
  have hpos := HVA.pos
  have hle := HVA.le
  rw [hV] at HVARS
  generalize hVV : a0 + (l1.length : Int) + (l2.length : Int) = V at HVARS hle
  have es1 : IntKind.i64.wrap (V + 1) = V + 1 := IntWalk.i64_in _ (by omega)
  have es2 : wrap64 (V + 1) = V + 1 := wrap64_id (by omega) (by omega)
  by_cases hl : (is.length : Int) = V + 1
  ·
   have hl1 : ((is.length : Int) != V + 1) = false := bne_eq_false_iff_eq.mpr hl
   have hpz : (0 : Int) < (is.length : Int) := by omega
   obtain ⟨ad, e6, x6⟩ := Kd.at_int H6.out 0 (by omega) (by omega)
   cases e6
   replace x6 : w.cell? ad = some (.int .u8 (rd is 0)) := by simpa [add_zero_addr] using x6
   by_cases h0 : rd is 0 = 0
   ·
    by_cases ha : is.all (fun x => decide (x ≤ 2)) = true
    · exact absurd ⟨hm, by rw [hVV]; exact hl, h0, ha⟩ hc
    ·
     obtain ⟨m, hmE, hmI⟩ := max_is is (by omega) (by omega)
     obtain ⟨k, hmk⟩ := hmE.rounds
     have hm2 : 2 < m := hmI.2 (by
      simp only [List.all_eq_true, decide_eq_true_eq, Classical.not_forall] at ha
      obtain ⟨x, hx, h⟩ := ha
      exact ⟨x, hx, by omega⟩)
     have HMAX := Aside0.mk (fun W (hb : Below w.heap.size w W) => slices_Max_uint8_uint8.calls k (some ad) c6 is m W (Kd.C_below H6.out hb) hc6 hmk)
     have hm3 : decide (2 < m) = true := decide_eq_true hm2
     have h01 : (rd is 0 != 0) = false := bne_eq_false_iff_eq.mpr h0
     have X6 := Aside0.mk x6
     clear hc hm hok hl h0 ha hmk hmI hm2 hVV HVA hV x6
     go_enter Try.func43, Try.ntmps43
     go_wp2_with (first | ((with_reducible refine gate_dst (N := 2) rfl ?_); (try (refine gate_guard (by rfl) ?_; dsimp only)); refine box_event ?hg (N := 2) ?hd (cs := #[.int .i64 a0, .slice A1 l1.length c1, .slice A2 l2.length c2, .slice A3 l3.length c3, .slice A4 l4.length c4, .slice A5 l5.length c5]) (t := 26) ?hr ?_; (case hd => rfl); (case hg => rfl); (case hr => first | (go_simp; done) | (go_simp; rfl)); intro g hg_ w1 BK HB; subst hg_; have HM := Aside0.mk (H0.out _ HB BK); clear HB BK) | ((with_reducible refine gate_dst (N := 4) rfl ?_); (try (refine gate_guard (by rfl) ?_; dsimp only)); refine box_event ?hg (N := 4) ?hd (cs := #[.int .i64 0, .slice none 0 0, .slice none 0 0, .slice none 0 0, .slice none 0 0, .slice none 0 0]) (t := 26) ?hr ?_; (case hd => rfl); (case hg => rfl); (case hr => first | (go_simp; done) | (go_simp; rfl)); intro g4 hg_ w2 bk2 hb2; have HM2 := Aside0.mk (HM.out.step hb2); have G4 := Aside0.mk (show w.heap.size < g4 from by rw [hg_]; exact blk_lt HM.out.blk); have K4 := Aside0.mk bk2; clear hg_ hb2 bk2) | ((with_reducible refine gate_dst (N := 5) rfl ?_); (try (refine gate_guard (by rfl) ?_; dsimp only)); refine box_event ?hg (N := 5) ?hd (cs := #[.slice none 0 0]) (t := 24) ?hr ?_; (case hd => rfl); (case hg => rfl); (case hr => first | (go_simp; done) | (go_simp; rfl)); intro g5 hg_ w3 bk3 hb3; have HM3 := Aside0.mk (HM2.out.step hb3); have G5 := Aside0.mk (show w.heap.size ≤ g5 from by rw [hg_]; exact HM2.out.below.size); have K43 := Aside0.mk (blk_below K4.out hb3); have K5 := Aside0.mk bk3; clear hg_ hb3 bk3; have z0 : w3.cell? ⟨w.heap.size, 0, none⟩ = some (.int .i64 a0) := (blk_cell HM3.out.blk 0).trans rfl; have z1 : w3.cell? ⟨w.heap.size, 1, none⟩ = some (.slice A1 l1.length c1) := (blk_cell HM3.out.blk 1).trans rfl; have z2 : w3.cell? ⟨w.heap.size, 2, none⟩ = some (.slice A2 l2.length c2) := (blk_cell HM3.out.blk 2).trans rfl; have z3 : w3.cell? ⟨w.heap.size, 3, none⟩ = some (.slice A3 l3.length c3) := (blk_cell HM3.out.blk 3).trans rfl; have z4 : w3.cell? ⟨w.heap.size, 4, none⟩ = some (.slice A4 l4.length c4) := (blk_cell HM3.out.blk 4).trans rfl; have z5 : w3.cell? ⟨w.heap.size, 5, none⟩ = some (.slice A5 l5.length c5) := (blk_cell HM3.out.blk 5).trans rfl) | (go_at_call 92; refine (HMAY.out _ HM3.out).mono ?_; rintro e w4 ⟨rfl, hb⟩; have HM4 := Aside0.mk (HM3.out.step hb); have K44 := Aside0.mk (blk_below K43.out hb); have K54 := Aside0.mk (blk_below K5.out hb); clear hb; clear z0 z1 z2 z3 z4 z5; have z0 : w4.cell? ⟨w.heap.size, 0, none⟩ = some (.int .i64 a0) := (blk_cell HM4.out.blk 0).trans rfl; have z1 : w4.cell? ⟨w.heap.size, 1, none⟩ = some (.slice A1 l1.length c1) := (blk_cell HM4.out.blk 1).trans rfl; have z2 : w4.cell? ⟨w.heap.size, 2, none⟩ = some (.slice A2 l2.length c2) := (blk_cell HM4.out.blk 2).trans rfl; have z3 : w4.cell? ⟨w.heap.size, 3, none⟩ = some (.slice A3 l3.length c3) := (blk_cell HM4.out.blk 3).trans rfl; have z4 : w4.cell? ⟨w.heap.size, 4, none⟩ = some (.slice A4 l4.length c4) := (blk_cell HM4.out.blk 4).trans rfl; have z5 : w4.cell? ⟨w.heap.size, 5, none⟩ = some (.slice A5 l5.length c5) := (blk_cell HM4.out.blk 5).trans rfl) | (go_at_call 101; refine (HVARS.out _ HM4.out).mono ?_; rintro e w5 ⟨rfl, hb⟩; have HM5 := Aside0.mk (HM4.out.step hb); have K45 := Aside0.mk (blk_below K44.out hb); have K55 := Aside0.mk (blk_below K54.out hb); clear hb; clear z0 z1 z2 z3 z4 z5; have z0 : w5.cell? ⟨w.heap.size, 0, none⟩ = some (.int .i64 a0) := (blk_cell HM5.out.blk 0).trans rfl; have z1 : w5.cell? ⟨w.heap.size, 1, none⟩ = some (.slice A1 l1.length c1) := (blk_cell HM5.out.blk 1).trans rfl; have z2 : w5.cell? ⟨w.heap.size, 2, none⟩ = some (.slice A2 l2.length c2) := (blk_cell HM5.out.blk 2).trans rfl; have z3 : w5.cell? ⟨w.heap.size, 3, none⟩ = some (.slice A3 l3.length c3) := (blk_cell HM5.out.blk 3).trans rfl; have z4 : w5.cell? ⟨w.heap.size, 4, none⟩ = some (.slice A4 l4.length c4) := (blk_cell HM5.out.blk 4).trans rfl; have z5 : w5.cell? ⟨w.heap.size, 5, none⟩ = some (.slice A5 l5.length c5) := (blk_cell HM5.out.blk 5).trans rfl; have x6 := (HM5.out.below.cell (World.block_lt_of_cell? w _ X6.out)).trans X6.out) | (go_at_call 102; refine (HMAX.out _ HM5.out.below).mono ?_; rintro e w6 ⟨rfl, hb⟩; have HM6 := Aside0.mk (HM5.out.step hb); have K46 := Aside0.mk (blk_below K45.out hb); have K56 := Aside0.mk (blk_below K55.out hb); clear hb; clear z0 z1 z2 z3 z4 z5; have z0 : w6.cell? ⟨w.heap.size, 0, none⟩ = some (.int .i64 a0) := (blk_cell HM6.out.blk 0).trans rfl; have z1 : w6.cell? ⟨w.heap.size, 1, none⟩ = some (.slice A1 l1.length c1) := (blk_cell HM6.out.blk 1).trans rfl; have z2 : w6.cell? ⟨w.heap.size, 2, none⟩ = some (.slice A2 l2.length c2) := (blk_cell HM6.out.blk 2).trans rfl; have z3 : w6.cell? ⟨w.heap.size, 3, none⟩ = some (.slice A3 l3.length c3) := (blk_cell HM6.out.blk 3).trans rfl; have z4 : w6.cell? ⟨w.heap.size, 4, none⟩ = some (.slice A4 l4.length c4) := (blk_cell HM6.out.blk 4).trans rfl; have z5 : w6.cell? ⟨w.heap.size, 5, none⟩ = some (.slice A5 l5.length c5) := (blk_cell HM6.out.blk 5).trans rfl; clear x6; have y0 : w6.cell? ⟨g4, 0, none⟩ = some (.int .i64 0) := (blk_cell K46.out 0).trans rfl; have f0 := blk_frozen K46.out 0; have y1 : w6.cell? ⟨g4, 1, none⟩ = some (.slice none 0 0) := (blk_cell K46.out 1).trans rfl; have f1 := blk_frozen K46.out 1; have y2 : w6.cell? ⟨g4, 2, none⟩ = some (.slice none 0 0) := (blk_cell K46.out 2).trans rfl; have f2 := blk_frozen K46.out 2; have y3 : w6.cell? ⟨g4, 3, none⟩ = some (.slice none 0 0) := (blk_cell K46.out 3).trans rfl; have f3 := blk_frozen K46.out 3; have y4 : w6.cell? ⟨g4, 4, none⟩ = some (.slice none 0 0) := (blk_cell K46.out 4).trans rfl; have f4 := blk_frozen K46.out 4; have y5 : w6.cell? ⟨g4, 5, none⟩ = some (.slice none 0 0) := (blk_cell K46.out 5).trans rfl; have f5 := blk_frozen K46.out 5; have u0 : w6.cell? ⟨g5, 0, none⟩ = some (.slice none 0 0) := (blk_cell K56.out 0).trans rfl; have K4Y := K46; have K5Y := K56; have HMY := HM6; clear z0 z1 z2 z3 z4 z5) | ((with_reducible refine gate_store (t := 26) (p := .tmp 4) (x := .tmp 36) rfl ?_); refine skip_event (W' := ((((((w6).setCell ⟨g4, 0, none⟩ (.int .i64 0)).setCell ⟨g4, 1, none⟩ (.slice none 0 0)).setCell ⟨g4, 2, none⟩ (.slice none 0 0)).setCell ⟨g4, 3, none⟩ (.slice none 0 0)).setCell ⟨g4, 4, none⟩ (.slice none 0 0)).setCell ⟨g4, 5, none⟩ (.slice none 0 0)) ?hn ?hs ?hr ?_; (case hn => rfl); (case hs => rfl); (case hr => first | (go_simp; done) | (go_simp; rfl)); intro wx hw_; have KX4 := Aside0.mk (show wx.heap[g4]? = some (.cells #[.int .i64 0, .slice none 0 0, .slice none 0 0, .slice none 0 0, .slice none 0 0, .slice none 0 0] 26 (0, 0)) from by rw [hw_]; exact blk_set6 K4Y.out _ _ _ _ _ _); have KX5 := Aside0.mk (show wx.heap[g5]? = some (.cells #[.slice none 0 0] 24 (0, 0)) from by rw [hw_]; exact blk_far6 K5Y.out (blk_ne K5Y.out K4Y.out (by decide)) _ _ _ _ _ _); have HX := Aside0.mk (show Below w.heap.size w wx from by rw [hw_]; exact below_set6 HMY.out.below (Nat.le_of_lt G4.out) _ _ _ _ _ _); clear hw_ y0 y1 y2 y3 y4 y5 f0 f1 f2 f3 f4 f5 u0; have u0 : wx.cell? ⟨g5, 0, none⟩ = some (.slice none 0 0) := (blk_cell KX5.out 0).trans rfl; have v0 := blk_frozen KX5.out 0) | ((with_reducible refine gate_store (t := 24) (p := .tmp 5) (x := .const (.slice none 0 0)) rfl ?_); refine skip_event (W' := wx.setCell ⟨g5, 0, none⟩ (.slice none 0 0)) ?hn ?hs ?hr ?_; (case hn => rfl); (case hs => rfl); (case hr => first | (go_simp; done) | (go_simp; rfl)); intro wy hw_; have KY4 := Aside0.mk (show wy.heap[g4]? = some (.cells #[.int .i64 0, .slice none 0 0, .slice none 0 0, .slice none 0 0, .slice none 0 0, .slice none 0 0] 26 (0, 0)) from by rw [hw_]; exact blk_far KX4.out (p := ⟨g5, 0, none⟩) (blk_ne KX4.out KX5.out (by decide)) _); have KY5 := Aside0.mk (show wy.heap[g5]? = some (.cells #[.slice none 0 0] 24 (0, 0)) from by rw [hw_]; simpa using blk_set KX5.out 0 (.slice none 0 0)); have HY := Aside0.mk (show Below w.heap.size w wy from by rw [hw_]; exact HX.out.setCell (p := ⟨g5, 0, none⟩) G5.out _); clear hw_ u0 v0))
     refine bodyPost_ret (results43 _ wy g4 g5 #[.int .i64 0, .slice none 0 0, .slice none 0 0, .slice none 0 0, .slice none 0 0, .slice none 0 0] (.slice none 0 0) rfl KY4.out rfl rfl KY5.out) rfl ?_
     exact ⟨rfl, HY.out⟩
   ·
    have h01 : (rd is 0 != 0) = true := bne_iff_ne.mpr h0
    have X6 := Aside0.mk x6
    clear hc hm hok hl h0 hVV HVA hV x6
    go_enter Try.func43, Try.ntmps43
    go_wp2_with (first | ((with_reducible refine gate_dst (N := 2) rfl ?_); (try (refine gate_guard (by rfl) ?_; dsimp only)); refine box_event ?hg (N := 2) ?hd (cs := #[.int .i64 a0, .slice A1 l1.length c1, .slice A2 l2.length c2, .slice A3 l3.length c3, .slice A4 l4.length c4, .slice A5 l5.length c5]) (t := 26) ?hr ?_; (case hd => rfl); (case hg => rfl); (case hr => first | (go_simp; done) | (go_simp; rfl)); intro g hg_ w1 BK HB; subst hg_; have HM := Aside0.mk (H0.out _ HB BK); clear HB BK) | ((with_reducible refine gate_dst (N := 4) rfl ?_); (try (refine gate_guard (by rfl) ?_; dsimp only)); refine box_event ?hg (N := 4) ?hd (cs := #[.int .i64 0, .slice none 0 0, .slice none 0 0, .slice none 0 0, .slice none 0 0, .slice none 0 0]) (t := 26) ?hr ?_; (case hd => rfl); (case hg => rfl); (case hr => first | (go_simp; done) | (go_simp; rfl)); intro g4 hg_ w2 bk2 hb2; have HM2 := Aside0.mk (HM.out.step hb2); have G4 := Aside0.mk (show w.heap.size < g4 from by rw [hg_]; exact blk_lt HM.out.blk); have K4 := Aside0.mk bk2; clear hg_ hb2 bk2) | ((with_reducible refine gate_dst (N := 5) rfl ?_); (try (refine gate_guard (by rfl) ?_; dsimp only)); refine box_event ?hg (N := 5) ?hd (cs := #[.slice none 0 0]) (t := 24) ?hr ?_; (case hd => rfl); (case hg => rfl); (case hr => first | (go_simp; done) | (go_simp; rfl)); intro g5 hg_ w3 bk3 hb3; have HM3 := Aside0.mk (HM2.out.step hb3); have G5 := Aside0.mk (show w.heap.size ≤ g5 from by rw [hg_]; exact HM2.out.below.size); have K43 := Aside0.mk (blk_below K4.out hb3); have K5 := Aside0.mk bk3; clear hg_ hb3 bk3; have z0 : w3.cell? ⟨w.heap.size, 0, none⟩ = some (.int .i64 a0) := (blk_cell HM3.out.blk 0).trans rfl; have z1 : w3.cell? ⟨w.heap.size, 1, none⟩ = some (.slice A1 l1.length c1) := (blk_cell HM3.out.blk 1).trans rfl; have z2 : w3.cell? ⟨w.heap.size, 2, none⟩ = some (.slice A2 l2.length c2) := (blk_cell HM3.out.blk 2).trans rfl; have z3 : w3.cell? ⟨w.heap.size, 3, none⟩ = some (.slice A3 l3.length c3) := (blk_cell HM3.out.blk 3).trans rfl; have z4 : w3.cell? ⟨w.heap.size, 4, none⟩ = some (.slice A4 l4.length c4) := (blk_cell HM3.out.blk 4).trans rfl; have z5 : w3.cell? ⟨w.heap.size, 5, none⟩ = some (.slice A5 l5.length c5) := (blk_cell HM3.out.blk 5).trans rfl) | (go_at_call 92; refine (HMAY.out _ HM3.out).mono ?_; rintro e w4 ⟨rfl, hb⟩; have HM4 := Aside0.mk (HM3.out.step hb); have K44 := Aside0.mk (blk_below K43.out hb); have K54 := Aside0.mk (blk_below K5.out hb); clear hb; clear z0 z1 z2 z3 z4 z5; have z0 : w4.cell? ⟨w.heap.size, 0, none⟩ = some (.int .i64 a0) := (blk_cell HM4.out.blk 0).trans rfl; have z1 : w4.cell? ⟨w.heap.size, 1, none⟩ = some (.slice A1 l1.length c1) := (blk_cell HM4.out.blk 1).trans rfl; have z2 : w4.cell? ⟨w.heap.size, 2, none⟩ = some (.slice A2 l2.length c2) := (blk_cell HM4.out.blk 2).trans rfl; have z3 : w4.cell? ⟨w.heap.size, 3, none⟩ = some (.slice A3 l3.length c3) := (blk_cell HM4.out.blk 3).trans rfl; have z4 : w4.cell? ⟨w.heap.size, 4, none⟩ = some (.slice A4 l4.length c4) := (blk_cell HM4.out.blk 4).trans rfl; have z5 : w4.cell? ⟨w.heap.size, 5, none⟩ = some (.slice A5 l5.length c5) := (blk_cell HM4.out.blk 5).trans rfl) | (go_at_call 101; refine (HVARS.out _ HM4.out).mono ?_; rintro e w5 ⟨rfl, hb⟩; have HM5 := Aside0.mk (HM4.out.step hb); have K45 := Aside0.mk (blk_below K44.out hb); have K55 := Aside0.mk (blk_below K54.out hb); clear hb; clear z0 z1 z2 z3 z4 z5; have z0 : w5.cell? ⟨w.heap.size, 0, none⟩ = some (.int .i64 a0) := (blk_cell HM5.out.blk 0).trans rfl; have z1 : w5.cell? ⟨w.heap.size, 1, none⟩ = some (.slice A1 l1.length c1) := (blk_cell HM5.out.blk 1).trans rfl; have z2 : w5.cell? ⟨w.heap.size, 2, none⟩ = some (.slice A2 l2.length c2) := (blk_cell HM5.out.blk 2).trans rfl; have z3 : w5.cell? ⟨w.heap.size, 3, none⟩ = some (.slice A3 l3.length c3) := (blk_cell HM5.out.blk 3).trans rfl; have z4 : w5.cell? ⟨w.heap.size, 4, none⟩ = some (.slice A4 l4.length c4) := (blk_cell HM5.out.blk 4).trans rfl; have z5 : w5.cell? ⟨w.heap.size, 5, none⟩ = some (.slice A5 l5.length c5) := (blk_cell HM5.out.blk 5).trans rfl; have x6 := (HM5.out.below.cell (World.block_lt_of_cell? w _ X6.out)).trans X6.out; have y0 : w5.cell? ⟨g4, 0, none⟩ = some (.int .i64 0) := (blk_cell K45.out 0).trans rfl; have f0 := blk_frozen K45.out 0; have y1 : w5.cell? ⟨g4, 1, none⟩ = some (.slice none 0 0) := (blk_cell K45.out 1).trans rfl; have f1 := blk_frozen K45.out 1; have y2 : w5.cell? ⟨g4, 2, none⟩ = some (.slice none 0 0) := (blk_cell K45.out 2).trans rfl; have f2 := blk_frozen K45.out 2; have y3 : w5.cell? ⟨g4, 3, none⟩ = some (.slice none 0 0) := (blk_cell K45.out 3).trans rfl; have f3 := blk_frozen K45.out 3; have y4 : w5.cell? ⟨g4, 4, none⟩ = some (.slice none 0 0) := (blk_cell K45.out 4).trans rfl; have f4 := blk_frozen K45.out 4; have y5 : w5.cell? ⟨g4, 5, none⟩ = some (.slice none 0 0) := (blk_cell K45.out 5).trans rfl; have f5 := blk_frozen K45.out 5; have u0 : w5.cell? ⟨g5, 0, none⟩ = some (.slice none 0 0) := (blk_cell K55.out 0).trans rfl; have K4Y := K45; have K5Y := K55; have HMY := HM5; clear z0 z1 z2 z3 z4 z5) | ((with_reducible refine gate_store (t := 26) (p := .tmp 4) (x := .tmp 36) rfl ?_); refine skip_event (W' := ((((((w5).setCell ⟨g4, 0, none⟩ (.int .i64 0)).setCell ⟨g4, 1, none⟩ (.slice none 0 0)).setCell ⟨g4, 2, none⟩ (.slice none 0 0)).setCell ⟨g4, 3, none⟩ (.slice none 0 0)).setCell ⟨g4, 4, none⟩ (.slice none 0 0)).setCell ⟨g4, 5, none⟩ (.slice none 0 0)) ?hn ?hs ?hr ?_; (case hn => rfl); (case hs => rfl); (case hr => first | (go_simp; done) | (go_simp; rfl)); intro wx hw_; have KX4 := Aside0.mk (show wx.heap[g4]? = some (.cells #[.int .i64 0, .slice none 0 0, .slice none 0 0, .slice none 0 0, .slice none 0 0, .slice none 0 0] 26 (0, 0)) from by rw [hw_]; exact blk_set6 K4Y.out _ _ _ _ _ _); have KX5 := Aside0.mk (show wx.heap[g5]? = some (.cells #[.slice none 0 0] 24 (0, 0)) from by rw [hw_]; exact blk_far6 K5Y.out (blk_ne K5Y.out K4Y.out (by decide)) _ _ _ _ _ _); have HX := Aside0.mk (show Below w.heap.size w wx from by rw [hw_]; exact below_set6 HMY.out.below (Nat.le_of_lt G4.out) _ _ _ _ _ _); clear hw_ y0 y1 y2 y3 y4 y5 f0 f1 f2 f3 f4 f5 u0; have u0 : wx.cell? ⟨g5, 0, none⟩ = some (.slice none 0 0) := (blk_cell KX5.out 0).trans rfl; have v0 := blk_frozen KX5.out 0) | ((with_reducible refine gate_store (t := 24) (p := .tmp 5) (x := .const (.slice none 0 0)) rfl ?_); refine skip_event (W' := wx.setCell ⟨g5, 0, none⟩ (.slice none 0 0)) ?hn ?hs ?hr ?_; (case hn => rfl); (case hs => rfl); (case hr => first | (go_simp; done) | (go_simp; rfl)); intro wy hw_; have KY4 := Aside0.mk (show wy.heap[g4]? = some (.cells #[.int .i64 0, .slice none 0 0, .slice none 0 0, .slice none 0 0, .slice none 0 0, .slice none 0 0] 26 (0, 0)) from by rw [hw_]; exact blk_far KX4.out (p := ⟨g5, 0, none⟩) (blk_ne KX4.out KX5.out (by decide)) _); have KY5 := Aside0.mk (show wy.heap[g5]? = some (.cells #[.slice none 0 0] 24 (0, 0)) from by rw [hw_]; simpa using blk_set KX5.out 0 (.slice none 0 0)); have HY := Aside0.mk (show Below w.heap.size w wy from by rw [hw_]; exact HX.out.setCell (p := ⟨g5, 0, none⟩) G5.out _); clear hw_ u0 v0))
    refine bodyPost_ret (results43 _ wy g4 g5 #[.int .i64 0, .slice none 0 0, .slice none 0 0, .slice none 0 0, .slice none 0 0, .slice none 0 0] (.slice none 0 0) rfl KY4.out rfl rfl KY5.out) rfl ?_
    exact ⟨rfl, HY.out⟩
  ·
   have hl1 : ((is.length : Int) != V + 1) = true := bne_iff_ne.mpr hl
   clear hc hm hok hl hVV HVA hV
   go_enter Try.func43, Try.ntmps43
   go_wp2_with (first | ((with_reducible refine gate_dst (N := 2) rfl ?_); (try (refine gate_guard (by rfl) ?_; dsimp only)); refine box_event ?hg (N := 2) ?hd (cs := #[.int .i64 a0, .slice A1 l1.length c1, .slice A2 l2.length c2, .slice A3 l3.length c3, .slice A4 l4.length c4, .slice A5 l5.length c5]) (t := 26) ?hr ?_; (case hd => rfl); (case hg => rfl); (case hr => first | (go_simp; done) | (go_simp; rfl)); intro g hg_ w1 BK HB; subst hg_; have HM := Aside0.mk (H0.out _ HB BK); clear HB BK) | ((with_reducible refine gate_dst (N := 4) rfl ?_); (try (refine gate_guard (by rfl) ?_; dsimp only)); refine box_event ?hg (N := 4) ?hd (cs := #[.int .i64 0, .slice none 0 0, .slice none 0 0, .slice none 0 0, .slice none 0 0, .slice none 0 0]) (t := 26) ?hr ?_; (case hd => rfl); (case hg => rfl); (case hr => first | (go_simp; done) | (go_simp; rfl)); intro g4 hg_ w2 bk2 hb2; have HM2 := Aside0.mk (HM.out.step hb2); have G4 := Aside0.mk (show w.heap.size < g4 from by rw [hg_]; exact blk_lt HM.out.blk); have K4 := Aside0.mk bk2; clear hg_ hb2 bk2) | ((with_reducible refine gate_dst (N := 5) rfl ?_); (try (refine gate_guard (by rfl) ?_; dsimp only)); refine box_event ?hg (N := 5) ?hd (cs := #[.slice none 0 0]) (t := 24) ?hr ?_; (case hd => rfl); (case hg => rfl); (case hr => first | (go_simp; done) | (go_simp; rfl)); intro g5 hg_ w3 bk3 hb3; have HM3 := Aside0.mk (HM2.out.step hb3); have G5 := Aside0.mk (show w.heap.size ≤ g5 from by rw [hg_]; exact HM2.out.below.size); have K43 := Aside0.mk (blk_below K4.out hb3); have K5 := Aside0.mk bk3; clear hg_ hb3 bk3; have z0 : w3.cell? ⟨w.heap.size, 0, none⟩ = some (.int .i64 a0) := (blk_cell HM3.out.blk 0).trans rfl; have z1 : w3.cell? ⟨w.heap.size, 1, none⟩ = some (.slice A1 l1.length c1) := (blk_cell HM3.out.blk 1).trans rfl; have z2 : w3.cell? ⟨w.heap.size, 2, none⟩ = some (.slice A2 l2.length c2) := (blk_cell HM3.out.blk 2).trans rfl; have z3 : w3.cell? ⟨w.heap.size, 3, none⟩ = some (.slice A3 l3.length c3) := (blk_cell HM3.out.blk 3).trans rfl; have z4 : w3.cell? ⟨w.heap.size, 4, none⟩ = some (.slice A4 l4.length c4) := (blk_cell HM3.out.blk 4).trans rfl; have z5 : w3.cell? ⟨w.heap.size, 5, none⟩ = some (.slice A5 l5.length c5) := (blk_cell HM3.out.blk 5).trans rfl) | (go_at_call 92; refine (HMAY.out _ HM3.out).mono ?_; rintro e w4 ⟨rfl, hb⟩; have HM4 := Aside0.mk (HM3.out.step hb); have K44 := Aside0.mk (blk_below K43.out hb); have K54 := Aside0.mk (blk_below K5.out hb); clear hb; clear z0 z1 z2 z3 z4 z5; have z0 : w4.cell? ⟨w.heap.size, 0, none⟩ = some (.int .i64 a0) := (blk_cell HM4.out.blk 0).trans rfl; have z1 : w4.cell? ⟨w.heap.size, 1, none⟩ = some (.slice A1 l1.length c1) := (blk_cell HM4.out.blk 1).trans rfl; have z2 : w4.cell? ⟨w.heap.size, 2, none⟩ = some (.slice A2 l2.length c2) := (blk_cell HM4.out.blk 2).trans rfl; have z3 : w4.cell? ⟨w.heap.size, 3, none⟩ = some (.slice A3 l3.length c3) := (blk_cell HM4.out.blk 3).trans rfl; have z4 : w4.cell? ⟨w.heap.size, 4, none⟩ = some (.slice A4 l4.length c4) := (blk_cell HM4.out.blk 4).trans rfl; have z5 : w4.cell? ⟨w.heap.size, 5, none⟩ = some (.slice A5 l5.length c5) := (blk_cell HM4.out.blk 5).trans rfl) | (go_at_call 101; refine (HVARS.out _ HM4.out).mono ?_; rintro e w5 ⟨rfl, hb⟩; have HM5 := Aside0.mk (HM4.out.step hb); have K45 := Aside0.mk (blk_below K44.out hb); have K55 := Aside0.mk (blk_below K54.out hb); clear hb; clear z0 z1 z2 z3 z4 z5; have z0 : w5.cell? ⟨w.heap.size, 0, none⟩ = some (.int .i64 a0) := (blk_cell HM5.out.blk 0).trans rfl; have z1 : w5.cell? ⟨w.heap.size, 1, none⟩ = some (.slice A1 l1.length c1) := (blk_cell HM5.out.blk 1).trans rfl; have z2 : w5.cell? ⟨w.heap.size, 2, none⟩ = some (.slice A2 l2.length c2) := (blk_cell HM5.out.blk 2).trans rfl; have z3 : w5.cell? ⟨w.heap.size, 3, none⟩ = some (.slice A3 l3.length c3) := (blk_cell HM5.out.blk 3).trans rfl; have z4 : w5.cell? ⟨w.heap.size, 4, none⟩ = some (.slice A4 l4.length c4) := (blk_cell HM5.out.blk 4).trans rfl; have z5 : w5.cell? ⟨w.heap.size, 5, none⟩ = some (.slice A5 l5.length c5) := (blk_cell HM5.out.blk 5).trans rfl; have y0 : w5.cell? ⟨g4, 0, none⟩ = some (.int .i64 0) := (blk_cell K45.out 0).trans rfl; have f0 := blk_frozen K45.out 0; have y1 : w5.cell? ⟨g4, 1, none⟩ = some (.slice none 0 0) := (blk_cell K45.out 1).trans rfl; have f1 := blk_frozen K45.out 1; have y2 : w5.cell? ⟨g4, 2, none⟩ = some (.slice none 0 0) := (blk_cell K45.out 2).trans rfl; have f2 := blk_frozen K45.out 2; have y3 : w5.cell? ⟨g4, 3, none⟩ = some (.slice none 0 0) := (blk_cell K45.out 3).trans rfl; have f3 := blk_frozen K45.out 3; have y4 : w5.cell? ⟨g4, 4, none⟩ = some (.slice none 0 0) := (blk_cell K45.out 4).trans rfl; have f4 := blk_frozen K45.out 4; have y5 : w5.cell? ⟨g4, 5, none⟩ = some (.slice none 0 0) := (blk_cell K45.out 5).trans rfl; have f5 := blk_frozen K45.out 5; have u0 : w5.cell? ⟨g5, 0, none⟩ = some (.slice none 0 0) := (blk_cell K55.out 0).trans rfl; have K4Y := K45; have K5Y := K55; have HMY := HM5; clear z0 z1 z2 z3 z4 z5) | ((with_reducible refine gate_store (t := 26) (p := .tmp 4) (x := .tmp 36) rfl ?_); refine skip_event (W' := ((((((w5).setCell ⟨g4, 0, none⟩ (.int .i64 0)).setCell ⟨g4, 1, none⟩ (.slice none 0 0)).setCell ⟨g4, 2, none⟩ (.slice none 0 0)).setCell ⟨g4, 3, none⟩ (.slice none 0 0)).setCell ⟨g4, 4, none⟩ (.slice none 0 0)).setCell ⟨g4, 5, none⟩ (.slice none 0 0)) ?hn ?hs ?hr ?_; (case hn => rfl); (case hs => rfl); (case hr => first | (go_simp; done) | (go_simp; rfl)); intro wx hw_; have KX4 := Aside0.mk (show wx.heap[g4]? = some (.cells #[.int .i64 0, .slice none 0 0, .slice none 0 0, .slice none 0 0, .slice none 0 0, .slice none 0 0] 26 (0, 0)) from by rw [hw_]; exact blk_set6 K4Y.out _ _ _ _ _ _); have KX5 := Aside0.mk (show wx.heap[g5]? = some (.cells #[.slice none 0 0] 24 (0, 0)) from by rw [hw_]; exact blk_far6 K5Y.out (blk_ne K5Y.out K4Y.out (by decide)) _ _ _ _ _ _); have HX := Aside0.mk (show Below w.heap.size w wx from by rw [hw_]; exact below_set6 HMY.out.below (Nat.le_of_lt G4.out) _ _ _ _ _ _); clear hw_ y0 y1 y2 y3 y4 y5 f0 f1 f2 f3 f4 f5 u0; have u0 : wx.cell? ⟨g5, 0, none⟩ = some (.slice none 0 0) := (blk_cell KX5.out 0).trans rfl; have v0 := blk_frozen KX5.out 0) | ((with_reducible refine gate_store (t := 24) (p := .tmp 5) (x := .const (.slice none 0 0)) rfl ?_); refine skip_event (W' := wx.setCell ⟨g5, 0, none⟩ (.slice none 0 0)) ?hn ?hs ?hr ?_; (case hn => rfl); (case hs => rfl); (case hr => first | (go_simp; done) | (go_simp; rfl)); intro wy hw_; have KY4 := Aside0.mk (show wy.heap[g4]? = some (.cells #[.int .i64 0, .slice none 0 0, .slice none 0 0, .slice none 0 0, .slice none 0 0, .slice none 0 0] 26 (0, 0)) from by rw [hw_]; exact blk_far KX4.out (p := ⟨g5, 0, none⟩) (blk_ne KX4.out KX5.out (by decide)) _); have KY5 := Aside0.mk (show wy.heap[g5]? = some (.cells #[.slice none 0 0] 24 (0, 0)) from by rw [hw_]; simpa using blk_set KX5.out 0 (.slice none 0 0)); have HY := Aside0.mk (show Below w.heap.size w wy from by rw [hw_]; exact HX.out.setCell (p := ⟨g5, 0, none⟩) G5.out _); clear hw_ u0 v0))
   refine bodyPost_ret (results43 _ wy g4 g5 #[.int .i64 0, .slice none 0 0, .slice none 0 0, .slice none 0 0, .slice none 0 0, .slice none 0 0] (.slice none 0 0) rfl KY4.out rfl rfl KY5.out) rfl ?_
   exact ⟨rfl, HY.out⟩
end Go.Proofs.Yteiiodlgdbiimaa.F
end
