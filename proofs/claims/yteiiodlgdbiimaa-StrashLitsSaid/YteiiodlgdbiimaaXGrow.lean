/- (*cone).grow goes along the queue, and lets each variable's own literals count. -/
import Derived.Test.YteiiodlgdbiimaaXConeP
import Derived.StillTailTactics
import Derived.IntWalk
namespace Go.Proofs.Yteiiodlgdbiimaa.F
open Go.RowKit Go.Shelf Go.Proofs.YteiiodlgdbiimaaW.PrintWords Go.Proofs.YteiiodlgdbiimaaW.PrintLast Go.Proofs.YteiiodlgdbiimaaW.PrintMore
set_option linter.unusedVariables false
set_option linter.unusedSimpArgs false

set_option maxHeartbeats 8000000 in
set_option maxRecDepth 100000 in
theorem grow142 (a0 : Int) (A1 : Option Addr) (c1 : Nat) (l1 : List S41) (A2 : Option Addr) (c2 : Nat) (l2 : List S68) (A3 : Option Addr) (c3 : Nat) (l3 : List Int) (A4 : Option Addr) (c4 : Nat) (l4 : List Int) (A5 : Option Addr) (c5 : Nat) (l5 : List Int) (ever : Bool) (w0 : World) (g gi ci n : Nat) (xs : List Bool) (q : List Int) (w : World) (hf : Fine a0 l1 l2 n) (hi : Inv n (xs, q))
    (hr1 : Kd.C k41 w0 A1 l1.length l1) (hr2 : Kd.C k68 w0 A2 l2.length l2)
    (h : ConeSt a0 A1 c1 l1 A2 c2 l2 A3 c3 l3 A4 c4 l4 A5 c5 l5 ever w0 g gi ci n xs q w) :
    Calls Try.prog 142 #[.pointer (some ⟨g, 0, none⟩)] w fun e w' => e = .returned (.tuple #[]) ∧ ConeSt a0 A1 c1 l1 A2 c2 l2 A3 c3 l3 A4 c4 l4 A5 c5 l5 ever w0 g gi ci n (growP a0 l1 l2 ever (n + 1) (xs, q) 0).1 [] w' := by
  have H := Aside0.mk h
  have HF := Aside0.mk hf
  have HI := Aside0.mk hi
  have H1 := Aside0.mk hr1
  have H2 := Aside0.mk hr2
  have hp := hf.pos
  have hn := hf.num
  have hle := hf.le
  obtain ⟨vq, hk, hq⟩ := h.st
  have z0 : w.cell? ⟨g, 0, none⟩ = some (.int .i64 a0) := (blk_cell hk 0).trans rfl; have z1 : w.cell? ⟨g, 1, none⟩ = some (.slice A1 l1.length c1) := (blk_cell hk 1).trans rfl; have z2 : w.cell? ⟨g, 2, none⟩ = some (.slice A2 l2.length c2) := (blk_cell hk 2).trans rfl; have z3 : w.cell? ⟨g, 3, none⟩ = some (.slice A3 l3.length c3) := (blk_cell hk 3).trans rfl; have z4 : w.cell? ⟨g, 4, none⟩ = some (.slice A4 l4.length c4) := (blk_cell hk 4).trans rfl; have z5 : w.cell? ⟨g, 5, none⟩ = some (.slice A5 l5.length c5) := (blk_cell hk 5).trans rfl; have z6 : w.cell? ⟨g, 6, none⟩ = some (.slice (some ⟨gi, 0, none⟩) n ci) := (blk_cell hk 6).trans rfl; have z7 : w.cell? ⟨g, 7, none⟩ = some (vq) := (blk_cell hk 7).trans rfl; have z8 : w.cell? ⟨g, 8, none⟩ = some (.bool ever) := (blk_cell hk 8).trans rfl; have f7 := blk_frozen hk 7
  clear h hf hi hr1 hr2 hk hq
  have hu150 := Try.underlying150
  have hu26 := Try.underlying26
  go_enter Try.func142, Try.ntmps142
  go_wp2
  go_quiet (fail)
  go_wp2
  clear z0 z1 z2 z3 z4 z5 z6 z7 z8 f7
  go_loopg [3] (n + 1) (fun gg v3 wr => ∃ (k : Nat) (ys : List Bool) (p : List Int), n + 1 - k ≤ gg ∧ v3 = .int .i64 k ∧ Aside0 (k ≤ p.length) ∧ Aside0 (ConeSt a0 A1 c1 l1 A2 c2 l2 A3 c3 l3 A4 c4 l4 A5 c5 l5 ever w0 g gi ci n ys p wr) ∧ Aside0 (Inv n (ys, p)) ∧ Aside0 (growP a0 l1 l2 ever (n + 1) (xs, q) 0 = growP a0 l1 l2 ever (n + 1 - k) (ys, p) k))
  case atStart => exact ⟨0, xs, q, by omega, rfl, ⟨Nat.zero_le _⟩, ⟨H.out.step (by repeat (first | exact Below.refl _ _ | apply below_drew1 | apply pw_below_drewN))⟩, HI, ⟨rfl⟩⟩
  case round =>
    clear H HI
    obtain ⟨k, ys, p, hg, rfl, HKP, H, HI, HG⟩ := hrel
    obtain ⟨vq, hk, hq⟩ := H.out.st
    obtain ⟨Aq, cq, rfl, hcq, hCq⟩ := Kd.R_reads hq
    have z0 : wr.cell? ⟨g, 0, none⟩ = some (.int .i64 a0) := (blk_cell hk 0).trans rfl
    have z1 : wr.cell? ⟨g, 1, none⟩ = some (.slice A1 l1.length c1) := (blk_cell hk 1).trans rfl
    have z2 : wr.cell? ⟨g, 2, none⟩ = some (.slice A2 l2.length c2) := (blk_cell hk 2).trans rfl
    have z3 : wr.cell? ⟨g, 3, none⟩ = some (.slice A3 l3.length c3) := (blk_cell hk 3).trans rfl
    have z4 : wr.cell? ⟨g, 4, none⟩ = some (.slice A4 l4.length c4) := (blk_cell hk 4).trans rfl
    have z5 : wr.cell? ⟨g, 5, none⟩ = some (.slice A5 l5.length c5) := (blk_cell hk 5).trans rfl
    have z6 : wr.cell? ⟨g, 6, none⟩ = some (.slice (some ⟨gi, 0, none⟩) n ci) := (blk_cell hk 6).trans rfl
    have z7 : wr.cell? ⟨g, 7, none⟩ = some (.slice Aq p.length cq) := (blk_cell hk 7).trans rfl
    have z8 : wr.cell? ⟨g, 8, none⟩ = some (.bool ever) := (blk_cell hk 8).trans rfl
    have f7 := blk_frozen hk 7
    have hpl : p.length ≤ n := HI.out.le
    have HKK := Aside0.mk hk
    have HQQ := Aside0.mk hq
    clear hk hq
    by_cases hlt : k < p.length
    · have hltz : (k : Int) < (p.length : Int) := by omega
      have hkn : k < 16385 := by omega
      obtain ⟨ad, e, xq⟩ := Kd.at_int hCq (k : Int) (by omega) hltz
      cases e
      have ek : (k : Int).toNat = k := by omega
      rw [ek] at xq
      clear ek
      have HV : Aside0 (0 < rd p k ∧ rd p k < (n : Int)) := ⟨HI.out.q _ (by simp [rd, List.getD_eq_getElem?_getD, List.getElem?_eq_getElem hlt])⟩
      have E : Aside0 (growP a0 l1 l2 ever (n + 1) (xs, q) 0 = growP a0 l1 l2 ever (n + 1 - (k + 1)) (stepP a0 l1 l2 ever (ys, p) (rd p k)) (k + 1)) := ⟨HG.out.trans (by
        obtain ⟨d, hd⟩ : ∃ d, n + 1 - k = d + 1 := ⟨n - k, by omega⟩
        rw [hd, growP, if_pos hlt, show n + 1 - (k + 1) = d by omega]
        rfl)⟩
      generalize rd p (k : Int) = v at xq HV E
      have hv0 := HV.out.1
      have hvn := HV.out.2
      clear HG hCq
      by_cases hc : 1 + a0 + (l1.length : Int) ≤ v
      · have hcb : decide (1 + a0 + (l1.length : Int) ≤ v) = true := decide_eq_true hc
        have hd0 : 0 ≤ v - (1 + a0 + (l1.length : Int)) := by omega
        have hd1 : v - (1 + a0 + (l1.length : Int)) < (l2.length : Int) := by omega
        obtain ⟨ad2, e, x0, x1⟩ := at_T68 (Kd.C_below H2.out H.out.below) (v - (1 + a0 + (l1.length : Int))) hd0 hd1
        cases e
        have hgs := HF.out.g (v - (1 + a0 + (l1.length : Int))).toNat (by omega)
        rw [Int.toNat_of_nonneg hd0] at hgs
        have E : Aside0 (growP a0 l1 l2 ever (n + 1) (xs, q) 0 = growP a0 l1 l2 ever (n + 1 - (k + 1)) (addP (addP (ys, p) (rd_T68 l2 (v - (1 + a0 + (l1.length : Int)))).f0) (rd_T68 l2 (v - (1 + a0 + (l1.length : Int)))).f1) (k + 1)) := ⟨E.out.trans (by unfold stepP; rw [if_pos hc])⟩
        generalize rd_T68 l2 (v - (1 + a0 + (l1.length : Int))) = y at x0 x1 hgs E
        have HGS := Aside0.mk hgs
        have HLE := Aside0.mk (show p.length ≤ 60000 by omega)
        have hxx := HI.out.add y.f0 hgs.1
        have HI2 := Aside0.mk hxx
        have HI3 := Aside0.mk (hxx.add y.f1 hgs.2)
        clear hgs hxx
        go_wp2_with ((with_reducible refine gate_dst (N := 5) rfl ?_); (try (refine gate_guard (by rfl) ?_; dsimp only)); refine box_event ?hg (N := 5) ?hd (cs := #[.int .u32 0, .int .u32 0]) (t := 68) ?hr ?_; (case hd => rfl); (case hg => rfl); (case hr => first | (go_simp; done) | (go_simp; rfl)); intro g7 hg_ w7 bk7 hb7; have ge7 := Aside0.mk (Nat.le_of_eq hg_.symm); clear hg_; have y0 : w7.cell? ⟨g7, 0, none⟩ = some (.int .u32 0) := (blk_cell bk7 0).trans rfl; have y1 : w7.cell? ⟨g7, 1, none⟩ = some (.int .u32 0) := (blk_cell bk7 1).trans rfl; have f7_0 := blk_frozen bk7 0; have f7_1 := blk_frozen bk7 1; have HC1 := Aside0.mk (And.intro (H.out.step ((hb7.setCell (p := ⟨g7, 0, none⟩) ge7.out (.int .u32 y.f0)).setCell (p := ⟨g7, 1, none⟩) ge7.out (.int .u32 y.f1))) (show ((w7.setCell ⟨g7, 0, none⟩ (.int .u32 y.f0)).setCell ⟨g7, 1, none⟩ (.int .u32 y.f1)).heap[g7]? = some (.cells #[.int .u32 y.f0, .int .u32 y.f1] 68 (0, 0)) from by simpa using blk_set (blk_set bk7 0 (.int .u32 y.f0)) 1 (.int .u32 y.f1))))
        refine (add141 a0 A1 c1 l1 (some ad2) c2 l2 A3 c3 l3 A4 c4 l4 A5 c5 l5 ever w0 g gi ci n ys p _ y.f0 HGS.out.1 HLE.out (HC1.out.1)).mono ?_
        rintro e w8 ⟨rfl, hs8, ho8⟩
        have HC8 := Aside0.mk hs8
        have hk8 := ho8 g7 _ _ HC1.out.2 (by decide) (by decide) (by decide)
        have y8_0 : w8.cell? ⟨g7, 0, none⟩ = some (.int .u32 y.f0) := (blk_cell hk8 0).trans rfl
        have y8_1 : w8.cell? ⟨g7, 1, none⟩ = some (.int .u32 y.f1) := (blk_cell hk8 1).trans rfl
        clear hs8 ho8 hk8
        go_wp2_with fail
        refine (add141 a0 A1 c1 l1 (some ad2) c2 l2 A3 c3 l3 A4 c4 l4 A5 c5 l5 ever w0 g gi ci n _ _ _ y.f1 HGS.out.2 (Nat.le_trans (HI2.out.le) (by omega)) HC8.out).mono ?_
        rintro e w9 ⟨rfl, hs9, _⟩
        have HC9 := Aside0.mk hs9
        clear hs9
        go_wp2
        go_roundg (n + 1 - (k + 1))
        case measure => omega
        case rel => exact ⟨k + 1, _, _, by omega, by go_num, ⟨by have h1 := addP_len (ys, p) y.f0; have h2 := addP_len (addP (ys, p) y.f0) y.f1; show k + 1 ≤ (addP (addP (ys, p) y.f0) y.f1).2.length; simp only at h1; omega⟩, HC9, HI3, E⟩
      · have hcb : decide (1 + a0 + (l1.length : Int) ≤ v) = false := decide_eq_false hc
        by_cases hd : a0 < v
        · have hdb : decide (a0 < v) = true := decide_eq_true hd
          cases ever with
          | true =>
            have hd0 : 0 ≤ v - 1 - a0 := by omega
            have hd1 : v - 1 - a0 < (l1.length : Int) := by omega
            obtain ⟨ad3, e, x0, x1⟩ := at_T41 (Kd.C_below H1.out H.out.below) (v - 1 - a0) hd0 hd1
            cases e
            have hgs := HF.out.l (v - 1 - a0).toNat (by omega)
            rw [Int.toNat_of_nonneg hd0] at hgs
            have E : Aside0 (growP a0 l1 l2 true (n + 1) (xs, q) 0 = growP a0 l1 l2 true (n + 1 - (k + 1)) (addP (ys, p) (rd_T41 l1 (v - 1 - a0)).f0) (k + 1)) := ⟨E.out.trans (by unfold stepP; rw [if_neg hc, if_pos ⟨hd, rfl⟩])⟩
            generalize rd_T41 l1 (v - 1 - a0) = y at x0 x1 hgs E
            have HGS := Aside0.mk hgs
            have HLE := Aside0.mk (show p.length ≤ 60000 by omega)
            have HI2 := Aside0.mk (HI.out.add y.f0 hgs)
            clear hgs
            go_wp2_with fail
            have es1 : IntKind.i64.wrap (v - 1) = v - 1 := IntWalk.i64_in _ (by omega)
            have es2 : IntKind.i64.wrap (v - 1 - a0) = v - 1 - a0 := IntWalk.i64_in _ (by omega)
            have es3 : a0 ≤ v - 1 := by omega
            go_still_tail 17, (by kernel_rfl)
            clear es1 es2 es3
            change wpList _ _ _ _ _ wr.drew
            go_wp2_with fail
            refine (add141 a0 (some ad3) c1 l1 A2 c2 l2 A3 c3 l3 A4 c4 l4 A5 c5 l5 true w0 g gi ci n ys p _ y.f0 HGS.out HLE.out (H.out.step (below_drew1 (Below.refl _ _)))).mono ?_
            rintro e w8 ⟨rfl, hs8, ho8⟩
            have HC8 := Aside0.mk hs8
            clear hs8 ho8
            go_wp2
            go_roundg (n + 1 - (k + 1))
            case measure => omega
            case rel => exact ⟨k + 1, _, _, by omega, by go_num, ⟨by have h1 := addP_len (ys, p) y.f0; simp only at h1; omega⟩, HC8, HI2, E⟩
          | false =>
            have E : Aside0 (growP a0 l1 l2 false (n + 1) (xs, q) 0 = growP a0 l1 l2 false (n + 1 - (k + 1)) (ys, p) (k + 1)) := ⟨E.out.trans (by unfold stepP; rw [if_neg hc, if_neg (fun h => by simp at h)])⟩
            go_wp2
            go_roundg (n + 1 - (k + 1))
            case measure => omega
            case rel => exact ⟨k + 1, _, _, by omega, by go_num, ⟨by omega⟩, H, HI, E⟩
        · have hdb : decide (a0 < v) = false := decide_eq_false hd
          have E : Aside0 (growP a0 l1 l2 ever (n + 1) (xs, q) 0 = growP a0 l1 l2 ever (n + 1 - (k + 1)) (ys, p) (k + 1)) := ⟨E.out.trans (by unfold stepP; rw [if_neg hc, if_neg (fun h => hd h.1)])⟩
          go_wp2
          go_roundg (n + 1 - (k + 1))
          case measure => omega
          case rel => exact ⟨k + 1, _, _, by omega, by go_num, ⟨by omega⟩, H, HI, E⟩
    · have hltz : ¬ (k : Int) < (p.length : Int) := by omega
      have E : Aside0 ((growP a0 l1 l2 ever (n + 1) (xs, q) 0).1 = ys) := ⟨by
        rw [HG.out]
        obtain ⟨d, hd⟩ : ∃ d, n + 1 - k = d + 1 := ⟨n - k, by have := HKP.out; omega⟩
        rw [hd, growP, if_neg hlt]⟩
      have hle : p.length ≤ k := by omega
      clear hlt
      go_wp2
      go_end0
      exact ⟨rfl, by rw [E.out]; exact H.out.cleared⟩
end Go.Proofs.Yteiiodlgdbiimaa.F
