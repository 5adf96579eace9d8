/- The law StrashTells: whatever the input, the function returns true, and the input reads as it did (its last text). -/
import Derived.Below
import Derived.ChangeOld
import Derived.OpenShut
import Derived.ProofKit
import Derived.ShutString
import Derived.SizedLaws
import Derived.Test.YteiiodlgdbiimaaRows
import Derived.WalkKit
import Derived.Test.YteiiodlgdbiimaaUp
section
namespace Go.Proofs.Yteiiodlgdbiimaa.F
open Go.RowKit Go.Shelf Go.Proofs.YteiiodlgdbiimaaW.PrintWords Go.Proofs.YteiiodlgdbiimaaW.PrintLast Go.Proofs.YteiiodlgdbiimaaW.PrintMore
set_option linter.unusedVariables false
set_option linter.unusedSimpArgs false
set_option maxHeartbeats 8000000 in
set_option maxRecDepth 100000 in
theorem law5_great (a0 : Int) (A1 : Option Addr) (c1 : Nat) (l1 : List S41) (A2 : Option Addr) (c2 : Nat) (l2 : List S68) (A3 : Option Addr) (c3 : Nat) (l3 : List Int) (A4 : Option Addr) (c4 : Nat) (l4 : List Int) (A5 : Option Addr) (c5 : Nat) (l5 : List Int) (A6 : Option Addr) (c6 : Nat) (is : List Int) (A7 : Option Addr) (c7 : Nat) (to_ : List Int) (lit : Int) (w : World) (hr1 : Kd.C k41 w A1 l1.length l1) (hc1 : l1.length ≤ c1) (hr2 : Kd.C k68 w A2 l2.length l2) (hc2 : l2.length ≤ c2) (hr3 : Kd.C (Kd.int .u32) w A3 l3.length l3) (hc3 : l3.length ≤ c3) (hr4 : Kd.C (Kd.int .u32) w A4 l4.length l4) (hc4 : l4.length ≤ c4) (hr5 : Kd.C (Kd.int .u32) w A5 l5.length l5) (hc5 : l5.length ≤ c5) (hr6 : Kd.C (Kd.int .u8) w A6 is.length is) (hc6 : is.length ≤ c6) (hr7 : Kd.C (Kd.int .u32) w A7 to_.length to_) (hc7 : to_.length ≤ c7) (hg : inquestlaw24_great.f a0 l1 l2 l3 l4 l5 = some true) : Calls Try.prog 5 #[.agg #[.int .i64 a0, .slice A1 l1.length c1, .slice A2 l2.length c2, .slice A3 l3.length c3, .slice A4 l4.length c4, .slice A5 l5.length c5], .slice A6 is.length c6, .slice A7 to_.length c7, .int .u32 lit] w fun e w' => e = .returned (.bool true) ∧ Below w.heap.size w w' := by
  have hu26 := Try.underlying26
  obtain ⟨kl, hkl⟩ := Ev.rounds lives24_ev
  have HLV := Aside0.mk hkl
  clear hkl
  have HGR := Aside0.mk (fun W (h : MayAt a0 A1 c1 l1 A2 c2 l2 A3 c3 l3 A4 c4 l4 A5 c5 l5 w.heap.size w W) => inquestlaw24_great.calls a0 A1 c1 l1 A2 c2 l2 A3 c3 l3 A4 c4 l4 A5 c5 l5 true W h.h1 hc1 h.h2 hc2 h.h3 hc3 h.h4 hc4 h.h5 hc5 hg)
  have H0 := Aside0.mk (fun W (hb : Below w.heap.size w W) (hk : W.heap[w.heap.size]? = some (.cells #[.int .i64 a0, .slice A1 l1.length c1, .slice A2 l2.length c2, .slice A3 l3.length c3, .slice A4 l4.length c4, .slice A5 l5.length c5] 26 (0, 0))) => (⟨hb, hk, Kd.C_below hr1 hb, Kd.C_below hr2 hb, Kd.C_below hr3 hb, Kd.C_below hr4 hb, Kd.C_below hr5 hb⟩ : MayAt a0 A1 c1 l1 A2 c2 l2 A3 c3 l3 A4 c4 l4 A5 c5 l5 w.heap.size w W))
  clear hr1 hr2 hr3 hr4 hr5 hr6 hr7 hc1 hc2 hc3 hc4 hc5 hc6 hc7 hg
  go_enter Try.func5, Try.ntmps5
  go_wp2_with (first | ((with_reducible refine gate_dst (N := 4) rfl ?_); (try (refine gate_guard (by rfl) ?_; dsimp only)); refine box_event ?hg (N := 4) ?hd (cs := #[.int .i64 a0, .slice A1 l1.length c1, .slice A2 l2.length c2, .slice A3 l3.length c3, .slice A4 l4.length c4, .slice A5 l5.length c5]) (t := 26) ?hr ?_; (case hd => rfl); (case hg => rfl); (case hr => first | (go_simp; done) | (go_simp; rfl)); intro g1 hg_ w1 bk1 hb1; subst hg_; have HM1 := Aside0.mk (H0.out _ hb1 bk1); clear hb1 bk1; have z0 : w1.cell? ⟨w.heap.size, 0, none⟩ = some (.int .i64 a0) := (blk_cell HM1.out.blk 0).trans rfl; have z1 : w1.cell? ⟨w.heap.size, 1, none⟩ = some (.slice A1 l1.length c1) := (blk_cell HM1.out.blk 1).trans rfl; have z2 : w1.cell? ⟨w.heap.size, 2, none⟩ = some (.slice A2 l2.length c2) := (blk_cell HM1.out.blk 2).trans rfl; have z3 : w1.cell? ⟨w.heap.size, 3, none⟩ = some (.slice A3 l3.length c3) := (blk_cell HM1.out.blk 3).trans rfl; have z4 : w1.cell? ⟨w.heap.size, 4, none⟩ = some (.slice A4 l4.length c4) := (blk_cell HM1.out.blk 4).trans rfl; have z5 : w1.cell? ⟨w.heap.size, 5, none⟩ = some (.slice A5 l5.length c5) := (blk_cell HM1.out.blk 5).trans rfl) | (go_at_call 36; refine (HGR.out _ HM1.out).mono ?_; rintro e w2 ⟨rfl, hb2⟩; have HM2 := Aside0.mk (HM1.out.step hb2); clear hb2; clear z0 z1 z2 z3 z4 z5; have z0 : w2.cell? ⟨w.heap.size, 0, none⟩ = some (.int .i64 a0) := (blk_cell HM2.out.blk 0).trans rfl; have z1 : w2.cell? ⟨w.heap.size, 1, none⟩ = some (.slice A1 l1.length c1) := (blk_cell HM2.out.blk 1).trans rfl; have z2 : w2.cell? ⟨w.heap.size, 2, none⟩ = some (.slice A2 l2.length c2) := (blk_cell HM2.out.blk 2).trans rfl; have z3 : w2.cell? ⟨w.heap.size, 3, none⟩ = some (.slice A3 l3.length c3) := (blk_cell HM2.out.blk 3).trans rfl; have z4 : w2.cell? ⟨w.heap.size, 4, none⟩ = some (.slice A4 l4.length c4) := (blk_cell HM2.out.blk 4).trans rfl; have z5 : w2.cell? ⟨w.heap.size, 5, none⟩ = some (.slice A5 l5.length c5) := (blk_cell HM2.out.blk 5).trans rfl) | (go_at_call 37; refine (inquestlaw24_lives.calls kl true _ HLV.out).mono ?_; rintro e w3 ⟨rfl, hb3⟩))
  go_ret
  exact ⟨rfl, below_step HM2.out.below hb3⟩
set_option maxHeartbeats 8000000 in
set_option maxRecDepth 100000 in
theorem law5_long (a0 : Int) (A1 : Option Addr) (c1 : Nat) (l1 : List S41) (A2 : Option Addr) (c2 : Nat) (l2 : List S68) (A3 : Option Addr) (c3 : Nat) (l3 : List Int) (A4 : Option Addr) (c4 : Nat) (l4 : List Int) (A5 : Option Addr) (c5 : Nat) (l5 : List Int) (A6 : Option Addr) (c6 : Nat) (is : List Int) (A7 : Option Addr) (c7 : Nat) (to_ : List Int) (lit : Int) (w : World) (hr1 : Kd.C k41 w A1 l1.length l1) (hc1 : l1.length ≤ c1) (hr2 : Kd.C k68 w A2 l2.length l2) (hc2 : l2.length ≤ c2) (hr3 : Kd.C (Kd.int .u32) w A3 l3.length l3) (hc3 : l3.length ≤ c3) (hr4 : Kd.C (Kd.int .u32) w A4 l4.length l4) (hc4 : l4.length ≤ c4) (hr5 : Kd.C (Kd.int .u32) w A5 l5.length l5) (hc5 : l5.length ≤ c5) (hr6 : Kd.C (Kd.int .u8) w A6 is.length is) (hc6 : is.length ≤ c6) (hr7 : Kd.C (Kd.int .u32) w A7 to_.length to_) (hc7 : to_.length ≤ c7) (hg : inquestlaw24_great.f a0 l1 l2 l3 l4 l5 = some false) (hn : 2000 < is.length) : Calls Try.prog 5 #[.agg #[.int .i64 a0, .slice A1 l1.length c1, .slice A2 l2.length c2, .slice A3 l3.length c3, .slice A4 l4.length c4, .slice A5 l5.length c5], .slice A6 is.length c6, .slice A7 to_.length c7, .int .u32 lit] w fun e w' => e = .returned (.bool true) ∧ Below w.heap.size w w' := by
  have hu26 := Try.underlying26
  obtain ⟨kl, hkl⟩ := Ev.rounds lives24_ev
  have HLV := Aside0.mk hkl
  clear hkl
  have HGR := Aside0.mk (fun W (h : MayAt a0 A1 c1 l1 A2 c2 l2 A3 c3 l3 A4 c4 l4 A5 c5 l5 w.heap.size w W) => inquestlaw24_great.calls a0 A1 c1 l1 A2 c2 l2 A3 c3 l3 A4 c4 l4 A5 c5 l5 false W h.h1 hc1 h.h2 hc2 h.h3 hc3 h.h4 hc4 h.h5 hc5 hg)
  have H0 := Aside0.mk (fun W (hb : Below w.heap.size w W) (hk : W.heap[w.heap.size]? = some (.cells #[.int .i64 a0, .slice A1 l1.length c1, .slice A2 l2.length c2, .slice A3 l3.length c3, .slice A4 l4.length c4, .slice A5 l5.length c5] 26 (0, 0))) => (⟨hb, hk, Kd.C_below hr1 hb, Kd.C_below hr2 hb, Kd.C_below hr3 hb, Kd.C_below hr4 hb, Kd.C_below hr5 hb⟩ : MayAt a0 A1 c1 l1 A2 c2 l2 A3 c3 l3 A4 c4 l4 A5 c5 l5 w.heap.size w W))
  clear hr1 hr2 hr3 hr4 hr5 hr6 hr7 hc1 hc2 hc3 hc4 hc5 hc6 hc7 hg
  have d1 : decide ((2000 : Int) < (is.length : Int)) = true := decide_eq_true (by omega)
  have d2 : decide (2000 < is.length) = true := decide_eq_true hn
  clear hn
  go_enter Try.func5, Try.ntmps5
  go_wp2_with (first | ((with_reducible refine gate_dst (N := 4) rfl ?_); (try (refine gate_guard (by rfl) ?_; dsimp only)); refine box_event ?hg (N := 4) ?hd (cs := #[.int .i64 a0, .slice A1 l1.length c1, .slice A2 l2.length c2, .slice A3 l3.length c3, .slice A4 l4.length c4, .slice A5 l5.length c5]) (t := 26) ?hr ?_; (case hd => rfl); (case hg => rfl); (case hr => first | (go_simp; done) | (go_simp; rfl)); intro g1 hg_ w1 bk1 hb1; subst hg_; have HM1 := Aside0.mk (H0.out _ hb1 bk1); clear hb1 bk1; have z0 : w1.cell? ⟨w.heap.size, 0, none⟩ = some (.int .i64 a0) := (blk_cell HM1.out.blk 0).trans rfl; have z1 : w1.cell? ⟨w.heap.size, 1, none⟩ = some (.slice A1 l1.length c1) := (blk_cell HM1.out.blk 1).trans rfl; have z2 : w1.cell? ⟨w.heap.size, 2, none⟩ = some (.slice A2 l2.length c2) := (blk_cell HM1.out.blk 2).trans rfl; have z3 : w1.cell? ⟨w.heap.size, 3, none⟩ = some (.slice A3 l3.length c3) := (blk_cell HM1.out.blk 3).trans rfl; have z4 : w1.cell? ⟨w.heap.size, 4, none⟩ = some (.slice A4 l4.length c4) := (blk_cell HM1.out.blk 4).trans rfl; have z5 : w1.cell? ⟨w.heap.size, 5, none⟩ = some (.slice A5 l5.length c5) := (blk_cell HM1.out.blk 5).trans rfl) | (go_at_call 36; refine (HGR.out _ HM1.out).mono ?_; rintro e w2 ⟨rfl, hb2⟩; have HM2 := Aside0.mk (HM1.out.step hb2); clear hb2; clear z0 z1 z2 z3 z4 z5; have z0 : w2.cell? ⟨w.heap.size, 0, none⟩ = some (.int .i64 a0) := (blk_cell HM2.out.blk 0).trans rfl; have z1 : w2.cell? ⟨w.heap.size, 1, none⟩ = some (.slice A1 l1.length c1) := (blk_cell HM2.out.blk 1).trans rfl; have z2 : w2.cell? ⟨w.heap.size, 2, none⟩ = some (.slice A2 l2.length c2) := (blk_cell HM2.out.blk 2).trans rfl; have z3 : w2.cell? ⟨w.heap.size, 3, none⟩ = some (.slice A3 l3.length c3) := (blk_cell HM2.out.blk 3).trans rfl; have z4 : w2.cell? ⟨w.heap.size, 4, none⟩ = some (.slice A4 l4.length c4) := (blk_cell HM2.out.blk 4).trans rfl; have z5 : w2.cell? ⟨w.heap.size, 5, none⟩ = some (.slice A5 l5.length c5) := (blk_cell HM2.out.blk 5).trans rfl) | (go_at_call 37; refine (inquestlaw24_lives.calls kl true _ HLV.out).mono ?_; rintro e w3 ⟨rfl, hb3⟩))
  go_ret
  exact ⟨rfl, below_step HM2.out.below hb3⟩
theorem lentC {W : World} {base g cap : Nat} {l : List Int} (hR : Kd.R (Kd.int .u8) 5 W base (fun _ => True) (.slice (some ⟨g, 0, none⟩) (l.length + 7) cap) (l ++ room7)) : Kd.C (Kd.int .u8) W (some ⟨g, 0, none⟩) l.length l := by
  have h1 := Kd.R_take (m := l.length) hR (by rw [List.length_append]; omega)
  rw [List.take_left] at h1
  exact (Kd.R_reads' h1).2.2
theorem lentLe {W : World} {base g cap : Nat} {l : List Int} (hR : Kd.R (Kd.int .u8) 5 W base (fun _ => True) (.slice (some ⟨g, 0, none⟩) (l.length + 7) cap) (l ++ room7)) : l.length ≤ cap := by
  have := (Kd.R_reads' hR).2.1
  omega
set_option maxHeartbeats 40000000 in
set_option maxRecDepth 100000 in
theorem law5_main (a0 : Int) (A1 : Option Addr) (c1 : Nat) (l1 : List S41) (A2 : Option Addr) (c2 : Nat) (l2 : List S68) (A3 : Option Addr) (c3 : Nat) (l3 : List Int) (A4 : Option Addr) (c4 : Nat) (l4 : List Int) (A5 : Option Addr) (c5 : Nat) (l5 : List Int) (A6 : Option Addr) (c6 : Nat) (is : List Int) (A7 : Option Addr) (c7 : Nat) (to_ : List Int) (lit : Int) (w : World) (hr1 : Kd.C k41 w A1 l1.length l1) (hc1 : l1.length ≤ c1) (hr2 : Kd.C k68 w A2 l2.length l2) (hc2 : l2.length ≤ c2) (hr3 : Kd.C (Kd.int .u32) w A3 l3.length l3) (hc3 : l3.length ≤ c3) (hr4 : Kd.C (Kd.int .u32) w A4 l4.length l4) (hc4 : l4.length ≤ c4) (hr5 : Kd.C (Kd.int .u32) w A5 l5.length l5) (hc5 : l5.length ≤ c5) (hr6 : Kd.C (Kd.int .u8) w A6 is.length is) (hc6 : is.length ≤ c6) (hr7 : Kd.C (Kd.int .u32) w A7 to_.length to_) (hc7 : to_.length ≤ c7) (hg : inquestlaw24_great.f a0 l1 l2 l3 l4 l5 = some false) (hn : is.length ≤ 2000) (kS kW k1 k2 k3 k4 k5 : Nat) (b0 : Int) (m1 : List S41) (m2 : List S68) (m3 m4 m5 tl : List Int) (eS : Int) (e0 : Int) (n1 : List S41) (n2 : List S68) (n3 n4 n5 tw : List Int) (eW vl : Int)
  (hS : strash_Small.f a0 l1 l2 l3 l4 l5 = some (b0, m1, m2, m3, m4, m5, tl, eS)) (hRS : inquestref24_Small.f kS a0 l1 l2 l3 l4 l5 = some (b0, m1, m2, m3, m4, m5, tl, eS)) (hE1 : inquestref03_Same.f k1 b0 m1 m2 m3 m4 m5 b0 m1 m2 m3 m4 m5 = some true) (hE2 : inquestref00_Numbers.f k2 tl tl = some true)
  (hW : strash_With.f a0 l1 l2 l3 l4 l5 is = some (e0, n1, n2, n3, n4, n5, tw, eW)) (hRW : inquestref24_With.f kW a0 l1 l2 l3 l4 l5 is = some (e0, n1, n2, n3, n4, n5, tw, eW)) (hE3 : inquestref03_Same.f k3 e0 n1 n2 n3 n4 n5 e0 n1 n2 n3 n4 n5 = some true) (hE4 : inquestref00_Numbers.f k4 tw tw = some true)
  (hLT : strash_Lit.f to_ lit = some vl) (hRL : inquestref24_Lit.f to_ lit = some vl) (hE5 : inquestref03_Same.f k5 a0 l1 l2 l3 l4 l5 a0 l1 l2 l3 l4 l5 = some true) (hcp : inquestref03_Copy.f a0 l1 l2 l3 l4 l5 = some (a0, l1, l2, l3, l4, l5)) :
  Calls Try.prog 5 #[.agg #[.int .i64 a0, .slice A1 l1.length c1, .slice A2 l2.length c2, .slice A3 l3.length c3, .slice A4 l4.length c4, .slice A5 l5.length c5], .slice A6 is.length c6, .slice A7 to_.length c7, .int .u32 lit] w fun e w' => e = .returned (.bool true) ∧ Below w.heap.size w w' := by
 have hu26 := Try.underlying26
 obtain ⟨kl, hkl⟩ := Ev.rounds lives24_ev
 have HLV := Aside0.mk hkl
 clear hkl
 have HGR := Aside0.mk (fun W (h : MayAt a0 A1 c1 l1 A2 c2 l2 A3 c3 l3 A4 c4 l4 A5 c5 l5 w.heap.size w W) => inquestlaw24_great.calls a0 A1 c1 l1 A2 c2 l2 A3 c3 l3 A4 c4 l4 A5 c5 l5 false W h.h1 hc1 h.h2 hc2 h.h3 hc3 h.h4 hc4 h.h5 hc5 hg)
 have H0 := Aside0.mk (fun W (hb : Below w.heap.size w W) (hk : W.heap[w.heap.size]? = some (.cells #[.int .i64 a0, .slice A1 l1.length c1, .slice A2 l2.length c2, .slice A3 l3.length c3, .slice A4 l4.length c4, .slice A5 l5.length c5] 26 (0, 0))) => (⟨hb, hk, Kd.C_below hr1 hb, Kd.C_below hr2 hb, Kd.C_below hr3 hb, Kd.C_below hr4 hb, Kd.C_below hr5 hb⟩ : MayAt a0 A1 c1 l1 A2 c2 l2 A3 c3 l3 A4 c4 l4 A5 c5 l5 w.heap.size w W))
 have HCP := Aside0.mk (fun W (h : MayAt a0 A1 c1 l1 A2 c2 l2 A3 c3 l3 A4 c4 l4 A5 c5 l5 w.heap.size w W) => inquestref03_Copy.calls a0 A1 c1 l1 A2 c2 l2 A3 c3 l3 A4 c4 l4 A5 c5 l5 a0 l1 l2 l3 l4 l5 W h.h1 hc1 h.h2 hc2 h.h3 hc3 h.h4 hc4 h.h5 hc5 hcp)
 have HS := Aside0.mk hS
 have HRS := Aside0.mk hRS
 have HW := Aside0.mk hW
 have HRW := Aside0.mk hRW
 have HE1 := Aside0.mk hE1
 have HE2 := Aside0.mk hE2
 have HE3 := Aside0.mk hE3
 have HE4 := Aside0.mk hE4
 have HE5 := Aside0.mk hE5
 have HLT := Aside0.mk hLT
 have HRL := Aside0.mk hRL
 have HNI := Aside0.mk (show is.length ≤ 100000 from by omega)
 have HR6 := Aside0.mk hr6
 have HR7 := Aside0.mk hr7
 have HC1 := Aside0.mk hc1
 have HC2 := Aside0.mk hc2
 have HC3 := Aside0.mk hc3
 have HC4 := Aside0.mk hc4
 have HC5 := Aside0.mk hc5
 have HC6 := Aside0.mk hc6
 have HC7 := Aside0.mk hc7
 have gg1 : decide ((2000 : Int) < (is.length : Int)) = false := decide_eq_false (by omega)
 have gg2 : decide (2000 < is.length) = false := decide_eq_false (by omega)
 clear hr1 hr2 hr3 hr4 hr5 hr6 hr7 hc1 hc2 hc3 hc4 hc5 hc6 hc7 hg hn hS hRS hW hRW hE1 hE2 hE3 hE4 hE5 hLT hRL hcp
 go_enter Try.func5, Try.ntmps5
 go_upto_region 6 with (first | ((with_reducible refine gate_dst (N := 4) rfl ?_); (try (refine gate_guard (by rfl) ?_; dsimp only)); refine box_event ?hg (N := 4) ?hd (cs := #[.int .i64 a0, .slice A1 l1.length c1, .slice A2 l2.length c2, .slice A3 l3.length c3, .slice A4 l4.length c4, .slice A5 l5.length c5]) (t := 26) ?hr ?_; (case hd => rfl); (case hg => rfl); (case hr => first | (go_simp; done) | (go_simp; rfl)); intro g1 hg_ w1 bk1 hb1; subst hg_; have HM1 := Aside0.mk (H0.out _ hb1 bk1); clear hb1 bk1; have z0 : w1.cell? ⟨w.heap.size, 0, none⟩ = some (.int .i64 a0) := (blk_cell HM1.out.blk 0).trans rfl; have z1 : w1.cell? ⟨w.heap.size, 1, none⟩ = some (.slice A1 l1.length c1) := (blk_cell HM1.out.blk 1).trans rfl; have z2 : w1.cell? ⟨w.heap.size, 2, none⟩ = some (.slice A2 l2.length c2) := (blk_cell HM1.out.blk 2).trans rfl; have z3 : w1.cell? ⟨w.heap.size, 3, none⟩ = some (.slice A3 l3.length c3) := (blk_cell HM1.out.blk 3).trans rfl; have z4 : w1.cell? ⟨w.heap.size, 4, none⟩ = some (.slice A4 l4.length c4) := (blk_cell HM1.out.blk 4).trans rfl; have z5 : w1.cell? ⟨w.heap.size, 5, none⟩ = some (.slice A5 l5.length c5) := (blk_cell HM1.out.blk 5).trans rfl) | (go_at_call 36; refine (HGR.out _ HM1.out).mono ?_; rintro e w2 ⟨rfl, hb2⟩; have HM2 := Aside0.mk (HM1.out.step hb2); clear hb2; clear z0 z1 z2 z3 z4 z5; have z0 : w2.cell? ⟨w.heap.size, 0, none⟩ = some (.int .i64 a0) := (blk_cell HM2.out.blk 0).trans rfl; have z1 : w2.cell? ⟨w.heap.size, 1, none⟩ = some (.slice A1 l1.length c1) := (blk_cell HM2.out.blk 1).trans rfl; have z2 : w2.cell? ⟨w.heap.size, 2, none⟩ = some (.slice A2 l2.length c2) := (blk_cell HM2.out.blk 2).trans rfl; have z3 : w2.cell? ⟨w.heap.size, 3, none⟩ = some (.slice A3 l3.length c3) := (blk_cell HM2.out.blk 3).trans rfl; have z4 : w2.cell? ⟨w.heap.size, 4, none⟩ = some (.slice A4 l4.length c4) := (blk_cell HM2.out.blk 4).trans rfl; have z5 : w2.cell? ⟨w.heap.size, 5, none⟩ = some (.slice A5 l5.length c5) := (blk_cell HM2.out.blk 5).trans rfl) | (go_at_call 38; refine (HCP.out _ HM2.out).mono ?_; rintro e w3 ⟨v1, v2, v3, v4, v5, rfl, q1, q2, q3, q4, q5, hb3⟩; obtain ⟨O1, o1, eq_, lo1, ko1⟩ := Kd.R_reads q1; subst eq_; clear q1; obtain ⟨O2, o2, eq_, lo2, ko2⟩ := Kd.R_reads q2; subst eq_; clear q2; obtain ⟨O3, o3, eq_, lo3, ko3⟩ := Kd.R_reads q3; subst eq_; clear q3; obtain ⟨O4, o4, eq_, lo4, ko4⟩ := Kd.R_reads q4; subst eq_; clear q4; obtain ⟨O5, o5, eq_, lo5, ko5⟩ := Kd.R_reads q5; subst eq_; clear q5; have LO := Aside0.mk (And.intro lo1 (And.intro lo2 (And.intro lo3 (And.intro lo4 lo5)))); have KO := Aside0.mk (And.intro ko1 (And.intro ko2 (And.intro ko3 (And.intro ko4 ko5)))); clear lo1 lo2 lo3 lo4 lo5 ko1 ko2 ko3 ko4 ko5; have HB3 := Aside0.mk hb3; have HM3 := Aside0.mk (HM2.out.step hb3); clear hb3; clear z0 z1 z2 z3 z4 z5) | (go_at_call 39; refine (lent39 A6 c6 is _ _ (Kd.C_below HR6.out HM3.out.below) HC6.out (lent_is HNI.out)).mono ?_; rintro e w4 ⟨gl, capl, rfl, qL, hb4⟩; have HL4 := Aside0.mk qL; have HB34 := Aside0.mk (below_step (Below.refl w3.heap.size w3) hb4); have HM4 := Aside0.mk (HM3.out.step hb4); clear qL hb4) | ((with_reducible refine gate_dst (N := 9) rfl ?_); (try (refine gate_guard (by rfl) ?_; dsimp only)); refine box_event ?hg (N := 9) ?hd (cs := #[.int .i64 0, .slice none 0 0, .slice none 0 0, .slice none 0 0, .slice none 0 0, .slice none 0 0]) (t := 26) ?hr ?_; (case hd => rfl); (case hg => rfl); (case hr => first | (go_simp; done) | (go_simp; rfl)); intro g9 hg_ w5 bk5 hb5; have GE9 := Aside0.mk (show w4.heap.size ≤ g9 from by rw [hg_]; exact Nat.le_refl _); clear hg_; have HB45 := Aside0.mk hb5; have KB9 := Aside0.mk bk5; clear hb5 bk5) | ((with_reducible refine gate_store (t := 26) (p := .tmp 9) (x := .tmp 26) rfl ?_); refine skip_event (W' := (sets6 w5 g9 (.int .i64 a0) (.slice O1 l1.length o1) (.slice O2 l2.length o2) (.slice O3 l3.length o3) (.slice O4 l4.length o4) (.slice O5 l5.length o5))) ?hn ?hs ?hr ?_; (case hn => rfl); (case hs => rfl); (case hr => exact run_store26 rfl rfl rfl KB9.out); intro w6 hw_; have HB46 := Aside0.mk (show Below w4.heap.size w4 w6 from by rw [hw_]; exact below_sets6 _ _ _ _ _ _ HB45.out GE9.out); have K9 := Aside0.mk (show w6.heap[g9]? = some (.cells #[.int .i64 a0, .slice O1 l1.length o1, .slice O2 l2.length o2, .slice O3 l3.length o3, .slice O4 l4.length o4, .slice O5 l5.length o5] 26 (0, 0)) from by rw [hw_]; exact blk_sets6 _ _ _ _ _ _ KB9.out); clear hw_; have HM6 := Aside0.mk (HM4.out.step HB46.out); have HB36 := Aside0.mk (below_step HB34.out HB46.out); have HO6 := Aside0.mk (show MayAt a0 O1 o1 l1 O2 o2 l2 O3 o3 l3 O4 o4 l4 O5 o5 l5 g9 w w6 from ⟨HM6.out.below, K9.out, Kd.C_below KO.out.1 HB36.out, Kd.C_below KO.out.2.1 HB36.out, Kd.C_below KO.out.2.2.1 HB36.out, Kd.C_below KO.out.2.2.2.1 HB36.out, Kd.C_below KO.out.2.2.2.2 HB36.out⟩); have HL6 := Aside0.mk (Kd.R_below HL4.out HB46.out); clear HB45 KB9 K9 KO HM3 HB3 HM4 HB34 HB46 HB36 HL4 GE9; have z0 : w6.cell? ⟨w.heap.size, 0, none⟩ = some (.int .i64 a0) := (blk_cell HM6.out.blk 0).trans rfl; have z1 : w6.cell? ⟨w.heap.size, 1, none⟩ = some (.slice A1 l1.length c1) := (blk_cell HM6.out.blk 1).trans rfl; have z2 : w6.cell? ⟨w.heap.size, 2, none⟩ = some (.slice A2 l2.length c2) := (blk_cell HM6.out.blk 2).trans rfl; have z3 : w6.cell? ⟨w.heap.size, 3, none⟩ = some (.slice A3 l3.length c3) := (blk_cell HM6.out.blk 3).trans rfl; have z4 : w6.cell? ⟨w.heap.size, 4, none⟩ = some (.slice A4 l4.length c4) := (blk_cell HM6.out.blk 4).trans rfl; have z5 : w6.cell? ⟨w.heap.size, 5, none⟩ = some (.slice A5 l5.length c5) := (blk_cell HM6.out.blk 5).trans rfl; have o_0 : w6.cell? ⟨g9, 0, none⟩ = some (.int .i64 a0) := (blk_cell HO6.out.blk 0).trans rfl; have o_1 : w6.cell? ⟨g9, 1, none⟩ = some (.slice O1 l1.length o1) := (blk_cell HO6.out.blk 1).trans rfl; have o_2 : w6.cell? ⟨g9, 2, none⟩ = some (.slice O2 l2.length o2) := (blk_cell HO6.out.blk 2).trans rfl; have o_3 : w6.cell? ⟨g9, 3, none⟩ = some (.slice O3 l3.length o3) := (blk_cell HO6.out.blk 3).trans rfl; have o_4 : w6.cell? ⟨g9, 4, none⟩ = some (.slice O4 l4.length o4) := (blk_cell HO6.out.blk 4).trans rfl; have o_5 : w6.cell? ⟨g9, 5, none⟩ = some (.slice O5 l5.length o5) := (blk_cell HO6.out.blk 5).trans rfl) | (go_at_call 40; with_reducible refine (strash_Small.calls a0 O1 o1 l1 O2 o2 l2 O3 o3 l3 O4 o4 l4 O5 o5 l5 b0 m1 m2 m3 m4 m5 tl eS _ (HO6.out.step (Below.refl _ _)).h1 LO.out.1 (HO6.out.step (Below.refl _ _)).h2 LO.out.2.1 (HO6.out.step (Below.refl _ _)).h3 LO.out.2.2.1 (HO6.out.step (Below.refl _ _)).h4 LO.out.2.2.2.1 (HO6.out.step (Below.refl _ _)).h5 LO.out.2.2.2.2 HS.out).mono ?_; rintro e w7 ⟨v1, v2, v3, v4, v5, v6, rfl, q1, q2, q3, q4, q5, q6, hb⟩; obtain ⟨X1, d1, eq_⟩ := Kd.R_slice q1; subst eq_; obtain ⟨X2, d2, eq_⟩ := Kd.R_slice q2; subst eq_; obtain ⟨X3, d3, eq_⟩ := Kd.R_slice q3; subst eq_; obtain ⟨X4, d4, eq_⟩ := Kd.R_slice q4; subst eq_; obtain ⟨X5, d5, eq_⟩ := Kd.R_slice q5; subst eq_; obtain ⟨X6, d6, eq_⟩ := Kd.R_slice q6; subst eq_; replace q1 := Kd.R_mono q1 (ok' := fun _ => True) (fun _ _ => trivial); replace q2 := Kd.R_mono q2 (ok' := fun _ => True) (fun _ _ => trivial); replace q3 := Kd.R_mono q3 (ok' := fun _ => True) (fun _ _ => trivial); replace q4 := Kd.R_mono q4 (ok' := fun _ => True) (fun _ _ => trivial); replace q5 := Kd.R_mono q5 (ok' := fun _ => True) (fun _ _ => trivial); replace q6 := Kd.R_mono q6 (ok' := fun _ => True) (fun _ _ => trivial); have LX1 := (Kd.R_reads' q1).2.1; have LX2 := (Kd.R_reads' q2).2.1; have LX3 := (Kd.R_reads' q3).2.1; have LX4 := (Kd.R_reads' q4).2.1; have LX5 := (Kd.R_reads' q5).2.1; have LX6 := (Kd.R_reads' q6).2.1; have LQX := Aside0.mk (And.intro LX1 (And.intro LX2 (And.intro LX3 (And.intro LX4 (And.intro LX5 LX6))))); clear LX1 LX2 LX3 LX4 LX5 LX6; have QX := Aside0.mk (And.intro q1 (And.intro q2 (And.intro q3 (And.intro q4 (And.intro q5 q6))))); clear q1 q2 q3 q4 q5 q6; have HBc := Aside0.mk hb; clear hb; have HB67 := Aside0.mk HBc.out; have HB67s := Aside0.mk HBc.out.size; clear HBc; clear z0 z1 z2 z3 z4 z5; clear o_0 o_1 o_2 o_3 o_4 o_5) | ((with_reducible refine gate_dst (N := 11) rfl ?_); (try (refine gate_guard (by rfl) ?_; dsimp only)); refine box_event ?hg (N := 11) ?hd (cs := #[.int .i64 0, .slice none 0 0, .slice none 0 0, .slice none 0 0, .slice none 0 0, .slice none 0 0]) (t := 26) ?hr ?_; (case hd => rfl); (case hg => rfl); (case hr => first | (go_simp; done) | (go_simp; rfl)); intro g11 hg_ w8 bk8 hb8; have GE11 := Aside0.mk (show w7.heap.size ≤ g11 from by rw [hg_]; exact Nat.le_refl _); clear hg_; have HB78 := Aside0.mk hb8; have KB11 := Aside0.mk bk8; clear hb8 bk8) | ((with_reducible refine gate_store (t := 26) (p := .tmp 11) (x := .tmp 32) rfl ?_); refine skip_event (W' := (sets6 w8 g11 (.int .i64 b0) (.slice X1 m1.length d1) (.slice X2 m2.length d2) (.slice X3 m3.length d3) (.slice X4 m4.length d4) (.slice X5 m5.length d5))) ?hn ?hs ?hr ?_; (case hn => rfl); (case hs => rfl); (case hr => exact run_store26 rfl rfl rfl KB11.out); intro w9 hw_; have HBS9 := Aside0.mk (show Below w6.heap.size w6 w9 from by rw [hw_]; exact below_sets6 _ _ _ _ _ _ (below_step HB67.out HB78.out) (Nat.le_trans HB67.out.size GE11.out)); have HX9 := Aside0.mk (show CirR b0 X1 d1 m1 X2 d2 m2 X3 d3 m3 X4 d4 m4 X5 d5 m5 X6 d6 tl g11 w6.heap.size w9 from by rw [hw_]; exact CirR.mk' KB11.out (Kd.R_below QX.out.1 HB78.out) (Kd.R_below QX.out.2.1 HB78.out) (Kd.R_below QX.out.2.2.1 HB78.out) (Kd.R_below QX.out.2.2.2.1 HB78.out) (Kd.R_below QX.out.2.2.2.2.1 HB78.out) (Kd.R_below QX.out.2.2.2.2.2 HB78.out)); clear hw_ HB67 HB78 KB11 QX; have z0 : w9.cell? ⟨w.heap.size, 0, none⟩ = some (.int .i64 a0) := (blk_cell (HM6.out.step HBS9.out).blk 0).trans rfl; have z1 : w9.cell? ⟨w.heap.size, 1, none⟩ = some (.slice A1 l1.length c1) := (blk_cell (HM6.out.step HBS9.out).blk 1).trans rfl; have z2 : w9.cell? ⟨w.heap.size, 2, none⟩ = some (.slice A2 l2.length c2) := (blk_cell (HM6.out.step HBS9.out).blk 2).trans rfl; have z3 : w9.cell? ⟨w.heap.size, 3, none⟩ = some (.slice A3 l3.length c3) := (blk_cell (HM6.out.step HBS9.out).blk 3).trans rfl; have z4 : w9.cell? ⟨w.heap.size, 4, none⟩ = some (.slice A4 l4.length c4) := (blk_cell (HM6.out.step HBS9.out).blk 4).trans rfl; have z5 : w9.cell? ⟨w.heap.size, 5, none⟩ = some (.slice A5 l5.length c5) := (blk_cell (HM6.out.step HBS9.out).blk 5).trans rfl) | (go_at_call 41; with_reducible refine (inquestref24_Small.calls kS a0 A1 c1 l1 A2 c2 l2 A3 c3 l3 A4 c4 l4 A5 c5 l5 b0 m1 m2 m3 m4 m5 tl eS _ (HM6.out.step HBS9.out).h1 HC1.out (HM6.out.step HBS9.out).h2 HC2.out (HM6.out.step HBS9.out).h3 HC3.out (HM6.out.step HBS9.out).h4 HC4.out (HM6.out.step HBS9.out).h5 HC5.out HRS.out).mono ?_; rintro e w10 ⟨v1, v2, v3, v4, v5, v6, rfl, q1, q2, q3, q4, q5, q6, hb⟩; obtain ⟨Y1, f1, eq_⟩ := Kd.R_slice q1; subst eq_; obtain ⟨Y2, f2, eq_⟩ := Kd.R_slice q2; subst eq_; obtain ⟨Y3, f3, eq_⟩ := Kd.R_slice q3; subst eq_; obtain ⟨Y4, f4, eq_⟩ := Kd.R_slice q4; subst eq_; obtain ⟨Y5, f5, eq_⟩ := Kd.R_slice q5; subst eq_; obtain ⟨Y6, f6, eq_⟩ := Kd.R_slice q6; subst eq_; replace q1 := Kd.R_mono q1 (ok' := fun _ => True) (fun _ _ => trivial); replace q2 := Kd.R_mono q2 (ok' := fun _ => True) (fun _ _ => trivial); replace q3 := Kd.R_mono q3 (ok' := fun _ => True) (fun _ _ => trivial); replace q4 := Kd.R_mono q4 (ok' := fun _ => True) (fun _ _ => trivial); replace q5 := Kd.R_mono q5 (ok' := fun _ => True) (fun _ _ => trivial); replace q6 := Kd.R_mono q6 (ok' := fun _ => True) (fun _ _ => trivial); have LX1 := (Kd.R_reads' q1).2.1; have LX2 := (Kd.R_reads' q2).2.1; have LX3 := (Kd.R_reads' q3).2.1; have LX4 := (Kd.R_reads' q4).2.1; have LX5 := (Kd.R_reads' q5).2.1; have LX6 := (Kd.R_reads' q6).2.1; have LQY := Aside0.mk (And.intro LX1 (And.intro LX2 (And.intro LX3 (And.intro LX4 (And.intro LX5 LX6))))); clear LX1 LX2 LX3 LX4 LX5 LX6; have QY := Aside0.mk (And.intro q1 (And.intro q2 (And.intro q3 (And.intro q4 (And.intro q5 q6))))); clear q1 q2 q3 q4 q5 q6; have HBc := Aside0.mk hb; clear hb; clear z0 z1 z2 z3 z4 z5; have HB910 := Aside0.mk HBc.out; have HB610s := Aside0.mk (Nat.le_trans HBS9.out.size HBc.out.size); clear HBc) | ((with_reducible refine gate_dst (N := 14) rfl ?_); (try (refine gate_guard (by rfl) ?_; dsimp only)); refine box_event ?hg (N := 14) ?hd (cs := #[.int .i64 0, .slice none 0 0, .slice none 0 0, .slice none 0 0, .slice none 0 0, .slice none 0 0]) (t := 26) ?hr ?_; (case hd => rfl); (case hg => rfl); (case hr => first | (go_simp; done) | (go_simp; rfl)); intro g14 hg_ w11 bk11 hb11; have GE14 := Aside0.mk (show w10.heap.size ≤ g14 from by rw [hg_]; exact Nat.le_refl _); clear hg_; have HB1011 := Aside0.mk hb11; have KB14 := Aside0.mk bk11; clear hb11 bk11) | ((with_reducible refine gate_store (t := 26) (p := .tmp 14) (x := .tmp 38) rfl ?_); refine skip_event (W' := (sets6 w11 g14 (.int .i64 b0) (.slice Y1 m1.length f1) (.slice Y2 m2.length f2) (.slice Y3 m3.length f3) (.slice Y4 m4.length f4) (.slice Y5 m5.length f5))) ?hn ?hs ?hr ?_; (case hn => rfl); (case hs => rfl); (case hr => exact run_store26 rfl rfl rfl KB14.out); intro w12 hw_; have HB912 := Aside0.mk (show Below w9.heap.size w9 w12 from by rw [hw_]; exact below_sets6 _ _ _ _ _ _ (below_step HB910.out HB1011.out) (Nat.le_trans HB910.out.size GE14.out)); have HY12 := Aside0.mk (show CirR b0 Y1 f1 m1 Y2 f2 m2 Y3 f3 m3 Y4 f4 m4 Y5 f5 m5 Y6 f6 tl g14 w9.heap.size w12 from by rw [hw_]; exact CirR.mk' KB14.out (Kd.R_below QY.out.1 HB1011.out) (Kd.R_below QY.out.2.1 HB1011.out) (Kd.R_below QY.out.2.2.1 HB1011.out) (Kd.R_below QY.out.2.2.2.1 HB1011.out) (Kd.R_below QY.out.2.2.2.2.1 HB1011.out) (Kd.R_below QY.out.2.2.2.2.2 HB1011.out)); clear hw_; have HBS12 := Aside0.mk (below_step HBS9.out HB912.out); have HX12 := Aside0.mk (HX9.out.step HB912.out); have NG := Aside0.mk (show g11 ≠ g14 from fun e => by have h1 := blk_lt HX9.out.k; have h2 := GE14.out; have h3 := HB910.out.size; omega); clear HB910 HB1011 KB14 QY HBS9 HX9 HB912; have x0 : w12.cell? ⟨g11, 0, none⟩ = some (.int .i64 b0) := (blk_cell HX12.out.k 0).trans rfl; have x1 : w12.cell? ⟨g11, 1, none⟩ = some (.slice X1 m1.length d1) := (blk_cell HX12.out.k 1).trans rfl; have x2 : w12.cell? ⟨g11, 2, none⟩ = some (.slice X2 m2.length d2) := (blk_cell HX12.out.k 2).trans rfl; have x3 : w12.cell? ⟨g11, 3, none⟩ = some (.slice X3 m3.length d3) := (blk_cell HX12.out.k 3).trans rfl; have x4 : w12.cell? ⟨g11, 4, none⟩ = some (.slice X4 m4.length d4) := (blk_cell HX12.out.k 4).trans rfl; have x5 : w12.cell? ⟨g11, 5, none⟩ = some (.slice X5 m5.length d5) := (blk_cell HX12.out.k 5).trans rfl; have y0 : w12.cell? ⟨g14, 0, none⟩ = some (.int .i64 b0) := (blk_cell HY12.out.k 0).trans rfl; have y1 : w12.cell? ⟨g14, 1, none⟩ = some (.slice Y1 m1.length f1) := (blk_cell HY12.out.k 1).trans rfl; have y2 : w12.cell? ⟨g14, 2, none⟩ = some (.slice Y2 m2.length f2) := (blk_cell HY12.out.k 2).trans rfl; have y3 : w12.cell? ⟨g14, 3, none⟩ = some (.slice Y3 m3.length f3) := (blk_cell HY12.out.k 3).trans rfl; have y4 : w12.cell? ⟨g14, 4, none⟩ = some (.slice Y4 m4.length f4) := (blk_cell HY12.out.k 4).trans rfl; have y5 : w12.cell? ⟨g14, 5, none⟩ = some (.slice Y5 m5.length f5) := (blk_cell HY12.out.k 5).trans rfl))
 have GG11 := Aside0.mk (Nat.le_trans (show w6.heap.size ≤ w7.heap.size from HB67s.out) GE11.out)
 have GG14 := Aside0.mk (Nat.le_trans HB610s.out GE14.out)
 clear gg1 gg2
 go_upto_region 8 with (first | (go_at_call 34; with_reducible refine (inquestref03_Same.calls k1 b0 X1 d1 m1 X2 d2 m2 X3 d3 m3 X4 d4 m4 X5 d5 m5 b0 Y1 f1 m1 Y2 f2 m2 Y3 f3 m3 Y4 f4 m4 Y5 f5 m5 true _ (Kd.R_reads' HX12.out.r1).2.2 LQX.out.1 (Kd.R_reads' HX12.out.r2).2.2 LQX.out.2.1 (Kd.R_reads' HX12.out.r3).2.2 LQX.out.2.2.1 (Kd.R_reads' HX12.out.r4).2.2 LQX.out.2.2.2.1 (Kd.R_reads' HX12.out.r5).2.2 LQX.out.2.2.2.2.1 (Kd.R_reads' HY12.out.r1).2.2 LQY.out.1 (Kd.R_reads' HY12.out.r2).2.2 LQY.out.2.1 (Kd.R_reads' HY12.out.r3).2.2 LQY.out.2.2.1 (Kd.R_reads' HY12.out.r4).2.2 LQY.out.2.2.2.1 (Kd.R_reads' HY12.out.r5).2.2 LQY.out.2.2.2.2.1 HE1.out).mono ?_; rintro e w13 ⟨rfl, hb⟩; have HX13 := Aside0.mk (HX12.out.step hb); have HY13 := Aside0.mk (HY12.out.step hb); have HBS13 := Aside0.mk (below_step HBS12.out hb); clear hb; clear x0 x1 x2 x3 x4 x5; clear y0 y1 y2 y3 y4 y5) | (go_at_call 42; with_reducible refine (inquestref00_Numbers.calls k2 _ X6 d6 tl _ Y6 f6 tl true _ (V_of (Kd.R_reads' HX13.out.r6).2.2 LQX.out.2.2.2.2.2) (V_of (Kd.R_reads' HY13.out.r6).2.2 LQY.out.2.2.2.2.2) HE2.out).mono ?_; rintro e w14 ⟨rfl, hb⟩; have HX14 := Aside0.mk (HX13.out.step hb); have HY14 := Aside0.mk (HY13.out.step hb); have HBS14 := Aside0.mk (below_step HBS13.out hb); clear hb; have o_0 : w14.cell? ⟨g9, 0, none⟩ = some (.int .i64 a0) := (blk_cell (HO6.out.step HBS14.out).blk 0).trans rfl; have o_1 : w14.cell? ⟨g9, 1, none⟩ = some (.slice O1 l1.length o1) := (blk_cell (HO6.out.step HBS14.out).blk 1).trans rfl; have o_2 : w14.cell? ⟨g9, 2, none⟩ = some (.slice O2 l2.length o2) := (blk_cell (HO6.out.step HBS14.out).blk 2).trans rfl; have o_3 : w14.cell? ⟨g9, 3, none⟩ = some (.slice O3 l3.length o3) := (blk_cell (HO6.out.step HBS14.out).blk 3).trans rfl; have o_4 : w14.cell? ⟨g9, 4, none⟩ = some (.slice O4 l4.length o4) := (blk_cell (HO6.out.step HBS14.out).blk 4).trans rfl; have o_5 : w14.cell? ⟨g9, 5, none⟩ = some (.slice O5 l5.length o5) := (blk_cell (HO6.out.step HBS14.out).blk 5).trans rfl))
 go_wp2_with (first | (go_at_call 43; with_reducible refine (strash_With.calls a0 O1 o1 l1 O2 o2 l2 O3 o3 l3 O4 o4 l4 O5 o5 l5 (some ⟨gl, 0, none⟩) capl is e0 n1 n2 n3 n4 n5 tw eW _ (HO6.out.step HBS14.out).h1 LO.out.1 (HO6.out.step HBS14.out).h2 LO.out.2.1 (HO6.out.step HBS14.out).h3 LO.out.2.2.1 (HO6.out.step HBS14.out).h4 LO.out.2.2.2.1 (HO6.out.step HBS14.out).h5 LO.out.2.2.2.2 (lentC (Kd.R_below HL6.out HBS14.out)) (lentLe HL6.out) HW.out).mono ?_; rintro e w15 ⟨v1, v2, v3, v4, v5, v6, rfl, q1, q2, q3, q4, q5, q6, hb⟩; obtain ⟨P1, p1, eq_⟩ := Kd.R_slice q1; subst eq_; obtain ⟨P2, p2, eq_⟩ := Kd.R_slice q2; subst eq_; obtain ⟨P3, p3, eq_⟩ := Kd.R_slice q3; subst eq_; obtain ⟨P4, p4, eq_⟩ := Kd.R_slice q4; subst eq_; obtain ⟨P5, p5, eq_⟩ := Kd.R_slice q5; subst eq_; obtain ⟨P6, p6, eq_⟩ := Kd.R_slice q6; subst eq_; replace q1 := Kd.R_mono q1 (ok' := fun _ => True) (fun _ _ => trivial); replace q2 := Kd.R_mono q2 (ok' := fun _ => True) (fun _ _ => trivial); replace q3 := Kd.R_mono q3 (ok' := fun _ => True) (fun _ _ => trivial); replace q4 := Kd.R_mono q4 (ok' := fun _ => True) (fun _ _ => trivial); replace q5 := Kd.R_mono q5 (ok' := fun _ => True) (fun _ _ => trivial); replace q6 := Kd.R_mono q6 (ok' := fun _ => True) (fun _ _ => trivial); have LX1 := (Kd.R_reads' q1).2.1; have LX2 := (Kd.R_reads' q2).2.1; have LX3 := (Kd.R_reads' q3).2.1; have LX4 := (Kd.R_reads' q4).2.1; have LX5 := (Kd.R_reads' q5).2.1; have LX6 := (Kd.R_reads' q6).2.1; have LQP := Aside0.mk (And.intro LX1 (And.intro LX2 (And.intro LX3 (And.intro LX4 (And.intro LX5 LX6))))); clear LX1 LX2 LX3 LX4 LX5 LX6; have QP := Aside0.mk (And.intro q1 (And.intro q2 (And.intro q3 (And.intro q4 (And.intro q5 q6))))); clear q1 q2 q3 q4 q5 q6; have HBc := Aside0.mk hb; clear hb; clear o_0 o_1 o_2 o_3 o_4 o_5; have HX15 := Aside0.mk (HX14.out.step HBc.out); have HY15 := Aside0.mk (HY14.out.step HBc.out); have HBS15 := Aside0.mk (below_step HBS14.out HBc.out); have HBS14s := Aside0.mk HBS14.out.size; clear HBc HX14 HY14 HBS14) | ((with_reducible refine gate_store (t := 26) (p := .tmp 11) (x := .tmp 60) rfl ?_); refine skip_event (W' := (sets6 w15 g11 (.int .i64 e0) (.slice P1 n1.length p1) (.slice P2 n2.length p2) (.slice P3 n3.length p3) (.slice P4 n4.length p4) (.slice P5 n5.length p5))) ?hn ?hs ?hr ?_; (case hn => rfl); (case hs => rfl); (case hr => exact run_store26 rfl rfl rfl HX15.out.k); intro w16 hw_; have HBS16 := Aside0.mk (show Below w6.heap.size w6 w16 from by rw [hw_]; exact below_sets6 _ _ _ _ _ _ HBS15.out GG11.out); have HX16 := Aside0.mk (show CirR e0 P1 p1 n1 P2 p2 n2 P3 p3 n3 P4 p4 n4 P5 p5 n5 P6 p6 tw g11 w6.heap.size w16 from by rw [hw_]; exact CirR.mk' HX15.out.k (Kd.R_lower QP.out.1 HBS14s.out) (Kd.R_lower QP.out.2.1 HBS14s.out) (Kd.R_lower QP.out.2.2.1 HBS14s.out) (Kd.R_lower QP.out.2.2.2.1 HBS14s.out) (Kd.R_lower QP.out.2.2.2.2.1 HBS14s.out) (Kd.R_lower QP.out.2.2.2.2.2 HBS14s.out)); have HY16 := Aside0.mk (show CirR b0 Y1 f1 m1 Y2 f2 m2 Y3 f3 m3 Y4 f4 m4 Y5 f5 m5 Y6 f6 tl g14 w9.heap.size w16 from by rw [hw_]; exact HY15.out.far HX15.out.k (fun e => NG.out e.symm) _ _ _ _ _ _); clear hw_ HX15 HY15 HBS15 QP; have z0 : w16.cell? ⟨w.heap.size, 0, none⟩ = some (.int .i64 a0) := (blk_cell (HM6.out.step HBS16.out).blk 0).trans rfl; have z1 : w16.cell? ⟨w.heap.size, 1, none⟩ = some (.slice A1 l1.length c1) := (blk_cell (HM6.out.step HBS16.out).blk 1).trans rfl; have z2 : w16.cell? ⟨w.heap.size, 2, none⟩ = some (.slice A2 l2.length c2) := (blk_cell (HM6.out.step HBS16.out).blk 2).trans rfl; have z3 : w16.cell? ⟨w.heap.size, 3, none⟩ = some (.slice A3 l3.length c3) := (blk_cell (HM6.out.step HBS16.out).blk 3).trans rfl; have z4 : w16.cell? ⟨w.heap.size, 4, none⟩ = some (.slice A4 l4.length c4) := (blk_cell (HM6.out.step HBS16.out).blk 4).trans rfl; have z5 : w16.cell? ⟨w.heap.size, 5, none⟩ = some (.slice A5 l5.length c5) := (blk_cell (HM6.out.step HBS16.out).blk 5).trans rfl) | (go_at_call 44; with_reducible refine (inquestref24_With.calls kW a0 A1 c1 l1 A2 c2 l2 A3 c3 l3 A4 c4 l4 A5 c5 l5 A6 c6 is e0 n1 n2 n3 n4 n5 tw eW _ (HM6.out.step HBS16.out).h1 HC1.out (HM6.out.step HBS16.out).h2 HC2.out (HM6.out.step HBS16.out).h3 HC3.out (HM6.out.step HBS16.out).h4 HC4.out (HM6.out.step HBS16.out).h5 HC5.out (Kd.C_below HR6.out (HM6.out.step HBS16.out).below) HC6.out HRW.out).mono ?_; rintro e w17 ⟨v1, v2, v3, v4, v5, v6, rfl, q1, q2, q3, q4, q5, q6, hb⟩; obtain ⟨U1, u1, eq_⟩ := Kd.R_slice q1; subst eq_; obtain ⟨U2, u2, eq_⟩ := Kd.R_slice q2; subst eq_; obtain ⟨U3, u3, eq_⟩ := Kd.R_slice q3; subst eq_; obtain ⟨U4, u4, eq_⟩ := Kd.R_slice q4; subst eq_; obtain ⟨U5, u5, eq_⟩ := Kd.R_slice q5; subst eq_; obtain ⟨U6, u6, eq_⟩ := Kd.R_slice q6; subst eq_; replace q1 := Kd.R_mono q1 (ok' := fun _ => True) (fun _ _ => trivial); replace q2 := Kd.R_mono q2 (ok' := fun _ => True) (fun _ _ => trivial); replace q3 := Kd.R_mono q3 (ok' := fun _ => True) (fun _ _ => trivial); replace q4 := Kd.R_mono q4 (ok' := fun _ => True) (fun _ _ => trivial); replace q5 := Kd.R_mono q5 (ok' := fun _ => True) (fun _ _ => trivial); replace q6 := Kd.R_mono q6 (ok' := fun _ => True) (fun _ _ => trivial); have LX1 := (Kd.R_reads' q1).2.1; have LX2 := (Kd.R_reads' q2).2.1; have LX3 := (Kd.R_reads' q3).2.1; have LX4 := (Kd.R_reads' q4).2.1; have LX5 := (Kd.R_reads' q5).2.1; have LX6 := (Kd.R_reads' q6).2.1; have LQU := Aside0.mk (And.intro LX1 (And.intro LX2 (And.intro LX3 (And.intro LX4 (And.intro LX5 LX6))))); clear LX1 LX2 LX3 LX4 LX5 LX6; have QU := Aside0.mk (And.intro q1 (And.intro q2 (And.intro q3 (And.intro q4 (And.intro q5 q6))))); clear q1 q2 q3 q4 q5 q6; have HBc := Aside0.mk hb; clear hb; clear z0 z1 z2 z3 z4 z5; have HX17 := Aside0.mk (HX16.out.step HBc.out); have HY17 := Aside0.mk (HY16.out.step HBc.out); have HBS17 := Aside0.mk (below_step HBS16.out HBc.out); have HBS16s := Aside0.mk HBS16.out.size; clear HBc HX16 HY16 HBS16) | ((with_reducible refine gate_store (t := 26) (p := .tmp 14) (x := .tmp 67) rfl ?_); refine skip_event (W' := (sets6 w17 g14 (.int .i64 e0) (.slice U1 n1.length u1) (.slice U2 n2.length u2) (.slice U3 n3.length u3) (.slice U4 n4.length u4) (.slice U5 n5.length u5))) ?hn ?hs ?hr ?_; (case hn => rfl); (case hs => rfl); (case hr => exact run_store26 rfl rfl rfl HY17.out.k); intro w18 hw_; have HBS18 := Aside0.mk (show Below w6.heap.size w6 w18 from by rw [hw_]; exact below_sets6 _ _ _ _ _ _ HBS17.out GG14.out); have HX18 := Aside0.mk (show CirR e0 P1 p1 n1 P2 p2 n2 P3 p3 n3 P4 p4 n4 P5 p5 n5 P6 p6 tw g11 w6.heap.size w18 from by rw [hw_]; exact HX17.out.far HY17.out.k NG.out _ _ _ _ _ _); have HY18 := Aside0.mk (show CirR e0 U1 u1 n1 U2 u2 n2 U3 u3 n3 U4 u4 n4 U5 u5 n5 U6 u6 tw g14 w6.heap.size w18 from by rw [hw_]; exact CirR.mk' HY17.out.k (Kd.R_lower QU.out.1 HBS16s.out) (Kd.R_lower QU.out.2.1 HBS16s.out) (Kd.R_lower QU.out.2.2.1 HBS16s.out) (Kd.R_lower QU.out.2.2.2.1 HBS16s.out) (Kd.R_lower QU.out.2.2.2.2.1 HBS16s.out) (Kd.R_lower QU.out.2.2.2.2.2 HBS16s.out)); clear hw_ HX17 HY17 HBS17 QU; have x0 : w18.cell? ⟨g11, 0, none⟩ = some (.int .i64 e0) := (blk_cell HX18.out.k 0).trans rfl; have x1 : w18.cell? ⟨g11, 1, none⟩ = some (.slice P1 n1.length p1) := (blk_cell HX18.out.k 1).trans rfl; have x2 : w18.cell? ⟨g11, 2, none⟩ = some (.slice P2 n2.length p2) := (blk_cell HX18.out.k 2).trans rfl; have x3 : w18.cell? ⟨g11, 3, none⟩ = some (.slice P3 n3.length p3) := (blk_cell HX18.out.k 3).trans rfl; have x4 : w18.cell? ⟨g11, 4, none⟩ = some (.slice P4 n4.length p4) := (blk_cell HX18.out.k 4).trans rfl; have x5 : w18.cell? ⟨g11, 5, none⟩ = some (.slice P5 n5.length p5) := (blk_cell HX18.out.k 5).trans rfl; have y0 : w18.cell? ⟨g14, 0, none⟩ = some (.int .i64 e0) := (blk_cell HY18.out.k 0).trans rfl; have y1 : w18.cell? ⟨g14, 1, none⟩ = some (.slice U1 n1.length u1) := (blk_cell HY18.out.k 1).trans rfl; have y2 : w18.cell? ⟨g14, 2, none⟩ = some (.slice U2 n2.length u2) := (blk_cell HY18.out.k 2).trans rfl; have y3 : w18.cell? ⟨g14, 3, none⟩ = some (.slice U3 n3.length u3) := (blk_cell HY18.out.k 3).trans rfl; have y4 : w18.cell? ⟨g14, 4, none⟩ = some (.slice U4 n4.length u4) := (blk_cell HY18.out.k 4).trans rfl; have y5 : w18.cell? ⟨g14, 5, none⟩ = some (.slice U5 n5.length u5) := (blk_cell HY18.out.k 5).trans rfl) | (go_at_call 34; with_reducible refine (inquestref03_Same.calls k3 e0 P1 p1 n1 P2 p2 n2 P3 p3 n3 P4 p4 n4 P5 p5 n5 e0 U1 u1 n1 U2 u2 n2 U3 u3 n3 U4 u4 n4 U5 u5 n5 true _ (Kd.R_reads' HX18.out.r1).2.2 LQP.out.1 (Kd.R_reads' HX18.out.r2).2.2 LQP.out.2.1 (Kd.R_reads' HX18.out.r3).2.2 LQP.out.2.2.1 (Kd.R_reads' HX18.out.r4).2.2 LQP.out.2.2.2.1 (Kd.R_reads' HX18.out.r5).2.2 LQP.out.2.2.2.2.1 (Kd.R_reads' HY18.out.r1).2.2 LQU.out.1 (Kd.R_reads' HY18.out.r2).2.2 LQU.out.2.1 (Kd.R_reads' HY18.out.r3).2.2 LQU.out.2.2.1 (Kd.R_reads' HY18.out.r4).2.2 LQU.out.2.2.2.1 (Kd.R_reads' HY18.out.r5).2.2 LQU.out.2.2.2.2.1 HE3.out).mono ?_; rintro e w19 ⟨rfl, hb⟩; have HX19 := Aside0.mk (HX18.out.step hb); have HY19 := Aside0.mk (HY18.out.step hb); have HBS19 := Aside0.mk (below_step HBS18.out hb); clear hb; clear x0 x1 x2 x3 x4 x5; clear y0 y1 y2 y3 y4 y5) | (go_at_call 42; with_reducible refine (inquestref00_Numbers.calls k4 _ P6 p6 tw _ U6 u6 tw true _ (V_of (Kd.R_reads' HX19.out.r6).2.2 LQP.out.2.2.2.2.2) (V_of (Kd.R_reads' HY19.out.r6).2.2 LQU.out.2.2.2.2.2) HE4.out).mono ?_; rintro e w20 ⟨rfl, hb⟩; have HX20 := Aside0.mk (HX19.out.step hb); have HY20 := Aside0.mk (HY19.out.step hb); have HBS20 := Aside0.mk (below_step HBS19.out hb); clear hb) | (go_at_call 45; refine (strash_Lit.calls A7 c7 to_ lit vl _ (Kd.C_below HR7.out (below_step HM6.out.below HBS20.out)) HC7.out HLT.out).mono ?_; rintro e w21 ⟨rfl, hd_⟩; have HBS21 := Aside0.mk (below_step HBS20.out hd_.below); clear hd_) | (go_at_call 46; refine (inquestref24_Lit.calls A7 c7 to_ lit vl _ (Kd.C_below HR7.out (below_step HM6.out.below HBS21.out)) HC7.out HRL.out).mono ?_; rintro e w22 ⟨rfl, hd_⟩; have HBS22 := Aside0.mk (below_step HBS21.out hd_.below); clear hd_; have z0 : w22.cell? ⟨w.heap.size, 0, none⟩ = some (.int .i64 a0) := (blk_cell (HM6.out.step HBS22.out).blk 0).trans rfl; have z1 : w22.cell? ⟨w.heap.size, 1, none⟩ = some (.slice A1 l1.length c1) := (blk_cell (HM6.out.step HBS22.out).blk 1).trans rfl; have z2 : w22.cell? ⟨w.heap.size, 2, none⟩ = some (.slice A2 l2.length c2) := (blk_cell (HM6.out.step HBS22.out).blk 2).trans rfl; have z3 : w22.cell? ⟨w.heap.size, 3, none⟩ = some (.slice A3 l3.length c3) := (blk_cell (HM6.out.step HBS22.out).blk 3).trans rfl; have z4 : w22.cell? ⟨w.heap.size, 4, none⟩ = some (.slice A4 l4.length c4) := (blk_cell (HM6.out.step HBS22.out).blk 4).trans rfl; have z5 : w22.cell? ⟨w.heap.size, 5, none⟩ = some (.slice A5 l5.length c5) := (blk_cell (HM6.out.step HBS22.out).blk 5).trans rfl; have o_0 : w22.cell? ⟨g9, 0, none⟩ = some (.int .i64 a0) := (blk_cell (HO6.out.step HBS22.out).blk 0).trans rfl; have o_1 : w22.cell? ⟨g9, 1, none⟩ = some (.slice O1 l1.length o1) := (blk_cell (HO6.out.step HBS22.out).blk 1).trans rfl; have o_2 : w22.cell? ⟨g9, 2, none⟩ = some (.slice O2 l2.length o2) := (blk_cell (HO6.out.step HBS22.out).blk 2).trans rfl; have o_3 : w22.cell? ⟨g9, 3, none⟩ = some (.slice O3 l3.length o3) := (blk_cell (HO6.out.step HBS22.out).blk 3).trans rfl; have o_4 : w22.cell? ⟨g9, 4, none⟩ = some (.slice O4 l4.length o4) := (blk_cell (HO6.out.step HBS22.out).blk 4).trans rfl; have o_5 : w22.cell? ⟨g9, 5, none⟩ = some (.slice O5 l5.length o5) := (blk_cell (HO6.out.step HBS22.out).blk 5).trans rfl) | (go_at_call 34; with_reducible refine (inquestref03_Same.calls k5 a0 O1 o1 l1 O2 o2 l2 O3 o3 l3 O4 o4 l4 O5 o5 l5 a0 A1 c1 l1 A2 c2 l2 A3 c3 l3 A4 c4 l4 A5 c5 l5 true _ (HO6.out.step HBS22.out).h1 LO.out.1 (HO6.out.step HBS22.out).h2 LO.out.2.1 (HO6.out.step HBS22.out).h3 LO.out.2.2.1 (HO6.out.step HBS22.out).h4 LO.out.2.2.2.1 (HO6.out.step HBS22.out).h5 LO.out.2.2.2.2 (HM6.out.step HBS22.out).h1 HC1.out (HM6.out.step HBS22.out).h2 HC2.out (HM6.out.step HBS22.out).h3 HC3.out (HM6.out.step HBS22.out).h4 HC4.out (HM6.out.step HBS22.out).h5 HC5.out HE5.out).mono ?_; rintro e w23 ⟨rfl, hb⟩; have HBS23 := Aside0.mk (below_step HBS22.out hb); clear hb; clear z0 z1 z2 z3 z4 z5; clear o_0 o_1 o_2 o_3 o_4 o_5) | (go_at_call 47; refine (back47 gl capl A6 c6 is _ _ (Kd.R_below HL6.out HBS23.out) (Kd.C_below HR6.out (below_step HM6.out.below HBS23.out)) HC6.out HNI.out).mono ?_; rintro e w24 ⟨rfl, hb⟩; have HBS24 := Aside0.mk (below_step HBS23.out hb); clear hb) | (go_at_call 37; refine (inquestlaw24_lives.calls kl true _ HLV.out).mono ?_; rintro e w25 ⟨rfl, hb25⟩))
 go_ret
 exact ⟨rfl, below_step (below_step HM6.out.below HBS24.out) hb25⟩
end Go.Proofs.Yteiiodlgdbiimaa.F
end
section
namespace Go.Proofs.Yteiiodlgdbiimaa.F
open Go.RowKit Go.Shelf Go.Proofs.YteiiodlgdbiimaaW.PrintWords Go.Proofs.YteiiodlgdbiimaaW.PrintLast Go.Proofs.YteiiodlgdbiimaaW.PrintMore
set_option linter.unusedVariables false
set_option linter.unusedSimpArgs false
theorem great_is5 {a0 : Int} {l1 : List S41} {l2 : List S68} {l3 l4 l5 : List Int} : ∃ b, inquestlaw24_great.f a0 l1 l2 l3 l4 l5 = some b ∧ (b = false → a0 ≤ 300 ∧ l1.length ≤ 300 ∧ l2.length ≤ 300) := by
  unfold inquestlaw24_great.f
  by_cases g1 : a0 > 300
  · exact ⟨true, by rw [if_pos g1], fun h => nomatch h⟩
  by_cases g2 : (l1.length : Int) > 300
  · exact ⟨true, by rw [if_neg g1, if_pos g2], fun h => nomatch h⟩
  by_cases g3 : (l2.length : Int) > 300
  · exact ⟨true, by rw [if_neg g1, if_neg g2, if_pos g3], fun h => nomatch h⟩
  exact ⟨_, by rw [if_neg g1, if_neg g2, if_neg g3], fun _ => ⟨by omega, by omega, by omega⟩⟩
theorem law5 (a0 : Int) (A1 : Option Addr) (c1 : Nat) (l1 : List S41) (A2 : Option Addr) (c2 : Nat) (l2 : List S68) (A3 : Option Addr) (c3 : Nat) (l3 : List Int) (A4 : Option Addr) (c4 : Nat) (l4 : List Int) (A5 : Option Addr) (c5 : Nat) (l5 : List Int) (A6 : Option Addr) (c6 : Nat) (is : List Int) (A7 : Option Addr) (c7 : Nat) (to_ : List Int) (lit : Int) (w : World) (hr1 : Kd.C k41 w A1 l1.length l1) (hc1 : l1.length ≤ c1) (hr2 : Kd.C k68 w A2 l2.length l2) (hc2 : l2.length ≤ c2) (hr3 : Kd.C (Kd.int .u32) w A3 l3.length l3) (hc3 : l3.length ≤ c3) (hr4 : Kd.C (Kd.int .u32) w A4 l4.length l4) (hc4 : l4.length ≤ c4) (hr5 : Kd.C (Kd.int .u32) w A5 l5.length l5) (hc5 : l5.length ≤ c5) (hr6 : Kd.C (Kd.int .u8) w A6 is.length is) (hc6 : is.length ≤ c6) (hr7 : Kd.C (Kd.int .u32) w A7 to_.length to_) (hc7 : to_.length ≤ c7)
    (ha : -9223372036854775808 ≤ a0 ∧ a0 < 9223372036854775808) (h1 : In41 l1) (h2 : In68 l2) (h3 : InU32 l3) (h4 : InU32 l4) (h5 : InU32 l5) (h6 : InU8 is) (h7 : InU32 to_) (hlit : 0 ≤ lit ∧ lit < 4294967296) (s3 : l3.length < 35184372088832) (s4 : l4.length < 35184372088832) (s5 : l5.length < 35184372088832) :
    Calls Try.prog 5 #[.agg #[.int .i64 a0, .slice A1 l1.length c1, .slice A2 l2.length c2, .slice A3 l3.length c3, .slice A4 l4.length c4, .slice A5 l5.length c5], .slice A6 is.length c6, .slice A7 to_.length c7, .int .u32 lit] w fun e w' => e = .returned (.bool true) ∧ Below w.heap.size w w' := by
  obtain ⟨b, hg, hgb⟩ := great_is5 (a0 := a0) (l1 := l1) (l2 := l2) (l3 := l3) (l4 := l4) (l5 := l5)
  cases b with
  | true => exact law5_great a0 A1 c1 l1 A2 c2 l2 A3 c3 l3 A4 c4 l4 A5 c5 l5 A6 c6 is A7 c7 to_ lit w hr1 hc1 hr2 hc2 hr3 hc3 hr4 hc4 hr5 hc5 hr6 hc6 hr7 hc7 hg
  | false =>
  obtain ⟨g1, g2, g3⟩ := hgb rfl
  by_cases hn : is.length ≤ 2000
  case neg => exact law5_long a0 A1 c1 l1 A2 c2 l2 A3 c3 l3 A4 c4 l4 A5 c5 l5 A6 c6 is A7 c7 to_ lit w hr1 hc1 hr2 hc2 hr3 hc3 hr4 hc4 hr5 hc5 hr6 hc6 hr7 hc7 hg (by omega)
  have hS := small_is (a0 := a0) (by omega) (by omega) h1 h2 h3 h4 h5
  obtain ⟨kS, hRS⟩ := Ev.rounds (rsmall_ev ha (by omega) (by omega) (by omega) (by omega) (by omega) h1 h2 h3 h4 h5)
  have hW := with_is (a0 := a0) (is := is) (by omega) (by omega) h1 h2 h3 h4 h5 h6
  obtain ⟨kW, hRW⟩ := Ev.rounds (rwith_ev (is := is) ha (by omega) (by omega) (by omega) (by omega) (by omega) (by omega) h1 h2 h3 h4 h5 h6)
  have hsl : (smallR a0 l1 l2 l3 l4 l5).2.1.length < 9223372036854775807 ∧ (smallR a0 l1 l2 l3 l4 l5).2.2.1.length < 9223372036854775807 := by
    unfold smallR
    split
    · rename_i hm
      have hok : okIn l1 l2 = true := okIn_of h1 h2 (by omega) (by omega)
      obtain ⟨hv, _⟩ := valid_of_may hok hm
      have hp := hv.pos
      have hle := hv.le
      have hwv := (runW_ok (first := 1 + a0 + (l1.length : Int)) (l2 := l2) (is := blankL (a0.toNat + l1.length + l2.length + 1)) (by omega) h2 (fun x hx => by
        have := blank_tri _ x hx
        unfold Tri at this
        omega) (blankL (a0.toNat + l1.length + l2.length + 1)).length (by rw [blank_len]; omega)).2.1
      rw [blank_len] at hwv
      constructor
      · show (latM _ l1).length < _
        unfold latM
        rw [List.length_map]
        omega
      · show (smallW a0 l1 l2).2.length < _
        unfold smallW wasW
        rw [blank_len]
        omega
    · exact ⟨by decide, by decide⟩
  have hwl : (withR a0 l1 l2 l3 l4 l5 is).2.1.length < 9223372036854775807 ∧ (withR a0 l1 l2 l3 l4 l5 is).2.2.1.length < 9223372036854775807 := by
    unfold withR
    split
    · rename_i hm
      have hok : okIn l1 l2 = true := okIn_of h1 h2 (by omega) (by omega)
      obtain ⟨hv, _⟩ := valid_of_may hok hm.1
      have hp := hv.pos
      have hle := hv.le
      have hwv := (runW_ok (first := 1 + a0 + (l1.length : Int)) (l2 := l2) (is := is) (by omega) h2 h6 is.length (by omega)).2.1
      constructor
      · show (latM _ l1).length < _
        unfold latM
        rw [List.length_map]
        omega
      · show (wasW a0 l1 l2 is).2.length < _
        unfold wasW
        omega
    · exact ⟨by decide, by decide⟩
  have hcp : inquestref03_Copy.f a0 l1 l2 l3 l4 l5 = some (a0, l1, l2, l3, l4, l5) := by
    unfold inquestref03_Copy.f
    rw [if_pos (by simp; omega), if_pos (by simp; omega), if_pos (by simp; omega), if_pos (by simp; omega), if_pos (by simp; omega)]
    rfl
  generalize smallR a0 l1 l2 l3 l4 l5 = R at hS hRS hsl
  generalize withR a0 l1 l2 l3 l4 l5 is = Q at hW hRW hwl
  obtain ⟨b0, m1, m2, m3, m4, m5, tl, eS⟩ := R
  obtain ⟨e0, n1, n2, n3, n4, n5, tw, eW⟩ := Q
  obtain ⟨k1, hE1⟩ := Ev.rounds (same_ev (a0 := b0) (l1 := m1) (l2 := m2) (l3 := m3) (l4 := m4) (l5 := m5) hsl.1 hsl.2)
  obtain ⟨k2, hE2⟩ := Ev.rounds (numbersf_ev tl)
  obtain ⟨k3, hE3⟩ := Ev.rounds (same_ev (a0 := e0) (l1 := n1) (l2 := n2) (l3 := n3) (l4 := n4) (l5 := n5) hwl.1 hwl.2)
  obtain ⟨k4, hE4⟩ := Ev.rounds (numbersf_ev tw)
  obtain ⟨k5, hE5⟩ := Ev.rounds (same_ev (a0 := a0) (l1 := l1) (l2 := l2) (l3 := l3) (l4 := l4) (l5 := l5) (by omega) (by omega))
  exact law5_main a0 A1 c1 l1 A2 c2 l2 A3 c3 l3 A4 c4 l4 A5 c5 l5 A6 c6 is A7 c7 to_ lit w hr1 hc1 hr2 hc2 hr3 hc3 hr4 hc4 hr5 hc5 hr6 hc6 hr7 hc7 hg hn kS kW k1 k2 k3 k4 k5 b0 m1 m2 m3 m4 m5 tl eS e0 n1 n2 n3 n4 n5 tw eW (litP to_ lit) hS hRS hE1 hE2 hW hRW hE3 hE4 (lit_is hlit.1 hlit.2) (rlit_is h7 hlit.1 hlit.2) hE5 hcp
end Go.Proofs.Yteiiodlgdbiimaa.F
end
section
namespace Go.Proofs.Yteiiodlgdbiimaa.F
open Go.Joins Go.ChangeShapes Go.WideShapes Go.ChangeAt Go.Deep Go.RowKit Go.Proofs.YteiiodlgdbiimaaW.PrintWords Go.Proofs.YteiiodlgdbiimaaW.PrintLast Go.Proofs.YteiiodlgdbiimaaW.PrintMore
set_option linter.unusedVariables false
set_option linter.unusedSimpArgs false
section
variable {H : Type} {enc : TypeId × Value → H} {w : World} {base : Nat} {sp : Nat → Bool} {held : Bool}
theorem short_slice {t e : TypeId} {fuel n c M : Nat} {A : Option Addr} {x : DataW H × List MemPlace} (ht : Try.prog.underlying t = some (.slice e)) (h : DataW.trod enc Try.prog w base sp held fuel t [.slice A n c] = some x) (hb : ∀ m ∈ x.1.weights Try.prog t, m ≤ M) : n * Try.prog.bytesOf e ≤ M := by
  rcases open_slice ht h with ⟨hcs, _⟩ | ⟨a, len, cap, m, n', D, Pl, hcs, _, _, _, _, hx, _⟩
  · have e1 : n = 0 := by
      have h0 := List.cons.inj hcs
      have h1 := h0.1
      simp only [Value.slice.injEq] at h1
      exact h1.2.1
    subst e1
    exact Nat.le_trans (Nat.le_of_eq (Nat.zero_mul _)) (Nat.zero_le _)
  · have e1 : n = len := by
      have h0 := List.cons.inj hcs
      have h1 := h0.1
      simp only [Value.slice.injEq] at h1
      exact h1.2.1
    clear hcs
    have hm' : (((List.range len).map D).length + ((List.range (m - len)).map fun j => D (len + j)).length) * Try.prog.bytesOf e ∈ x.1.weights Try.prog t := by
      rw [hx]
      show _ ∈ DataW.weights Try.prog t (.slice _ _)
      unfold DataW.weights
      rw [ht]
      exact List.mem_cons_self
    have h1 := hb _ hm'
    rw [List.length_map, List.length_map, List.length_range, List.length_range] at h1
    rw [e1]
    exact Nat.le_trans (Nat.mul_le_mul_right _ (Nat.le_add_right _ _)) h1
set_option maxRecDepth 100000 in
theorem circ_short {r : Reach} {b0 : Nat} {a0 : Int} {A1 A2 A3 A4 A5 : Option Addr} {n1 n2 n3 n4 n5 c1 c2 c3 c4 c5 : Nat} {d : DataW H} {p : List MemPlace} (hv : Value.okWide Try.prog w r b0 26 (.agg #[.int .i64 a0, .slice A1 n1 c1, .slice A2 n2 c2, .slice A3 n3 c3, .slice A4 n4 c4, .slice A5 n5 c5]))
    (h : DataW.Trod enc Try.prog w base sp held 26 (.agg #[.int .i64 a0, .slice A1 n1 c1, .slice A2 n2 c2, .slice A3 n3 c3, .slice A4 n4 c4, .slice A5 n5 c5]) d p) (hb : ∀ m ∈ d.weights Try.prog 26, m ≤ reachBytes) : n3 * 4 ≤ reachBytes ∧ n4 * 4 ≤ reachBytes ∧ n5 * 4 ≤ reachBytes := by
  obtain ⟨v0, v1, v2, v3, v4, v5, y0, y1, y2, y3, y4, y5, n, e, rfl, _, t0, t1, t2, t3, t4, t5⟩ := open_six Try.underlying26 (by kernel_rfl) (by kernel_rfl) hv h
  have el : [Value.int .i64 a0, .slice A1 n1 c1, .slice A2 n2 c2, .slice A3 n3 c3, .slice A4 n4 c4, .slice A5 n5 c5] = [v0, v1, v2, v3, v4, v5] := by
    injection e with e
    exact congrArg Array.toList e
  simp only [List.cons.injEq, and_true] at el
  obtain ⟨_, _, _, rfl, rfl, rfl⟩ := el
  have hb39 : Try.prog.bytesOf 39 = 4 := by kernel_rfl
  have hw : ∀ m ∈ DataW.weightsEach Try.prog [3, 22, 23, 24, 24, 24] [y0.1, y1.1, y2.1, y3.1, y4.1, y5.1], m ≤ reachBytes := fun m hm => hb m (by
    unfold DataW.weights
    rw [Try.underlying26]
    exact hm)
  have q3 := short_slice Try.underlying24 t3 (fun m hm => hw m (DataW.weights_mem_each (j := 3) rfl rfl m hm))
  have q4 := short_slice Try.underlying24 t4 (fun m hm => hw m (DataW.weights_mem_each (j := 4) rfl rfl m hm))
  have q5 := short_slice Try.underlying24 t5 (fun m hm => hw m (DataW.weights_mem_each (j := 5) rfl rfl m hm))
  rw [hb39] at q3 q4 q5
  exact ⟨q3, q4, q5⟩
theorem short_of {P : Program} {ts : List TypeId} {ds : List (DataW H)} (h : (DataW.weightsEach P ts ds).all (· ≤ reachBytes) = true) {j : Nat} {t : TypeId} {d : DataW H} (ht : ts[j]? = some t) (hd : ds[j]? = some d) : ∀ m ∈ d.weights P t, m ≤ reachBytes := fun m hm => by
  have := List.all_eq_true.1 h _ (DataW.weights_mem_each ht hd m hm)
  simpa using this
end
theorem short_lt {n : Nat} (h : n * 4 ≤ reachBytes) : n < 35184372088832 := by
  have : reachBytes = 140737488351232 := by decide
  omega
end Go.Proofs.Yteiiodlgdbiimaa.F
end
section
namespace Go.Proofs.Yteiiodlgdbiimaa.strashTells
open Go.ChangeShapes Go.WideShapes Go.ChangeAt Go.RowKit Go.Proofs.Yteiiodlgdbiimaa.F Go.Proofs.YteiiodlgdbiimaaW.PrintWords Go.Proofs.YteiiodlgdbiimaaW.PrintLast Go.Proofs.YteiiodlgdbiimaaW.PrintMore
set_option linter.unusedVariables false
theorem own : ownKnob Try.prog.godebug = none := by kernel_rfl
theorem laidOut : laidOutB Try.prog = true := by kernel_rfl
set_option maxRecDepth 100000 in
theorem lifted (os : Os) (started : os.Started) (H : Type) (enc : TypeId × Value → H) :
    ReturnsInHanded {} Try.checked os 5 .any (Rows.strashTellsSpec.pre6 enc Try.prog Try.f5 Rows.strashTellsRow.domain false) (Rows.strashTellsSpec.post enc Try.prog Try.f5 false true false false) := by
  refine returnsInHanded_of_change_sized (C := Try.checked) own started (by kernel_rfl) Try.func5
    (ChangeSpec.witness6 (enc := enc) (C := Try.checked) false ⟨#[], #[.agg #[.int .i64 0, .slice none 0 0, .slice none 0 0, .slice none 0 0, .slice none 0 0, .slice none 0 0], .slice none 0 0, .slice none 0 0, .int .u32 0], []⟩ 8 (by kernel_rfl) (by kernel_rfl) (by kernel_rfl) (by kernel_rfl)) ?_
  intro W base args ds gs before hval0 hW hcnd hsz0 _
  have hval : ∀ (j : Nat) t v, Try.f5.params[j]? = some t → args[j]? = some v → Value.okWide Try.prog W .any base t v := hval0
  have hW' := hW
  obtain ⟨p, q, hA0, hV, rfl, hfz, hnd⟩ := hW
  have hA : DataW.TrodAll enc Try.prog W 0 (fun _ => true) true Try.f5.params.toList args.toList ds p := hA0
  rw [Try.params5] at hA hval
  obtain ⟨v0, vs0, d0, ds0, p0, q0, hargs, rfl, rfl, h0, r0⟩ := trodAll_cons hA
  obtain ⟨v1, vs1, d1, ds1, p1, q1, rfl, rfl, rfl, h1, r1⟩ := trodAll_cons r0
  obtain ⟨v2, vs2, d2, ds2, p2, q2, rfl, rfl, rfl, h2, r2⟩ := trodAll_cons r1
  obtain ⟨v3, vs3, d3, ds3, p3, q3, rfl, rfl, rfl, h3, r3⟩ := trodAll_cons r2
  obtain ⟨rfl, rfl, rfl⟩ := trodAll_nil r3
  obtain rfl : args = #[v0, v1, v2, v3] := by cases args; simp_all
  obtain ⟨rfl, rfl⟩ := trodVars_none hV
  have k0 := h0
  have lt0 : ∀ x ∈ p0, x.block < W.heap.size := by obtain ⟨m, hm⟩ := k0; exact DataW.trod_lt m _ _ _ hm
  obtain ⟨a0_0, A0_1, c0_1, l0_1, A0_2, c0_2, l0_2, A0_3, c0_3, l0_3, A0_4, c0_4, l0_4, A0_5, c0_5, l0_5, rfl, w0, ⟨hc0_1, hr0_1, w0_1⟩, ⟨hc0_2, hr0_2, w0_2⟩, ⟨hc0_3, hr0_3, w0_3⟩, ⟨hc0_4, hr0_4, w0_4⟩, ⟨hc0_5, hr0_5, w0_5⟩⟩ := openCirc (hval 0 26 v0 rfl rfl) h0
  have k1 := h1
  have lt1 : ∀ x ∈ p1, x.block < W.heap.size := by obtain ⟨m, hm⟩ := k1; exact DataW.trod_lt m _ _ _ hm
  obtain ⟨A1, c1, l1, rfl, hc1, hr1, w1⟩ : ∃ (A : Option Addr) (c : Nat) (l : List Int), v1 = .slice A l.length c ∧ l.length ≤ c ∧ Kd.C (Kd.int .u8) W A l.length l ∧ InU8 l := by
    obtain ⟨A, n_, c, rfl⟩ := okWide_slice Try.underlying28 (hval 1 28 v1 rfl rfl)
    obtain ⟨fuel, hf⟩ := h1
    exact openB hf
  have k2 := h2
  have lt2 : ∀ x ∈ p2, x.block < W.heap.size := by obtain ⟨m, hm⟩ := k2; exact DataW.trod_lt m _ _ _ hm
  obtain ⟨A2, c2, l2, rfl, hc2, hr2, w2⟩ : ∃ (A : Option Addr) (c : Nat) (l : List Int), v2 = .slice A l.length c ∧ l.length ≤ c ∧ Kd.C (Kd.int .u32) W A l.length l ∧ InU32 l := by
    obtain ⟨A, n_, c, rfl⟩ := okWide_slice Try.underlying24 (hval 2 24 v2 rfl rfl)
    obtain ⟨fuel, hf⟩ := h2
    exact openU hf
  obtain ⟨a3, rfl, rfl, rfl, w3⟩ := open_int Try.underlying39 (hval 3 39 v3 rfl rfl) h3
  obtain ⟨s0_3, s0_4, s0_5⟩ := circ_short (hval 0 26 _ rfl rfl) k0 (short_of hsz0 (j := 0) (by rw [Try.params5]; rfl) rfl)
  clear hA0 hval0 hsz0
  refine (law5 a0_0 A0_1 c0_1 l0_1 A0_2 c0_2 l0_2 A0_3 c0_3 l0_3 A0_4 c0_4 l0_4 A0_5 c0_5 l0_5 A1 c1 l1 A2 c2 l2 a3 W hr0_1 hc0_1 hr0_2 hc0_2 hr0_3 hc0_3 hr0_4 hc0_4 hr0_5 hc0_5 hr1 hc1 hr2 hc2 w0 w0_1 w0_2 w0_3 w0_4 w0_5 w1 w2 (wf_u32 w3) (short_lt s0_3) (short_lt s0_4) (short_lt s0_5)).mono fun e W' ⟨he, bel⟩ => ?_
  subst he
  exact ⟨_, rfl, _, _, _, [], _, [], hW', trodAll_mk1 (shut_bool Try.underlying4 _), (trodAll_cons_mk (Below.trod laidOut (by kernel_rfl) (of_decide_eq_true (by kernel_rfl)) k0 bel lt0) (trodAll_cons_mk (Below.trod laidOut (by kernel_rfl) (of_decide_eq_true (by kernel_rfl)) k1 bel lt1) (trodAll_cons_mk (Below.trod laidOut (by kernel_rfl) (of_decide_eq_true (by kernel_rfl)) k2 bel lt2) (trodAll_cons_mk (shut_int Try.underlying39 w3) trodAll_mk0)))), rfl, bel.frame _, fun h => by cases h⟩
theorem closed : joinedFacts Try.pinned.checked.prog 5 Try.f5 Rows.strashTellsSpec Rows.strashTellsRow = true := by
  unfold joinedFacts
  rw [may_enter, lifts_no, make_is]
  kernel_rfl
theorem over : Rows.strashTellsRow.holds Try.pinned (OpenSpec.ofChange Rows.strashTellsSpec) :=
  OpenClaim.holds_of_wide 5 Try.f5 rfl rfl rfl rfl rfl rfl rfl ⟨rfl, rfl, rfl, rfl, rfl⟩ rfl rfl rfl rfl rfl (by kernel_rfl) Try.func5 closed
    (of_decide_eq_true (by kernel_rfl)) (by unfold Func.isWrapper; first | (rw [if_pos (by decide +kernel)]; kernel_rfl) | (rw [if_neg (by decide +kernel)]; exact ⟨rfl, rfl⟩))
    (fun os started H enc _ => lifted os started H enc)
theorem proved : Rows.StrashTellsSaid := over
#print axioms proved
end Go.Proofs.Yteiiodlgdbiimaa.strashTells
namespace Go.Proofs.Yteiiodlgdbiimaa
theorem strashTells_holds : Rows.StrashTellsSaid := strashTells.proved
end Go.Proofs.Yteiiodlgdbiimaa
end
