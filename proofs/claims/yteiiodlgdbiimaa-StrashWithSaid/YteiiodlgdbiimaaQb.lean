/- What the proof of the law StrashWith needs, part 2: the walks of the functions that it reaches, and the plain words on what these compute. -/
import Derived.ArgAppend
import Derived.Below
import Derived.BigQuiet
import Derived.ChangeOld
import Derived.ChangeSame
import Derived.Deep.AppendLies
import Derived.Deep.CutBlock
import Derived.Deep.DeepCutAuto
import Derived.Deep.Draws
import Derived.Deep.Fields
import Derived.Deep.LoopGhost
import Derived.Deep.OwnRows
import Derived.Deep.QuietTactic
import Derived.Deep.RegionHeld3
import Derived.Deep.RegionLaw
import Derived.Deep.Slices
import Derived.DeepKeys5
import Derived.IntWalk
import Derived.KernelRfl
import Derived.Laws.BitsAllLaws
import Derived.Laws.BitsLemmas
import Derived.Laws.BytesArg
import Derived.Laws.CopyOwn
import Derived.Laws.IdiomCopy
import Derived.Laws.MakeOwn
import Derived.Laws.OwnMore
import Derived.Laws.Rows
import Derived.Laws.Slices
import Derived.Lib.AppendStr
import Derived.Lib.ConvBytes
import Derived.Lib.SmallJoins
import Derived.LoopIn
import Derived.LoopNIn
import Derived.Maps.AppendAt
import Derived.OpenShut
import Derived.OrdersHeld
import Derived.OwnWalk
import Derived.OwnWalkIn
import Derived.ProofKit
import Derived.RangeFuncBound
import Derived.RangeFuncCalls
import Derived.RangeFuncLeaves
import Derived.RangeFuncNested
import Derived.RowKit
import Derived.RowKit3
import Derived.Shelf.Abstract
import Derived.Shelf.RegionOpen
import Derived.SizedLaws
import Derived.StillTailTactics
import Derived.Tactics
import Derived.TacticsInMore
import Derived.Test.YteiiodlgdbiimaaProg
import Derived.Test.YteiiodlgdbiimaaRows
import Derived.WalkKit
import Derived.WideKeyEntry
import Derived.WideLaws
import Derived.Test.YteiiodlgdbiimaaQa
section
namespace Go.Proofs.Yteiiodlgdbiimaa
theorem strip_cut (r : List (List Char)) : stripLifts liftWords ("cut".toList :: r) = ([], "cut".toList :: r) := by kernel_rfl
theorem may_enter_of (P : Program) (p q : String) (h : P.initOrder = p ++ q) (hs : ∀ r, behindMainWord (wordsSigns (p.toList ++ r)) = "cut".toList :: wordsSigns r) (hl : P.laysLater = false) (hb : P.bearsReflect = false) (hd : P.doorFits [] = true) : P.mayEnter = true := by
  unfold Program.mayEnter
  rw [h, String.toList_append, hs]
  have hs2 := strip_cut (wordsSigns q.toList)
  dsimp only
  generalize stripLifts liftWords ("cut".toList :: wordsSigns q.toList) = sl at hs2 ⊢
  subst hs2
  simp [hl, hb, hd]
theorem make_of (P : Program) (p q : String) (h : P.initOrder = p ++ q) (hs : ∀ r, behindMainWord (wordsSigns (p.toList ++ r)) = "cut".toList :: wordsSigns r) : P.make = some .cut := by
  unfold Program.make
  rw [h, String.toList_append, hs]
  rfl
theorem lifts_of (P : Program) (p q : String) (h : P.initOrder = p ++ q) (hs : ∀ r, behindMainWord (wordsSigns (p.toList ++ r)) = "cut".toList :: wordsSigns r) : P.liftsFinal = false := by
  have hw : behindMainWord (wordsSigns P.initOrder.toList) = "cut".toList :: wordsSigns q.toList := by rw [h, String.toList_append, hs]
  have hs2 := strip_cut (wordsSigns q.toList)
  unfold Program.liftsFinal Program.headLifts
  rw [hw]
  dsimp only
  generalize stripLifts liftWords ("cut".toList :: wordsSigns q.toList) = sl at hs2 ⊢
  subst hs2
  simp
theorem order_eq : Try.pinned.checked.prog.initOrder = "harness 8bc95be9aef776efc07c83d12f0bd9a4e60c13404288aaedbc3ff7bc00220b1d cut " ++ "at inquest/inquestlaw09.ConeGrows inquest/inquestlaw25.ExtractKeeps inquest/inquestlaw24.StrashTells inquest/inquestlaw24.StrashRuns inquest/inquestlaw24.StrashSmall inquest/inquestlaw26.StuckFolds inquest/inquestlaw24.StrashWith inquest/inquestlaw24.StrashLits inquest/inquestlaw09.ConeTells inquest/inquestlaw09.ConeCounts inquest/inquestlaw23.WatchTells inquest/inquestlaw23.WatchLong inquest/inquestlaw23.WatchSure inquest/inquestlaw25.ExtractTells inquest/inquestlaw25.ExtractFails inquest/inquestlaw25.ExtractParts inquest/inquestlaw26.StuckEver inquest/inquestlaw26.StuckAgain inquest/inquestlaw23.WatchExtends inquest/inquestlaw26.StuckTells" := by kernel_rfl
theorem signs_eq (r : List Char) : behindMainWord (wordsSigns (("harness 8bc95be9aef776efc07c83d12f0bd9a4e60c13404288aaedbc3ff7bc00220b1d cut " : String).toList ++ r)) = "cut".toList :: wordsSigns r := by kernel_rfl
theorem lays_no : Try.pinned.checked.prog.laysLater = false := by kernel_rfl
theorem bears_no : Try.pinned.checked.prog.bearsReflect = false := by kernel_rfl
theorem door_yes : Try.pinned.checked.prog.doorFits [] = true := by kernel_rfl
theorem may_enter : Try.pinned.checked.prog.mayEnter = true := may_enter_of _ _ _ order_eq signs_eq lays_no bears_no door_yes
theorem make_is : Try.pinned.checked.prog.make = some .cut := make_of _ _ _ order_eq signs_eq
theorem lifts_no : Try.pinned.checked.prog.liftsFinal = false := lifts_of _ _ _ order_eq signs_eq
end Go.Proofs.Yteiiodlgdbiimaa
end
section
namespace Go.Proofs.Yteiiodlgdbiimaa.F
open Go.RowKit Go.Proofs.YteiiodlgdbiimaaW.PrintWords Go.Proofs.YteiiodlgdbiimaaW.PrintLast Go.Proofs.YteiiodlgdbiimaaW.PrintMore
attribute [local go_sem] max2_int min2_int max_two min_two max_three min_three max_four min_four
set_option linter.unusedVariables false
set_option linter.unusedSimpArgs false
def errW : Option Int → Value
  | none => .nilIface
  | some c => .iface 0 (.int .i64 c)
theorem errW_none : errW none = .nilIface := rfl
theorem errW_some (c : Int) : errW (some c) = .iface 0 (.int .i64 c) := rfl
theorem info5 : (Try.prog.info? 5).map (fun i => (i.zero, i.size, i.bytes)) = some (some (.int .u8 0), 1, 1) := by kernel_rfl
theorem info39 : (Try.prog.info? 39).map (fun i => (i.zero, i.size, i.bytes)) = some (some (.int .u32 0), 1, 4) := by kernel_rfl
theorem info41 : (Try.prog.info? 41).map (fun i => (i.zero, i.size, i.bytes)) = some (some (.agg #[(.int .u32 0), (.int .u8 0)]), 2, 8) := by kernel_rfl
theorem info68 : (Try.prog.info? 68).map (fun i => (i.zero, i.size, i.bytes)) = some (some (.agg #[(.int .u32 0), (.int .u32 0)]), 2, 8) := by kernel_rfl
structure S41 where
  f0 : Int
  f1 : Int
def z41 : S41 := ⟨(0 : Int), (0 : Int)⟩
def k41 : Kd S41 := Kd.iso (Kd.pair (Kd.int .u32) (Kd.int .u8)) (fun x : S41 => (x.f0, x.f1))
theorem k41_open {w : World} {x : S41} {cs : List Value} (h : k41.K w x cs) : cs = [.int .u32 x.f0, .int .u8 x.f1] := by
  obtain ⟨_, _, rfl, rfl, rfl⟩ := h
  exact rfl
theorem k41_mk (w : World) (x : S41)  : k41.K w x [.int .u32 x.f0, .int .u8 x.f1] := ⟨[.int .u32 x.f0], [.int .u8 x.f1], rfl, rfl, rfl⟩
theorem k41_mkM (w : World) (base : Nat) (ok : Nat → Prop) (x : S41)  : k41.M w base ok x [.int .u32 x.f0, .int .u8 x.f1] := ⟨[.int .u32 x.f0], [.int .u8 x.f1], rfl, rfl, rfl⟩
def rd_T41 (xs : List S41) (i : Int) : S41 := xs.getD i.toNat z41
theorem at_T41 {w : World} {A : Option Addr} {n : Nat} {xs : List S41} (h : Kd.C k41 w A n xs) (i : Int) (h0 : 0 ≤ i) (h1 : i < n) : ∃ ad , A = some ad ∧ w.cell? (ad.add (i.toNat * 2)) = some (.int .u32 (rd_T41 xs i).f0) ∧ w.cell? ⟨(ad.add (i.toNat * 2)).block, (ad.add (i.toNat * 2)).off + 1, none⟩ = some (.int .u8 (rd_T41 xs i).f1) := by
  obtain ⟨ad, c, e, _, hK, hc0⟩ := Kd.C_get h z41 i h0 h1
  have hc : ∀ j u, c[j]? = some u → w.cell? (ad.add (i.toNat * 2 + j)) = some u := hc0
  obtain rfl := k41_open hK
  exact ⟨ad, e, hc 0 _ rfl, by rw [← add_field _ _ 1 (by omega)]; exact hc 1 _ rfl⟩
structure S68 where
  f0 : Int
  f1 : Int
def z68 : S68 := ⟨(0 : Int), (0 : Int)⟩
def k68 : Kd S68 := Kd.iso (Kd.pair (Kd.int .u32) (Kd.int .u32)) (fun x : S68 => (x.f0, x.f1))
theorem k68_open {w : World} {x : S68} {cs : List Value} (h : k68.K w x cs) : cs = [.int .u32 x.f0, .int .u32 x.f1] := by
  obtain ⟨_, _, rfl, rfl, rfl⟩ := h
  exact rfl
theorem k68_mk (w : World) (x : S68)  : k68.K w x [.int .u32 x.f0, .int .u32 x.f1] := ⟨[.int .u32 x.f0], [.int .u32 x.f1], rfl, rfl, rfl⟩
theorem k68_mkM (w : World) (base : Nat) (ok : Nat → Prop) (x : S68)  : k68.M w base ok x [.int .u32 x.f0, .int .u32 x.f1] := ⟨[.int .u32 x.f0], [.int .u32 x.f1], rfl, rfl, rfl⟩
def rd_T68 (xs : List S68) (i : Int) : S68 := xs.getD i.toNat z68
theorem at_T68 {w : World} {A : Option Addr} {n : Nat} {xs : List S68} (h : Kd.C k68 w A n xs) (i : Int) (h0 : 0 ≤ i) (h1 : i < n) : ∃ ad , A = some ad ∧ w.cell? (ad.add (i.toNat * 2)) = some (.int .u32 (rd_T68 xs i).f0) ∧ w.cell? ⟨(ad.add (i.toNat * 2)).block, (ad.add (i.toNat * 2)).off + 1, none⟩ = some (.int .u32 (rd_T68 xs i).f1) := by
  obtain ⟨ad, c, e, _, hK, hc0⟩ := Kd.C_get h z68 i h0 h1
  have hc : ∀ j u, c[j]? = some u → w.cell? (ad.add (i.toNat * 2 + j)) = some u := hc0
  obtain rfl := k68_open hK
  exact ⟨ad, e, hc 0 _ rfl, by rw [← add_field _ _ 1 (by omega)]; exact hc 1 _ rfl⟩
end Go.Proofs.Yteiiodlgdbiimaa.F
end
section
namespace Go.Proofs.Yteiiodlgdbiimaa.F
open Go.RowKit Go.Proofs.YteiiodlgdbiimaaW.PrintWords Go.Proofs.YteiiodlgdbiimaaW.PrintLast Go.Proofs.YteiiodlgdbiimaaW.PrintMore
attribute [local go_sem] max2_int min2_int max_two min_two max_three min_three max_four min_four
set_option linter.unusedVariables false
set_option linter.unusedSimpArgs false
def inquestlaw24_great.f (a0_0 : Int) (l0_1 : List (S41)) (l0_2 : List (S68)) (l0_3 : List Int) (l0_4 : List Int) (l0_5 : List Int) : Option (Bool) := if a0_0 > 300 then (some true) else (if (l0_1.length : Int) > 300 then (some true) else (if (l0_2.length : Int) > 300 then (some true) else (some (decide ((wrap64 ((wrap64 ((l0_3.length : Int) + (l0_4.length : Int))) + (l0_5.length : Int))) > 600)))))
set_option maxHeartbeats 8000000 in
set_option maxRecDepth 100000 in
theorem inquestlaw24_great.calls (a0_0 : Int) (A0_1 : Option Addr) (c0_1 : Nat) (l0_1 : List (S41)) (A0_2 : Option Addr) (c0_2 : Nat) (l0_2 : List (S68)) (A0_3 : Option Addr) (c0_3 : Nat) (l0_3 : List Int) (A0_4 : Option Addr) (c0_4 : Nat) (l0_4 : List Int) (A0_5 : Option Addr) (c0_5 : Nat) (l0_5 : List Int) (r : Bool) (w : World) (hr0_1 : Kd.C k41 w A0_1 l0_1.length l0_1) (hc0_1 : l0_1.length ≤ c0_1) (hr0_2 : Kd.C k68 w A0_2 l0_2.length l0_2) (hc0_2 : l0_2.length ≤ c0_2) (hr0_3 : Kd.C (Kd.int .u32) w A0_3 l0_3.length l0_3) (hc0_3 : l0_3.length ≤ c0_3) (hr0_4 : Kd.C (Kd.int .u32) w A0_4 l0_4.length l0_4) (hc0_4 : l0_4.length ≤ c0_4) (hr0_5 : Kd.C (Kd.int .u32) w A0_5 l0_5.length l0_5) (hc0_5 : l0_5.length ≤ c0_5) (h : inquestlaw24_great.f a0_0 l0_1 l0_2 l0_3 l0_4 l0_5 = some r) :
    Calls Try.prog 36 #[.agg #[.int .i64 a0_0, .slice A0_1 l0_1.length c0_1, .slice A0_2 l0_2.length c0_2, .slice A0_3 l0_3.length c0_3, .slice A0_4 l0_4.length c0_4, .slice A0_5 l0_5.length c0_5]] w fun e w' => e = .returned (.bool r) ∧ Below w.heap.size w w' := by
  have hu26 := Try.underlying26
  have HR0_1 := Aside0.mk hr0_1
  have HC0_1 := Aside0.mk hc0_1
  clear hr0_1 hc0_1
  have HR0_2 := Aside0.mk hr0_2
  have HC0_2 := Aside0.mk hc0_2
  clear hr0_2 hc0_2
  have HR0_3 := Aside0.mk hr0_3
  have HC0_3 := Aside0.mk hc0_3
  clear hr0_3 hc0_3
  have HR0_4 := Aside0.mk hr0_4
  have HC0_4 := Aside0.mk hc0_4
  clear hr0_4 hc0_4
  have HR0_5 := Aside0.mk hr0_5
  have HC0_5 := Aside0.mk hc0_5
  clear hr0_5 hc0_5
  have HB := Aside0.mk (Below.refl w.heap.size w)
  have H : (if a0_0 > 300 then (some true) else (if (l0_1.length : Int) > 300 then (some true) else (if (l0_2.length : Int) > 300 then (some true) else (some (decide ((wrap64 ((wrap64 ((l0_3.length : Int) + (l0_4.length : Int))) + (l0_5.length : Int))) > 600)))))) = some r := h
  clear h
  by_cases c2 : a0_0 > 300
  · rw [if_pos c2] at H
    have c2b0 : decide (300 < a0_0) = true := decide_eq_true c2
    clear c2
    obtain rfl := Option.some.inj H
    go_enter Try.func36, Try.ntmps36
    go_wp2_with (first | ((with_reducible refine gate_dst (N := 1) rfl ?_); (try (refine gate_guard (by rfl) ?_; dsimp only)); refine box_event ?hg (N := 1) ?hd (cs := #[.int .i64 a0_0, .slice A0_1 l0_1.length c0_1, .slice A0_2 l0_2.length c0_2, .slice A0_3 l0_3.length c0_3, .slice A0_4 l0_4.length c0_4, .slice A0_5 l0_5.length c0_5]) (t := 26) ?hr ?_; (case hd => rfl); (case hg => rfl); (case hr => first | (go_simp; done) | (go_simp; rfl)); intro gb303 hg w3 hbox hb; have n0_ := Aside0.mk (below_step (by repeat (first | (with_reducible first | exact HB.out | apply below_alloc | apply pw_below_drewN | apply below_drew1) | exact HB.out)) hb); have n1_ := Aside0.mk (hbox); have n2_ := Aside0.mk ((by rw [hg]; exact (below_size (by repeat (first | (with_reducible first | exact HB.out | apply below_alloc | apply pw_below_drewN | apply below_drew1) | exact HB.out))) : w.heap.size ≤ gb303)); have n3_ := Aside0.mk ((by rw [hg]; exact (below_size (by repeat (first | (with_reducible first | exact HB.out | apply below_alloc | apply pw_below_drewN | apply below_drew1) | exact HB.out))) : w.heap.size ≤ gb303)); clear HB; have HB := n0_; have BK303 := n1_; have GW303 := n2_; have GE303 := n3_; clear n0_ n1_ n2_ n3_; clear hb hbox hg; have hcz4_0 : w3.cell? ⟨gb303, 0, none⟩ = some (.int .i64 a0_0) := (blk_cell BK303.out 0).trans rfl; have hcz4_1 : w3.cell? ⟨gb303, 1, none⟩ = some (.slice A0_1 l0_1.length c0_1) := (blk_cell BK303.out 1).trans rfl; have hcz4_2 : w3.cell? ⟨gb303, 2, none⟩ = some (.slice A0_2 l0_2.length c0_2) := (blk_cell BK303.out 2).trans rfl; have hcz4_3 : w3.cell? ⟨gb303, 3, none⟩ = some (.slice A0_3 l0_3.length c0_3) := (blk_cell BK303.out 3).trans rfl; have hcz4_4 : w3.cell? ⟨gb303, 4, none⟩ = some (.slice A0_4 l0_4.length c0_4) := (blk_cell BK303.out 4).trans rfl; have hcz4_5 : w3.cell? ⟨gb303, 5, none⟩ = some (.slice A0_5 l0_5.length c0_5) := (blk_cell BK303.out 5).trans rfl; have hfz4_0 := blk_frozen BK303.out 0; have hfz4_1 := blk_frozen BK303.out 1; have hfz4_2 := blk_frozen BK303.out 2; have hfz4_3 := blk_frozen BK303.out 3; have hfz4_4 := blk_frozen BK303.out 4; have hfz4_5 := blk_frozen BK303.out 5))
    go_ret
    exact ⟨by first | rfl | (simp [errW_none, errW_some] <;> rfl) | (simp [*, errW_none, errW_some] <;> rfl), by repeat (first | (with_reducible first | exact HB.out | apply below_alloc | apply pw_below_drewN | apply below_drew1 | refine below_set ?_ GE303.out) | exact HB.out)⟩
  · rw [if_neg c2] at H
    have c2b0 : decide (300 < a0_0) = false := decide_eq_false c2
    clear c2
    by_cases c5 : (l0_1.length : Int) > 300
    · rw [if_pos c5] at H
      have c5b0 : decide (300 < (l0_1.length : Int)) = true := decide_eq_true c5
      have c5b1 : decide (300 < l0_1.length) = true := decide_eq_true (by omega)
      clear c5
      obtain rfl := Option.some.inj H
      go_enter Try.func36, Try.ntmps36
      go_wp2_with (first | ((with_reducible refine gate_dst (N := 1) rfl ?_); (try (refine gate_guard (by rfl) ?_; dsimp only)); refine box_event ?hg (N := 1) ?hd (cs := #[.int .i64 a0_0, .slice A0_1 l0_1.length c0_1, .slice A0_2 l0_2.length c0_2, .slice A0_3 l0_3.length c0_3, .slice A0_4 l0_4.length c0_4, .slice A0_5 l0_5.length c0_5]) (t := 26) ?hr ?_; (case hd => rfl); (case hg => rfl); (case hr => first | (go_simp; done) | (go_simp; rfl)); intro gb303 hg w6 hbox hb; have n0_ := Aside0.mk (below_step (by repeat (first | (with_reducible first | exact HB.out | apply below_alloc | apply pw_below_drewN | apply below_drew1) | exact HB.out)) hb); have n1_ := Aside0.mk (hbox); have n2_ := Aside0.mk ((by rw [hg]; exact (below_size (by repeat (first | (with_reducible first | exact HB.out | apply below_alloc | apply pw_below_drewN | apply below_drew1) | exact HB.out))) : w.heap.size ≤ gb303)); have n3_ := Aside0.mk ((by rw [hg]; exact (below_size (by repeat (first | (with_reducible first | exact HB.out | apply below_alloc | apply pw_below_drewN | apply below_drew1) | exact HB.out))) : w.heap.size ≤ gb303)); clear HB; have HB := n0_; have BK303 := n1_; have GW303 := n2_; have GE303 := n3_; clear n0_ n1_ n2_ n3_; clear hb hbox hg; have hcz7_0 : w6.cell? ⟨gb303, 0, none⟩ = some (.int .i64 a0_0) := (blk_cell BK303.out 0).trans rfl; have hcz7_1 : w6.cell? ⟨gb303, 1, none⟩ = some (.slice A0_1 l0_1.length c0_1) := (blk_cell BK303.out 1).trans rfl; have hcz7_2 : w6.cell? ⟨gb303, 2, none⟩ = some (.slice A0_2 l0_2.length c0_2) := (blk_cell BK303.out 2).trans rfl; have hcz7_3 : w6.cell? ⟨gb303, 3, none⟩ = some (.slice A0_3 l0_3.length c0_3) := (blk_cell BK303.out 3).trans rfl; have hcz7_4 : w6.cell? ⟨gb303, 4, none⟩ = some (.slice A0_4 l0_4.length c0_4) := (blk_cell BK303.out 4).trans rfl; have hcz7_5 : w6.cell? ⟨gb303, 5, none⟩ = some (.slice A0_5 l0_5.length c0_5) := (blk_cell BK303.out 5).trans rfl; have hfz7_0 := blk_frozen BK303.out 0; have hfz7_1 := blk_frozen BK303.out 1; have hfz7_2 := blk_frozen BK303.out 2; have hfz7_3 := blk_frozen BK303.out 3; have hfz7_4 := blk_frozen BK303.out 4; have hfz7_5 := blk_frozen BK303.out 5))
      go_ret
      exact ⟨by first | rfl | (simp [errW_none, errW_some] <;> rfl) | (simp [*, errW_none, errW_some] <;> rfl), by repeat (first | (with_reducible first | exact HB.out | apply below_alloc | apply pw_below_drewN | apply below_drew1 | refine below_set ?_ GE303.out) | exact HB.out)⟩
    · rw [if_neg c5] at H
      have c5b0 : decide (300 < (l0_1.length : Int)) = false := decide_eq_false c5
      have c5b1 : decide (300 < l0_1.length) = false := decide_eq_false (by omega)
      clear c5
      by_cases c8 : (l0_2.length : Int) > 300
      · rw [if_pos c8] at H
        have c8b0 : decide (300 < (l0_2.length : Int)) = true := decide_eq_true c8
        have c8b1 : decide (300 < l0_2.length) = true := decide_eq_true (by omega)
        clear c8
        obtain rfl := Option.some.inj H
        go_enter Try.func36, Try.ntmps36
        go_wp2_with (first | ((with_reducible refine gate_dst (N := 1) rfl ?_); (try (refine gate_guard (by rfl) ?_; dsimp only)); refine box_event ?hg (N := 1) ?hd (cs := #[.int .i64 a0_0, .slice A0_1 l0_1.length c0_1, .slice A0_2 l0_2.length c0_2, .slice A0_3 l0_3.length c0_3, .slice A0_4 l0_4.length c0_4, .slice A0_5 l0_5.length c0_5]) (t := 26) ?hr ?_; (case hd => rfl); (case hg => rfl); (case hr => first | (go_simp; done) | (go_simp; rfl)); intro gb303 hg w9 hbox hb; have n0_ := Aside0.mk (below_step (by repeat (first | (with_reducible first | exact HB.out | apply below_alloc | apply pw_below_drewN | apply below_drew1) | exact HB.out)) hb); have n1_ := Aside0.mk (hbox); have n2_ := Aside0.mk ((by rw [hg]; exact (below_size (by repeat (first | (with_reducible first | exact HB.out | apply below_alloc | apply pw_below_drewN | apply below_drew1) | exact HB.out))) : w.heap.size ≤ gb303)); have n3_ := Aside0.mk ((by rw [hg]; exact (below_size (by repeat (first | (with_reducible first | exact HB.out | apply below_alloc | apply pw_below_drewN | apply below_drew1) | exact HB.out))) : w.heap.size ≤ gb303)); clear HB; have HB := n0_; have BK303 := n1_; have GW303 := n2_; have GE303 := n3_; clear n0_ n1_ n2_ n3_; clear hb hbox hg; have hcz10_0 : w9.cell? ⟨gb303, 0, none⟩ = some (.int .i64 a0_0) := (blk_cell BK303.out 0).trans rfl; have hcz10_1 : w9.cell? ⟨gb303, 1, none⟩ = some (.slice A0_1 l0_1.length c0_1) := (blk_cell BK303.out 1).trans rfl; have hcz10_2 : w9.cell? ⟨gb303, 2, none⟩ = some (.slice A0_2 l0_2.length c0_2) := (blk_cell BK303.out 2).trans rfl; have hcz10_3 : w9.cell? ⟨gb303, 3, none⟩ = some (.slice A0_3 l0_3.length c0_3) := (blk_cell BK303.out 3).trans rfl; have hcz10_4 : w9.cell? ⟨gb303, 4, none⟩ = some (.slice A0_4 l0_4.length c0_4) := (blk_cell BK303.out 4).trans rfl; have hcz10_5 : w9.cell? ⟨gb303, 5, none⟩ = some (.slice A0_5 l0_5.length c0_5) := (blk_cell BK303.out 5).trans rfl; have hfz10_0 := blk_frozen BK303.out 0; have hfz10_1 := blk_frozen BK303.out 1; have hfz10_2 := blk_frozen BK303.out 2; have hfz10_3 := blk_frozen BK303.out 3; have hfz10_4 := blk_frozen BK303.out 4; have hfz10_5 := blk_frozen BK303.out 5))
        go_ret
        exact ⟨by first | rfl | (simp [errW_none, errW_some] <;> rfl) | (simp [*, errW_none, errW_some] <;> rfl), by repeat (first | (with_reducible first | exact HB.out | apply below_alloc | apply pw_below_drewN | apply below_drew1 | refine below_set ?_ GE303.out) | exact HB.out)⟩
      · rw [if_neg c8] at H
        have c8b0 : decide (300 < (l0_2.length : Int)) = false := decide_eq_false c8
        have c8b1 : decide (300 < l0_2.length) = false := decide_eq_false (by omega)
        clear c8
        obtain rfl := Option.some.inj H
        go_enter Try.func36, Try.ntmps36
        go_wp2_with (first | ((with_reducible refine gate_dst (N := 1) rfl ?_); (try (refine gate_guard (by rfl) ?_; dsimp only)); refine box_event ?hg (N := 1) ?hd (cs := #[.int .i64 a0_0, .slice A0_1 l0_1.length c0_1, .slice A0_2 l0_2.length c0_2, .slice A0_3 l0_3.length c0_3, .slice A0_4 l0_4.length c0_4, .slice A0_5 l0_5.length c0_5]) (t := 26) ?hr ?_; (case hd => rfl); (case hg => rfl); (case hr => first | (go_simp; done) | (go_simp; rfl)); intro gb303 hg w11 hbox hb; have n0_ := Aside0.mk (below_step (by repeat (first | (with_reducible first | exact HB.out | apply below_alloc | apply pw_below_drewN | apply below_drew1) | exact HB.out)) hb); have n1_ := Aside0.mk (hbox); have n2_ := Aside0.mk ((by rw [hg]; exact (below_size (by repeat (first | (with_reducible first | exact HB.out | apply below_alloc | apply pw_below_drewN | apply below_drew1) | exact HB.out))) : w.heap.size ≤ gb303)); have n3_ := Aside0.mk ((by rw [hg]; exact (below_size (by repeat (first | (with_reducible first | exact HB.out | apply below_alloc | apply pw_below_drewN | apply below_drew1) | exact HB.out))) : w.heap.size ≤ gb303)); clear HB; have HB := n0_; have BK303 := n1_; have GW303 := n2_; have GE303 := n3_; clear n0_ n1_ n2_ n3_; clear hb hbox hg; have hcz12_0 : w11.cell? ⟨gb303, 0, none⟩ = some (.int .i64 a0_0) := (blk_cell BK303.out 0).trans rfl; have hcz12_1 : w11.cell? ⟨gb303, 1, none⟩ = some (.slice A0_1 l0_1.length c0_1) := (blk_cell BK303.out 1).trans rfl; have hcz12_2 : w11.cell? ⟨gb303, 2, none⟩ = some (.slice A0_2 l0_2.length c0_2) := (blk_cell BK303.out 2).trans rfl; have hcz12_3 : w11.cell? ⟨gb303, 3, none⟩ = some (.slice A0_3 l0_3.length c0_3) := (blk_cell BK303.out 3).trans rfl; have hcz12_4 : w11.cell? ⟨gb303, 4, none⟩ = some (.slice A0_4 l0_4.length c0_4) := (blk_cell BK303.out 4).trans rfl; have hcz12_5 : w11.cell? ⟨gb303, 5, none⟩ = some (.slice A0_5 l0_5.length c0_5) := (blk_cell BK303.out 5).trans rfl; have hfz12_0 := blk_frozen BK303.out 0; have hfz12_1 := blk_frozen BK303.out 1; have hfz12_2 := blk_frozen BK303.out 2; have hfz12_3 := blk_frozen BK303.out 3; have hfz12_4 := blk_frozen BK303.out 4; have hfz12_5 := blk_frozen BK303.out 5))
        go_ret
        exact ⟨by first | rfl | (simp [errW_none, errW_some] <;> rfl) | (simp [*, errW_none, errW_some] <;> rfl), by repeat (first | (with_reducible first | exact HB.out | apply below_alloc | apply pw_below_drewN | apply below_drew1 | refine below_set ?_ GE303.out) | exact HB.out)⟩
end Go.Proofs.Yteiiodlgdbiimaa.F
end
section
namespace Go.Proofs.Yteiiodlgdbiimaa.F
open Go.RowKit Go.Proofs.YteiiodlgdbiimaaW.PrintWords Go.Proofs.YteiiodlgdbiimaaW.PrintLast Go.Proofs.YteiiodlgdbiimaaW.PrintMore
attribute [local go_sem] max2_int min2_int max_two min_two max_three min_three max_four min_four
set_option linter.unusedVariables false
set_option linter.unusedSimpArgs false
theorem eqA68 (d : Nat) (w : World) (x0 y0 : Int) (x1 y1 : Int) :
    (Op.equalIn (d + 2) 68 (.agg #[.int .u32 x0, .int .u32 x1]) (.agg #[.int .u32 y0, .int .u32 y1])).run Try.prog w = .ok (x0 == y0 && (x1 == y1)) w := by
  refine eqA_of Try.underlying68 (by kernel_rfl) ?_
  refine eqf_cons (by rfl) (by go_simp; rfl) (by go_simp; rfl) (by go_simp) ?_
  exact eqf_last (by rfl) (by go_simp; rfl) (by go_simp; rfl) (by go_simp)
end Go.Proofs.Yteiiodlgdbiimaa.F
end
section
namespace Go.Proofs.Yteiiodlgdbiimaa.F
open Go.RowKit Go.Proofs.YteiiodlgdbiimaaW.PrintWords Go.Proofs.YteiiodlgdbiimaaW.PrintLast Go.Proofs.YteiiodlgdbiimaaW.PrintMore
attribute [local go_sem] max2_int min2_int max_two min_two max_three min_three max_four min_four
set_option linter.unusedVariables false
set_option linter.unusedSimpArgs false
def inquestref00_Numbers.l0 : Nat → List Int → List Int → Option (Bool)
  | 0, _, _ => none
  | k + 1, x0, x1 => if (x0.length : Int) > 0 then (if 0 < (x0.length : Int) then (if 0 < (x1.length : Int) then (if (rd x0 0) = (rd x1 0) then (if 1 ≤ (x0.length : Int) then (if 1 ≤ (x1.length : Int) then (inquestref00_Numbers.l0 k (x0.drop 1) (x1.drop 1)) else (none)) else (none)) else (some false)) else (none)) else (none)) else (some true)
def inquestref00_Numbers.f (k : Nat) (l0 : List Int) (l1 : List Int) : Option (Bool) := if (l0.length : Int) = (l1.length : Int) then (inquestref00_Numbers.l0 k l0 l1) else (some false)
theorem inquestref00_Numbers.mono_l : ∀ k, (∀ y0 y1, LeO (inquestref00_Numbers.l0 k y0 y1) (inquestref00_Numbers.l0 (k + 1) y0 y1))
  | 0 => fun _ _ r h => by simp [inquestref00_Numbers.l0] at h
  | k + 1 => by
    have ih0 := inquestref00_Numbers.mono_l k
    · intro y0 y1
      unfold inquestref00_Numbers.l0
      repeat' first
      | (with_reducible exact ih0 _ _)
      | (with_reducible exact LeO.refl _)
      | (with_reducible exact LeO.none _)
      | (with_reducible refine LeO.ite ?_ ?_)
      | (with_reducible refine LeO.bind ?_ (fun _ => ?_))
      | exact ih0 _ _
      | exact LeO.none _
      | refine LeO.ite ?_ ?_
      | refine LeO.bind ?_ (fun _ => ?_)
theorem inquestref00_Numbers.mono : ∀ a0 a1 k, LeO (inquestref00_Numbers.f k a0 a1) (inquestref00_Numbers.f (k + 1) a0 a1) := by
  intro a0 a1 k
  have ih0 := inquestref00_Numbers.mono_l k
  unfold inquestref00_Numbers.f
  repeat' first
      | (with_reducible exact ih0 _ _)
      | (with_reducible exact LeO.refl _)
      | (with_reducible exact LeO.none _)
      | (with_reducible refine LeO.ite ?_ ?_)
      | (with_reducible refine LeO.bind ?_ (fun _ => ?_))
      | exact ih0 _ _
      | exact LeO.none _
      | refine LeO.ite ?_ ?_
      | refine LeO.bind ?_ (fun _ => ?_)
set_option maxHeartbeats 8000000 in
set_option maxRecDepth 100000 in
theorem inquestref00_Numbers.calls (k : Nat) (P0_ : Nat → Prop) (A0 : Option Addr) (c0 : Nat) (l0 : List Int) (P1_ : Nat → Prop) (A1 : Option Addr) (c1 : Nat) (l1 : List Int) (r : Bool) (w : World) (hs0 : Kd.V (Kd.int .u32) 39 w w.heap.size (fun k_ => P0_ k_) (.slice A0 l0.length c0) l0) (hs1 : Kd.V (Kd.int .u32) 39 w w.heap.size (fun k_ => P1_ k_) (.slice A1 l1.length c1) l1) (h : inquestref00_Numbers.f k l0 l1 = some r) :
    Calls Try.prog 42 #[.slice A0 l0.length c0, .slice A1 l1.length c1] w fun e w' => e = .returned (.bool r) ∧ Below w.heap.size w w' := by
  have HO0 := Aside0.mk (show Kd.V (Kd.int .u32) 39 w w.heap.size (fun k_ => ((P0_ k_ ∨ P1_ k_) ∨ w.heap.size ≤ k_)) (.slice A0 l0.length c0) l0 from Kd.V_mono hs0 (fun k_ hk => .inl (.inl hk)))
  have HO1 := Aside0.mk (show Kd.V (Kd.int .u32) 39 w w.heap.size (fun k_ => ((P0_ k_ ∨ P1_ k_) ∨ w.heap.size ≤ k_)) (.slice A1 l1.length c1) l1 from Kd.V_mono hs1 (fun k_ hk => .inl (.inr hk)))
  have HB := Aside0.mk (Below.refl w.heap.size w)
  have H : (if (l0.length : Int) = (l1.length : Int) then (inquestref00_Numbers.l0 k l0 l1) else (some false)) = some r := h
  clear h
  by_cases c3 : (l0.length : Int) = (l1.length : Int)
  · rw [if_pos c3] at H
    have c3b0 : ((l0.length : Int) == (l1.length : Int)) = true := beq_iff_eq.mpr c3
    have c3b1 : ((l0.length : Int) != (l1.length : Int)) = false := bne_eq_false_iff_eq.mpr c3
    have c3b2 : (l0.length == l1.length) = true := by first | simpa using c3 | (simp at c3 ⊢; omega)
    clear c3
    have H' := Aside0.mk H
    clear H
    go_enter Try.func42, Try.ntmps42
    go_wp2
    repeat (go_quiet (fail); try go_wp2)
    go_loopg [0, 1] k (fun kq v0 v1 w' => ∃ (x0_1 : List Int) (x1_1 : List Int), Aside0 (inquestref00_Numbers.l0 kq x0_1 x1_1 = some r) ∧ Aside0 (kq ≤ k) ∧ Aside0 (Kd.V (Kd.int .u32) 39 w' w.heap.size (fun k_ => ((P0_ k_ ∨ P1_ k_) ∨ w.heap.size ≤ k_)) v0 x0_1) ∧ Aside0 (Kd.V (Kd.int .u32) 39 w' w.heap.size (fun k_ => ((P0_ k_ ∨ P1_ k_) ∨ w.heap.size ≤ k_)) v1 x1_1) ∧ Aside0 (Below w.heap.size w w'))
    case atStart => exact ⟨(l0), (l1), H', ⟨Nat.le_refl _⟩, ⟨by (with_reducible repeat (first | apply Kd.V_alloc | apply Kd.V_drewN | apply Kd.V_drew)); exact HO0.out⟩, ⟨by (with_reducible repeat (first | apply Kd.V_alloc | apply Kd.V_drewN | apply Kd.V_drew)); exact HO1.out⟩, ⟨by repeat (first | (with_reducible first | exact HB.out | apply below_alloc | apply pw_below_drewN | apply below_drew1) | exact HB.out)⟩⟩
    case round =>
      clear H'
      try clear c1
      try clear p2
      try clear c3
      try clear c3b0
      try clear c3b1
      try clear c3b2
      obtain ⟨x0_1, x1_1, HA, HK1, HO_0, HO_1, HB⟩ := hrel
      cases gk with
      | zero => exact absurd HA.out (by simp [inquestref00_Numbers.l0])
      | succ k1 =>
        have H := HA.out
        clear HA
        simp only [inquestref00_Numbers.l0] at H
        by_cases c4 : (x0_1.length : Int) > 0
        · rw [if_pos c4] at H
          have c4b0 : decide (0 < (x0_1.length : Int)) = true := decide_eq_true c4
          have c4b1 : decide (0 < x0_1.length) = true := decide_eq_true (by omega)
          clear c4
          by_cases c5 : 0 < (x0_1.length : Int)
          · rw [if_pos c5] at H
            have c5b0 : decide (0 < (x0_1.length : Int)) = true := decide_eq_true c5
            have c5b1 : decide (0 < x0_1.length) = true := decide_eq_true (by omega)
            clear c5
            by_cases c6 : 0 < (x1_1.length : Int)
            · rw [if_pos c6] at H
              have c6b0 : decide (0 < (x1_1.length : Int)) = true := decide_eq_true c6
              have c6b1 : decide (0 < x1_1.length) = true := decide_eq_true (by omega)
              clear c6
              by_cases c7 : (rd x0_1 0) = (rd x1_1 0)
              · rw [if_pos c7] at H
                have c7b0 : ((rd x0_1 0) == (rd x1_1 0)) = true := beq_iff_eq.mpr c7
                have c7b1 : ((rd x0_1 0) != (rd x1_1 0)) = false := bne_eq_false_iff_eq.mpr c7
                clear c7
                by_cases c8 : 1 ≤ (x0_1.length : Int)
                · rw [if_pos c8] at H
                  have c8b0 := eq_true c8
                  have c8b1 : decide (1 ≤ (x0_1.length : Int)) = true := decide_eq_true c8
                  clear c8
                  obtain ⟨y242, hy242⟩ : ∃ y_ : List Int, y_ = (x0_1.drop 1) := ⟨_, rfl⟩
                  replace H : (if 1 ≤ (x1_1.length : Int) then (inquestref00_Numbers.l0 k1 y242 (x1_1.drop 1)) else (none)) = some r := by first | (rw [hy242]; with_reducible exact H) | (have H2_ := (Option.bind_some _ _).symm.trans H; rw [hy242]; with_reducible exact H2_) | (have H2_ := (Option.bind_some _ _).symm.trans H; with_reducible exact H2_) | with_reducible exact H | (rw [hy242]; exact H) | exact H
                  have Ny242 := Aside0.mk hy242
                  clear hy242
                  by_cases c9 : 1 ≤ (x1_1.length : Int)
                  · rw [if_pos c9] at H
                    have c9b0 := eq_true c9
                    have c9b1 : decide (1 ≤ (x1_1.length : Int)) = true := decide_eq_true c9
                    clear c9
                    obtain ⟨y247, hy247⟩ : ∃ y_ : List Int, y_ = (x1_1.drop 1) := ⟨_, rfl⟩
                    replace H : (inquestref00_Numbers.l0 k1 y242 y247) = some r := by first | (rw [hy247]; with_reducible exact H) | (have H2_ := (Option.bind_some _ _).symm.trans H; rw [hy247]; with_reducible exact H2_) | (have H2_ := (Option.bind_some _ _).symm.trans H; with_reducible exact H2_) | with_reducible exact H | (rw [hy247]; exact H) | exact H
                    have Ny247 := Aside0.mk hy247
                    clear hy247
                    have H' := Aside0.mk H
                    clear H
                    obtain ⟨Ao10, co10, eo10⟩ := Kd.V_slice HO_0.out
                    subst eo10
                    have p240 : 0 ≤ (0 : Int) := (by omega)
                    have q240 : 0 < (x0_1.length : Int) := of_decide_eq_true (by first | (with_reducible assumption) | assumption)
                    obtain ⟨ad240, e240, hx240_0⟩ := Kd.at_int (Kd.V_reads' HO_0.out).2.2 0 p240 q240
                    cases e240
                    have qi240 : (0 < x0_1.length) = True := eq_true (by omega)
                    (try rw [show ((0 : Int)).toNat = 0 from rfl] at hx240_0)
                    (try rw [Addr.add_zero'] at hx240_0)
                    replace p240 := eq_true p240
                    replace q240 := eq_true q240
                    obtain ⟨Ao11, co11, eo11⟩ := Kd.V_slice HO_1.out
                    subst eo11
                    have p241 : 0 ≤ (0 : Int) := (by omega)
                    have q241 : 0 < (x1_1.length : Int) := of_decide_eq_true (by first | (with_reducible assumption) | assumption)
                    obtain ⟨ad241, e241, hx241_0⟩ := Kd.at_int (Kd.V_reads' HO_1.out).2.2 0 p241 q241
                    cases e241
                    have qi241 : (0 < x1_1.length) = True := eq_true (by omega)
                    (try rw [show ((0 : Int)).toNat = 0 from rfl] at hx241_0)
                    (try rw [Addr.add_zero'] at hx241_0)
                    replace p241 := eq_true p241
                    replace q241 := eq_true q241
                    have q12 : (1 : Int) ≤ ((x0_1.length : Int) : Int) := of_decide_eq_true (by first | (with_reducible assumption) | assumption)
                    obtain ⟨i012, hi012, _, hsz12, _⟩ := info_parts info39
                    have hroom12 : x0_1.length ≤ co10 := (Kd.V_reads' HO_0.out).2.1
                    have hC12 : Kd.F (Kd.int .u32) _ _ (some ad240) x0_1.length x0_1 := (Kd.V_at (base := w.heap.size) HO_0.out).2.2
                    have hcut12 := cut_from (P := Try.prog) 24 39 .i64 Try.underlying24 hi012 1 hsz12 (some ad240) x0_1.length co10 1 (by omega) q12
                    have hr12 := Kd.F_cut (m := (1 : Int).toNat) (c := co10) hC12 (by omega) hroom12
                    obtain ⟨A12, hA12⟩ : ∃ A1, A1 = (if co10 = (1 : Int).toNat then (some ad240) else ((some ad240) : Option Addr).map (·.add ((1 : Int).toNat * 1))) := ⟨_, rfl⟩
                    obtain ⟨c12, hc12⟩ : ∃ c1, c1 = co10 - (1 : Int).toNat := ⟨_, rfl⟩
                    have hy12 : y242.length = x0_1.length - (1 : Int).toNat := (by rw [Ny242.out, List.length_drop] <;> omega)
                    rw [show (x0_1).drop (1 : Int).toNat = y242 from Ny242.out.symm] at hr12
                    replace hr12 : Kd.F (Kd.int .u32) _ _ A12 y242.length y242 := (by rw [hA12]; exact hr12)
                    rw [← hy12, ← hA12, ← hc12] at hcut12
                    have HO246 := Aside0.mk (show Kd.V (Kd.int .u32) 39 _ w.heap.size _ (.slice A12 y242.length c12) y242 from Kd.V_mk (by rw [hy12, hc12]; exact Nat.sub_le_sub_right hroom12 _) hr12)
                    have HC246 := Aside0.mk (show y242.length ≤ c12 from by rw [hy12, hc12]; exact Nat.sub_le_sub_right hroom12 _)
                    clear hr12 hC12 hroom12 hi012 hsz12 hc12
                    have KY12 := Aside0.mk hy12
                    have KA12 := Aside0.mk hA12
                    clear hy12 hA12
                    replace q12 := eq_true q12
                    have q13 : (1 : Int) ≤ ((x1_1.length : Int) : Int) := of_decide_eq_true (by first | (with_reducible assumption) | assumption)
                    obtain ⟨i013, hi013, _, hsz13, _⟩ := info_parts info39
                    have hroom13 : x1_1.length ≤ co11 := (Kd.V_reads' HO_1.out).2.1
                    have hC13 : Kd.F (Kd.int .u32) _ _ (some ad241) x1_1.length x1_1 := (Kd.V_at (base := w.heap.size) HO_1.out).2.2
                    have hcut13 := cut_from (P := Try.prog) 24 39 .i64 Try.underlying24 hi013 1 hsz13 (some ad241) x1_1.length co11 1 (by omega) q13
                    have hr13 := Kd.F_cut (m := (1 : Int).toNat) (c := co11) hC13 (by omega) hroom13
                    obtain ⟨A13, hA13⟩ : ∃ A1, A1 = (if co11 = (1 : Int).toNat then (some ad241) else ((some ad241) : Option Addr).map (·.add ((1 : Int).toNat * 1))) := ⟨_, rfl⟩
                    obtain ⟨c13, hc13⟩ : ∃ c1, c1 = co11 - (1 : Int).toNat := ⟨_, rfl⟩
                    have hy13 : y247.length = x1_1.length - (1 : Int).toNat := (by rw [Ny247.out, List.length_drop] <;> omega)
                    rw [show (x1_1).drop (1 : Int).toNat = y247 from Ny247.out.symm] at hr13
                    replace hr13 : Kd.F (Kd.int .u32) _ _ A13 y247.length y247 := (by rw [hA13]; exact hr13)
                    rw [← hy13, ← hA13, ← hc13] at hcut13
                    have HO251 := Aside0.mk (show Kd.V (Kd.int .u32) 39 _ w.heap.size _ (.slice A13 y247.length c13) y247 from Kd.V_mk (by rw [hy13, hc13]; exact Nat.sub_le_sub_right hroom13 _) hr13)
                    have HC251 := Aside0.mk (show y247.length ≤ c13 from by rw [hy13, hc13]; exact Nat.sub_le_sub_right hroom13 _)
                    clear hr13 hC13 hroom13 hi013 hsz13 hc13
                    have KY13 := Aside0.mk hy13
                    have KA13 := Aside0.mk hA13
                    clear hy13 hA13
                    replace q13 := eq_true q13
                    go_wp2
                    repeat (go_quiet (fail); try go_wp2)
                    go_roundg k1
                    case measure => have := HK1.out; omega
                    case rel => exact ⟨(y242), (y247), H', ⟨by have := HK1.out; omega⟩, ⟨by (with_reducible repeat (first | apply Kd.V_alloc | apply Kd.V_drewN | apply Kd.V_drew)); exact HO246.out⟩, ⟨by (with_reducible repeat (first | apply Kd.V_alloc | apply Kd.V_drewN | apply Kd.V_drew)); exact HO251.out⟩, ⟨by repeat (first | (with_reducible first | exact HB.out | apply below_alloc | apply pw_below_drewN | apply below_drew1) | exact HB.out)⟩⟩
                  · rw [if_neg c9] at H
                    exact absurd H (by simp)
                · rw [if_neg c8] at H
                  exact absurd H (by simp)
              · rw [if_neg c7] at H
                have c7b0 : ((rd x0_1 0) == (rd x1_1 0)) = false := beq_eq_false_iff_ne.mpr c7
                have c7b1 : ((rd x0_1 0) != (rd x1_1 0)) = true := bne_iff_ne.mpr c7
                obtain rfl := Option.some.inj H
                obtain ⟨Ao14, co14, eo14⟩ := Kd.V_slice HO_0.out
                subst eo14
                have p240 : 0 ≤ (0 : Int) := (by omega)
                have q240 : 0 < (x0_1.length : Int) := of_decide_eq_true (by first | (with_reducible assumption) | assumption)
                obtain ⟨ad240, e240, hx240_0⟩ := Kd.at_int (Kd.V_reads' HO_0.out).2.2 0 p240 q240
                cases e240
                have qi240 : (0 < x0_1.length) = True := eq_true (by omega)
                (try rw [show ((0 : Int)).toNat = 0 from rfl] at hx240_0)
                (try rw [Addr.add_zero'] at hx240_0)
                replace p240 := eq_true p240
                replace q240 := eq_true q240
                obtain ⟨Ao15, co15, eo15⟩ := Kd.V_slice HO_1.out
                subst eo15
                have p241 : 0 ≤ (0 : Int) := (by omega)
                have q241 : 0 < (x1_1.length : Int) := of_decide_eq_true (by first | (with_reducible assumption) | assumption)
                obtain ⟨ad241, e241, hx241_0⟩ := Kd.at_int (Kd.V_reads' HO_1.out).2.2 0 p241 q241
                cases e241
                have qi241 : (0 < x1_1.length) = True := eq_true (by omega)
                (try rw [show ((0 : Int)).toNat = 0 from rfl] at hx241_0)
                (try rw [Addr.add_zero'] at hx241_0)
                replace p241 := eq_true p241
                replace q241 := eq_true q241
                go_wp2
                repeat (go_quiet (fail); try go_wp2)
                go_ret
                exact ⟨by first | rfl | (simp [errW_none, errW_some] <;> rfl) | (simp [*, errW_none, errW_some] <;> rfl), by repeat (first | (with_reducible first | exact HB.out | apply below_alloc | apply pw_below_drewN | apply below_drew1) | exact HB.out)⟩
            · rw [if_neg c6] at H
              exact absurd H (by simp)
          · rw [if_neg c5] at H
            exact absurd H (by simp)
        · rw [if_neg c4] at H
          have c4b0 : decide (0 < (x0_1.length : Int)) = false := decide_eq_false c4
          have c4b1 : decide (0 < x0_1.length) = false := decide_eq_false (by omega)
          clear c4
          obtain rfl := Option.some.inj H
          obtain ⟨Ao16, co16, eo16⟩ := Kd.V_slice HO_0.out
          subst eo16
          go_wp2
          repeat (go_quiet (fail); try go_wp2)
          go_ret
          exact ⟨by first | rfl | (simp [errW_none, errW_some] <;> rfl) | (simp [*, errW_none, errW_some] <;> rfl), by repeat (first | (with_reducible first | exact HB.out | apply below_alloc | apply pw_below_drewN | apply below_drew1) | exact HB.out)⟩
  · rw [if_neg c3] at H
    have c3b0 : ((l0.length : Int) == (l1.length : Int)) = false := beq_eq_false_iff_ne.mpr c3
    have c3b1 : ((l0.length : Int) != (l1.length : Int)) = true := bne_iff_ne.mpr c3
    have c3b2 : (l0.length == l1.length) = false := by first | simpa using c3 | (simp at c3 ⊢; omega)
    obtain rfl := Option.some.inj H
    go_enter Try.func42, Try.ntmps42
    go_wp2
    repeat (go_quiet (fail); try go_wp2)
    go_ret
    exact ⟨by first | rfl | (simp [errW_none, errW_some] <;> rfl) | (simp [*, errW_none, errW_some] <;> rfl), by repeat (first | (with_reducible first | exact HB.out | apply below_alloc | apply pw_below_drewN | apply below_drew1) | exact HB.out)⟩
end Go.Proofs.Yteiiodlgdbiimaa.F
end
section
namespace Go.Proofs.Yteiiodlgdbiimaa.F
open Go.RowKit Go.Proofs.YteiiodlgdbiimaaW.PrintWords Go.Proofs.YteiiodlgdbiimaaW.PrintLast Go.Proofs.YteiiodlgdbiimaaW.PrintMore
attribute [local go_sem] max2_int min2_int max_two min_two max_three min_three max_four min_four
set_option linter.unusedVariables false
set_option linter.unusedSimpArgs false
def norm_vars.f (a0_0 : Int) (l0_1 : List (S41)) (l0_2 : List (S68)) (l0_3 : List Int) (l0_4 : List Int) (l0_5 : List Int) : Option (Int) := some (wrap64 ((wrap64 (a0_0 + (l0_1.length : Int))) + (l0_2.length : Int)))
set_option maxHeartbeats 8000000 in
set_option maxRecDepth 100000 in
theorem norm_vars.calls (a0_0 : Int) (A0_1 : Option Addr) (c0_1 : Nat) (l0_1 : List (S41)) (A0_2 : Option Addr) (c0_2 : Nat) (l0_2 : List (S68)) (A0_3 : Option Addr) (c0_3 : Nat) (l0_3 : List Int) (A0_4 : Option Addr) (c0_4 : Nat) (l0_4 : List Int) (A0_5 : Option Addr) (c0_5 : Nat) (l0_5 : List Int) (r : Int) (w : World) (hr0_1 : Kd.C k41 w A0_1 l0_1.length l0_1) (hc0_1 : l0_1.length ≤ c0_1) (hr0_2 : Kd.C k68 w A0_2 l0_2.length l0_2) (hc0_2 : l0_2.length ≤ c0_2) (hr0_3 : Kd.C (Kd.int .u32) w A0_3 l0_3.length l0_3) (hc0_3 : l0_3.length ≤ c0_3) (hr0_4 : Kd.C (Kd.int .u32) w A0_4 l0_4.length l0_4) (hc0_4 : l0_4.length ≤ c0_4) (hr0_5 : Kd.C (Kd.int .u32) w A0_5 l0_5.length l0_5) (hc0_5 : l0_5.length ≤ c0_5) (h : norm_vars.f a0_0 l0_1 l0_2 l0_3 l0_4 l0_5 = some r) :
    Calls Try.prog 143 #[.agg #[.int .i64 a0_0, .slice A0_1 l0_1.length c0_1, .slice A0_2 l0_2.length c0_2, .slice A0_3 l0_3.length c0_3, .slice A0_4 l0_4.length c0_4, .slice A0_5 l0_5.length c0_5]] w fun e w' => e = .returned (.int .i64 r) ∧ Below w.heap.size w w' := by
  have hu26 := Try.underlying26
  have HR0_1 := Aside0.mk hr0_1
  have HC0_1 := Aside0.mk hc0_1
  clear hr0_1 hc0_1
  have HR0_2 := Aside0.mk hr0_2
  have HC0_2 := Aside0.mk hc0_2
  clear hr0_2 hc0_2
  have HR0_3 := Aside0.mk hr0_3
  have HC0_3 := Aside0.mk hc0_3
  clear hr0_3 hc0_3
  have HR0_4 := Aside0.mk hr0_4
  have HC0_4 := Aside0.mk hc0_4
  clear hr0_4 hc0_4
  have HR0_5 := Aside0.mk hr0_5
  have HC0_5 := Aside0.mk hc0_5
  clear hr0_5 hc0_5
  have HB := Aside0.mk (Below.refl w.heap.size w)
  have H : (some (wrap64 ((wrap64 (a0_0 + (l0_1.length : Int))) + (l0_2.length : Int)))) = some r := h
  clear h
  obtain rfl := Option.some.inj H
  go_enter Try.func143, Try.ntmps143
  go_wp2_with (first | ((with_reducible refine gate_dst (N := 1) rfl ?_); refine box_event ?hg (N := 1) ?hd (cs := #[.int .i64 a0_0, .slice A0_1 l0_1.length c0_1, .slice A0_2 l0_2.length c0_2, .slice A0_3 l0_3.length c0_3, .slice A0_4 l0_4.length c0_4, .slice A0_5 l0_5.length c0_5]) (t := 26) ?hr ?_; (case hd => rfl); (case hg => rfl); (case hr => first | (go_simp; done) | (go_simp; rfl)); intro gb103 hg w2 hbox hb; have n0_ := Aside0.mk (below_step (by repeat (first | (with_reducible first | exact HB.out | apply below_alloc | apply pw_below_drewN | apply below_drew1) | exact HB.out)) hb); have n1_ := Aside0.mk (hbox); have n2_ := Aside0.mk ((by rw [hg]; exact (below_size (by repeat (first | (with_reducible first | exact HB.out | apply below_alloc | apply pw_below_drewN | apply below_drew1) | exact HB.out))) : w.heap.size ≤ gb103)); have n3_ := Aside0.mk ((by rw [hg]; exact (below_size (by repeat (first | (with_reducible first | exact HB.out | apply below_alloc | apply pw_below_drewN | apply below_drew1) | exact HB.out))) : w.heap.size ≤ gb103)); clear HB; have HB := n0_; have BK103 := n1_; have GW103 := n2_; have GE103 := n3_; clear n0_ n1_ n2_ n3_; clear hb hbox hg; have hcz3_0 : w2.cell? ⟨gb103, 0, none⟩ = some (.int .i64 a0_0) := (blk_cell BK103.out 0).trans rfl; have hcz3_1 : w2.cell? ⟨gb103, 1, none⟩ = some (.slice A0_1 l0_1.length c0_1) := (blk_cell BK103.out 1).trans rfl; have hcz3_2 : w2.cell? ⟨gb103, 2, none⟩ = some (.slice A0_2 l0_2.length c0_2) := (blk_cell BK103.out 2).trans rfl; have hcz3_3 : w2.cell? ⟨gb103, 3, none⟩ = some (.slice A0_3 l0_3.length c0_3) := (blk_cell BK103.out 3).trans rfl; have hcz3_4 : w2.cell? ⟨gb103, 4, none⟩ = some (.slice A0_4 l0_4.length c0_4) := (blk_cell BK103.out 4).trans rfl; have hcz3_5 : w2.cell? ⟨gb103, 5, none⟩ = some (.slice A0_5 l0_5.length c0_5) := (blk_cell BK103.out 5).trans rfl; have hfz3_0 := blk_frozen BK103.out 0; have hfz3_1 := blk_frozen BK103.out 1; have hfz3_2 := blk_frozen BK103.out 2; have hfz3_3 := blk_frozen BK103.out 3; have hfz3_4 := blk_frozen BK103.out 4; have hfz3_5 := blk_frozen BK103.out 5))
  go_ret
  exact ⟨by first | rfl | (simp [errW_none, errW_some] <;> rfl) | (simp [*, errW_none, errW_some] <;> rfl), by repeat (first | (with_reducible first | exact HB.out | apply below_alloc | apply pw_below_drewN | apply below_drew1 | refine below_set ?_ GE103.out) | exact HB.out)⟩
end Go.Proofs.Yteiiodlgdbiimaa.F
end
section
namespace Go.Proofs.Yteiiodlgdbiimaa.F
open Go.RowKit Go.Shelf Go.Proofs.YteiiodlgdbiimaaW.PrintWords Go.Proofs.YteiiodlgdbiimaaW.PrintLast Go.Proofs.YteiiodlgdbiimaaW.PrintMore
set_option linter.unusedVariables false
set_option linter.unusedSimpArgs false
def idx (p : Nat → Bool) (n : Nat) : Int := match (List.range n).find? p with
  | some j => (j : Int)
  | none => -1
theorem idx_hit (p : Nat → Bool) (n k : Nat) (hk : k < n) (h : p k = true) (hn : ∀ j, j < k → p j = false) : idx p n = (k : Int) := by
  have : (List.range n).find? p = some k := by
    rw [List.find?_range_eq_some]
    exact ⟨h, List.mem_range.2 hk, fun j hj => by simp [hn j hj]⟩
  simp [idx, this]
theorem idx_miss (p : Nat → Bool) (n : Nat) (hn : ∀ j, j < n → p j = false) : idx p n = -1 := by
  have : (List.range n).find? p = none := by
    rw [List.find?_range_eq_none]
    exact fun j hj => by simp [hn j hj]
  simp [idx, this]
theorem idx_any (p : Nat → Bool) (n : Nat) : decide (0 ≤ idx p n) = (List.range n).any p := by
  rw [Bool.eq_iff_iff, decide_eq_true_iff, List.any_eq_true]
  unfold idx
  split
  · rename_i j h
    constructor
    · intro _
      exact ⟨j, List.mem_of_find?_eq_some h, List.find?_some h⟩
    · intro _
      omega
  · rename_i h
    rw [List.find?_eq_none] at h
    constructor
    · intro h0
      omega
    · rintro ⟨j, hj, hp⟩
      exact absurd hp (h j hj)
set_option maxHeartbeats 4000000 in
theorem index177 (g : Nat) (lb : Array Value) (eg : ∀ args w, (callFunc g args).run Try.prog w = .ok (.enter g args) w) (ev : Nat → Value) (pv : Nat → Bool)
    (A : Option Addr) (n c : Nat) (w : World) (hn : n ≤ 9223372036854775807)
    (hc : ∀ j, j < n → ∃ ad, A = some ad ∧ w.cell? (ad.add j) = some (ev j))
    (hp : ∀ j, j < n → ∀ W, Below w.heap.size w W → Calls Try.prog g (#[ev j] ++ lb) W fun e w' => e = .returned (.bool (pv j)) ∧ Below W.heap.size W w') :
    Calls Try.prog 177 #[.slice A n c, .func (.func g) #[] lb] w fun e w' => e = .returned (.int .i64 (idx pv n)) ∧ Below w.heap.size w w' := by
  have HC := Aside0.mk hc
  have HP := Aside0.mk hp
  clear hc hp
  go_enter Try.func177, Try.ntmps177
  go_wp2
  go_loopg [5, 8] n (fun gg _ s8 wr => ∃ kk : Nat, kk ≤ n ∧ n - kk ≤ gg ∧ s8 = .int .i64 kk ∧ Aside0 (Below w.heap.size w wr) ∧ Aside0 (∀ j, j < kk → pv j = false))
  case atStart => exact ⟨0, Nat.zero_le _, by omega, rfl, ⟨Below.refl _ w⟩, ⟨fun j hj => absurd hj (Nat.not_lt_zero _)⟩⟩
  case round =>
    obtain ⟨kk, hkk, hg, rfl, BW, HA⟩ := hrel
    by_cases hlt : kk < n
    · have hltz : (kk : Int) < (n : Int) := by omega
      obtain ⟨ad, rfl, hx0⟩ := HC.out kk hlt
      have hx := pw_cell_below BW.out hx0
      have hcall := HP.out kk hlt wr BW.out
      generalize hy : ev kk = y at hx hcall
      clear hy hx0
      cases hq : pv kk with
      | true =>
        rw [hq] at hcall
        go_wp2_with (go_at_fn g; refine hcall.mono ?_; rintro e w' ⟨rfl, hb'⟩)
        go_ret
        exact ⟨by rw [idx_hit pv n kk hlt hq HA.out]; rfl, below_step BW.out hb'⟩
      | false =>
        rw [hq] at hcall
        go_wp2_with (go_at_fn g; refine hcall.mono ?_; rintro e w' ⟨rfl, hb'⟩)
        go_roundg (n - (kk + 1))
        case measure => omega
        case rel =>
          refine ⟨kk + 1, by omega, by omega, by go_num, ⟨below_step BW.out hb'⟩, ⟨fun j hj => ?_⟩⟩
          by_cases e : j = kk
          · subst e
            exact hq
          · exact HA.out j (by omega)
    · have hltz : ¬ (kk : Int) < (n : Int) := by omega
      have : kk = n := by omega
      subst this
      go_wp2
      go_ret
      exact ⟨by rw [idx_miss pv kk HA.out]; rfl, BW.out⟩
set_option maxHeartbeats 4000000 in
theorem contains177 (g : Nat) (lb : Array Value) (eg : ∀ args w, (callFunc g args).run Try.prog w = .ok (.enter g args) w) (ev : Nat → Value) (pv : Nat → Bool)
    (A : Option Addr) (n c : Nat) (w : World) (hn : n ≤ 9223372036854775807)
    (hc : ∀ j, j < n → ∃ ad, A = some ad ∧ w.cell? (ad.add j) = some (ev j))
    (hp : ∀ j, j < n → ∀ W, Below w.heap.size w W → Calls Try.prog g (#[ev j] ++ lb) W fun e w' => e = .returned (.bool (pv j)) ∧ Below W.heap.size W w') :
    Calls Try.prog 139 #[.slice A n c, .func (.func g) #[] lb] w fun e w' => e = .returned (.bool ((List.range n).any pv)) ∧ Below w.heap.size w w' := by
  have H := Aside0.mk (index177 g lb eg ev pv A n c w hn hc hp)
  clear hc hp
  rw [← idx_any pv n]
  go_enter Try.func139, Try.ntmps139
  go_wp2_with (go_at_call 177; refine H.out.mono ?_; rintro e w' ⟨rfl, hb'⟩)
  go_ret
  exact ⟨rfl, hb'⟩
end Go.Proofs.Yteiiodlgdbiimaa.F
end
section
namespace Go.Proofs.Yteiiodlgdbiimaa.F
open Go.RowKit Go.Shelf Go.Proofs.YteiiodlgdbiimaaW.PrintWords Go.Proofs.YteiiodlgdbiimaaW.PrintLast Go.Proofs.YteiiodlgdbiimaaW.PrintMore
set_option linter.unusedVariables false
set_option linter.unusedSimpArgs false
def varsW (a : Int) (n m : Nat) : Int := wrap64 ((wrap64 (a + (n : Int))) + (m : Int))
def beyW (V x : Int) : Bool := decide (V < wrap64 (x / 2))
def listOk (V : Int) (l : List Int) : Bool := !decide (1024 < (l.length : Int)) && !l.any (beyW V)
def latchOk (V : Int) (x : S41) : Bool := !decide (2 < x.f1) && !beyW V x.f0
def gatesOk : Int → List S68 → Bool
  | _, [] => true
  | o, g :: gs => !decide (IntKind.u32.wrap (o + 1) ≤ g.f0 / 2) && !decide (g.f0 < g.f1) && gatesOk (IntKind.u32.wrap (o + 1)) gs
def mayB (a : Int) (l1 : List S41) (l2 : List S68) (l3 l4 l5 : List Int) : Bool :=
  !decide (a < 0) && !decide (16384 < a) && !decide (16384 < varsW a l1.length l2.length) && listOk (varsW a l1.length l2.length) l3 && listOk (varsW a l1.length l2.length) l4 && listOk (varsW a l1.length l2.length) l5
    && l1.all (latchOk (varsW a l1.length l2.length)) && gatesOk (IntKind.u32.wrap (wrap64 (a + (l1.length : Int)))) l2
set_option maxHeartbeats 4000000 in
theorem may1 (a0 : Int) (A1 : Option Addr) (c1 : Nat) (l1 : List S41) (A2 : Option Addr) (c2 : Nat) (l2 : List S68) (A3 : Option Addr) (c3 : Nat) (l3 : List Int) (A4 : Option Addr) (c4 : Nat) (l4 : List Int) (A5 : Option Addr) (c5 : Nat) (l5 : List Int)
    (g : Nat) (x : Int) (w : World) (hr1 : Kd.C k41 w A1 l1.length l1) (hc1 : l1.length ≤ c1) (hr2 : Kd.C k68 w A2 l2.length l2) (hc2 : l2.length ≤ c2) (hr3 : Kd.C (Kd.int .u32) w A3 l3.length l3) (hc3 : l3.length ≤ c3) (hr4 : Kd.C (Kd.int .u32) w A4 l4.length l4) (hc4 : l4.length ≤ c4) (hr5 : Kd.C (Kd.int .u32) w A5 l5.length l5) (hc5 : l5.length ≤ c5)
    (hb : w.heap[g]? = some (.cells #[.int .i64 a0, .slice A1 l1.length c1, .slice A2 l2.length c2, .slice A3 l3.length c3, .slice A4 l4.length c4, .slice A5 l5.length c5] 26 (0, 0))) :
    Calls Try.prog 144 #[.int .u32 x, .pointer (some ⟨g, 0, none⟩)] w fun e w' => e = .returned (.bool (beyW (varsW a0 l1.length l2.length) x)) ∧ Below w.heap.size w w' := by
  have hu26 := Try.underlying26
  have hv := norm_vars.calls a0 A1 c1 l1 A2 c2 l2 A3 c3 l3 A4 c4 l4 A5 c5 l5 _ w hr1 hc1 hr2 hc2 hr3 hc3 hr4 hc4 hr5 hc5 rfl
  have HV := Aside0.mk hv
  clear hv hr1 hr2 hr3 hr4 hr5 hc1 hc2 hc3 hc4 hc5
  have z0 : w.cell? ⟨g, 0, none⟩ = some (.int .i64 a0) := (blk_cell hb 0).trans rfl
  have z1 : w.cell? ⟨g, 1, none⟩ = some (.slice A1 l1.length c1) := (blk_cell hb 1).trans rfl
  have z2 : w.cell? ⟨g, 2, none⟩ = some (.slice A2 l2.length c2) := (blk_cell hb 2).trans rfl
  have z3 : w.cell? ⟨g, 3, none⟩ = some (.slice A3 l3.length c3) := (blk_cell hb 3).trans rfl
  have z4 : w.cell? ⟨g, 4, none⟩ = some (.slice A4 l4.length c4) := (blk_cell hb 4).trans rfl
  have z5 : w.cell? ⟨g, 5, none⟩ = some (.slice A5 l5.length c5) := (blk_cell hb 5).trans rfl
  clear hb
  go_enter Try.func144, Try.ntmps144
  go_wp2_with (go_at_call 143; refine HV.out.mono ?_; rintro e w' ⟨rfl, hb'⟩)
  go_ret
  exact ⟨rfl, hb'⟩
def norm_May.f (a0_0 : Int) (l0_1 : List (S41)) (l0_2 : List (S68)) (l0_3 : List Int) (l0_4 : List Int) (l0_5 : List Int) : Option (Bool) := some (mayB a0_0 l0_1 l0_2 l0_3 l0_4 l0_5)
structure MayAt (a0 : Int) (A1 : Option Addr) (c1 : Nat) (l1 : List S41) (A2 : Option Addr) (c2 : Nat) (l2 : List S68) (A3 : Option Addr) (c3 : Nat) (l3 : List Int) (A4 : Option Addr) (c4 : Nat) (l4 : List Int) (A5 : Option Addr) (c5 : Nat) (l5 : List Int) (g : Nat) (w W : World) : Prop where
  below : Below w.heap.size w W
  blk : W.heap[g]? = some (.cells #[.int .i64 a0, .slice A1 l1.length c1, .slice A2 l2.length c2, .slice A3 l3.length c3, .slice A4 l4.length c4, .slice A5 l5.length c5] 26 (0, 0))
  h1 : Kd.C k41 W A1 l1.length l1
  h2 : Kd.C k68 W A2 l2.length l2
  h3 : Kd.C (Kd.int .u32) W A3 l3.length l3
  h4 : Kd.C (Kd.int .u32) W A4 l4.length l4
  h5 : Kd.C (Kd.int .u32) W A5 l5.length l5
theorem MayAt.step {a0 : Int} {A1 : Option Addr} {c1 : Nat} {l1 : List S41} {A2 : Option Addr} {c2 : Nat} {l2 : List S68} {A3 : Option Addr} {c3 : Nat} {l3 : List Int} {A4 : Option Addr} {c4 : Nat} {l4 : List Int} {A5 : Option Addr} {c5 : Nat} {l5 : List Int} {g : Nat} {w W W' : World}
    (h : MayAt a0 A1 c1 l1 A2 c2 l2 A3 c3 l3 A4 c4 l4 A5 c5 l5 g w W) (hb : Below W.heap.size W W') : MayAt a0 A1 c1 l1 A2 c2 l2 A3 c3 l3 A4 c4 l4 A5 c5 l5 g w W' :=
  ⟨below_step h.below hb, blk_below h.blk hb, Kd.C_below h.h1 hb, Kd.C_below h.h2 hb, Kd.C_below h.h3 hb, Kd.C_below h.h4 hb, Kd.C_below h.h5 hb⟩
theorem mayAny (a0 : Int) (A1 : Option Addr) (c1 : Nat) (l1 : List S41) (A2 : Option Addr) (c2 : Nat) (l2 : List S68) (A3 : Option Addr) (c3 : Nat) (l3 : List Int) (A4 : Option Addr) (c4 : Nat) (l4 : List Int) (A5 : Option Addr) (c5 : Nat) (l5 : List Int) (g : Nat) (w W : World) (h : MayAt a0 A1 c1 l1 A2 c2 l2 A3 c3 l3 A4 c4 l4 A5 c5 l5 g w W) (hc1 : l1.length ≤ c1) (hc2 : l2.length ≤ c2) (hc3 : l3.length ≤ c3) (hc4 : l4.length ≤ c4) (hc5 : l5.length ≤ c5)
    (A : Option Addr) (c : Nat) (l : List Int) (hl : Kd.C (Kd.int .u32) W A l.length l) :
    Calls Try.prog 139 #[.slice A l.length c, .func (.func 144) #[] #[.pointer (some ⟨g, 0, none⟩)]] W fun e w' => e = .returned (.bool (l.any (beyW (varsW a0 l1.length l2.length)))) ∧ Below W.heap.size W w' := by
  have e : l.any (beyW (varsW a0 l1.length l2.length)) = (List.range l.length).any (fun j => beyW (varsW a0 l1.length l2.length) (l.getD j 0)) := by
    rw [Bool.eq_iff_iff, List.any_eq_true, List.any_eq_true]
    constructor
    · rintro ⟨x, hx, hp⟩
      obtain ⟨j, hj, rfl⟩ := List.mem_iff_getElem.1 hx
      exact ⟨j, List.mem_range.2 hj, by simpa [List.getD_eq_getElem?_getD, List.getElem?_eq_getElem hj] using hp⟩
    · rintro ⟨j, hj, hp⟩
      have hj' := List.mem_range.1 hj
      exact ⟨l[j], List.getElem_mem hj', by simpa [List.getD_eq_getElem?_getD, List.getElem?_eq_getElem hj'] using hp⟩
  rw [e]
  refine contains177 144 #[.pointer (some ⟨g, 0, none⟩)] (enters_of Try.func144 (by kernel_rfl) rfl) (fun j => .int .u32 (l.getD j 0)) _ A l.length c W hl.2.1 (fun j hj => ?_) (fun j hj W' hb => ?_)
  · obtain ⟨ad, e, hx⟩ := Kd.at_int hl (j : Int) (by omega) (by omega)
    exact ⟨ad, e, by simpa [rd] using hx⟩
  · have h' := h.step hb
    exact may1 a0 A1 c1 l1 A2 c2 l2 A3 c3 l3 A4 c4 l4 A5 c5 l5 g _ W' h'.h1 hc1 h'.h2 hc2 h'.h3 hc3 h'.h4 hc4 h'.h5 hc5 h'.blk
set_option maxHeartbeats 8000000 in
set_option maxRecDepth 100000 in
theorem norm_May.calls (a0 : Int) (A1 : Option Addr) (c1 : Nat) (l1 : List S41) (A2 : Option Addr) (c2 : Nat) (l2 : List S68) (A3 : Option Addr) (c3 : Nat) (l3 : List Int) (A4 : Option Addr) (c4 : Nat) (l4 : List Int) (A5 : Option Addr) (c5 : Nat) (l5 : List Int)
    (r : Bool) (w : World) (hr1 : Kd.C k41 w A1 l1.length l1) (hc1 : l1.length ≤ c1) (hr2 : Kd.C k68 w A2 l2.length l2) (hc2 : l2.length ≤ c2) (hr3 : Kd.C (Kd.int .u32) w A3 l3.length l3) (hc3 : l3.length ≤ c3) (hr4 : Kd.C (Kd.int .u32) w A4 l4.length l4) (hc4 : l4.length ≤ c4) (hr5 : Kd.C (Kd.int .u32) w A5 l5.length l5) (hc5 : l5.length ≤ c5)
    (h : norm_May.f a0 l1 l2 l3 l4 l5 = some r) :
    Calls Try.prog 92 #[.agg #[.int .i64 a0, .slice A1 l1.length c1, .slice A2 l2.length c2, .slice A3 l3.length c3, .slice A4 l4.length c4, .slice A5 l5.length c5]] w fun e w' => e = .returned (.bool r) ∧ Below w.heap.size w w' := by
  obtain rfl := Option.some.inj h
  clear h
  have hu26 := Try.underlying26
  have hu41 := Try.underlying41
  have hu68 := Try.underlying68
  have HV := Aside0.mk (fun W (h : MayAt a0 A1 c1 l1 A2 c2 l2 A3 c3 l3 A4 c4 l4 A5 c5 l5 w.heap.size w W) => norm_vars.calls a0 A1 c1 l1 A2 c2 l2 A3 c3 l3 A4 c4 l4 A5 c5 l5 _ W h.h1 hc1 h.h2 hc2 h.h3 hc3 h.h4 hc4 h.h5 hc5 rfl)
  have HQ := Aside0.mk (fun W (h : MayAt a0 A1 c1 l1 A2 c2 l2 A3 c3 l3 A4 c4 l4 A5 c5 l5 w.heap.size w W) => mayAny a0 A1 c1 l1 A2 c2 l2 A3 c3 l3 A4 c4 l4 A5 c5 l5 w.heap.size w W h hc1 hc2 hc3 hc4 hc5)
  have H0 := Aside0.mk (fun W (hb : Below w.heap.size w W) (hk : W.heap[w.heap.size]? = some (.cells #[.int .i64 a0, .slice A1 l1.length c1, .slice A2 l2.length c2, .slice A3 l3.length c3, .slice A4 l4.length c4, .slice A5 l5.length c5] 26 (0, 0))) => (⟨hb, hk, Kd.C_below hr1 hb, Kd.C_below hr2 hb, Kd.C_below hr3 hb, Kd.C_below hr4 hb, Kd.C_below hr5 hb⟩ : MayAt a0 A1 c1 l1 A2 c2 l2 A3 c3 l3 A4 c4 l4 A5 c5 l5 w.heap.size w W))
  have HB1 := Aside0.mk (fun W (h : MayAt a0 A1 c1 l1 A2 c2 l2 A3 c3 l3 A4 c4 l4 A5 c5 l5 w.heap.size w W) x => may1 a0 A1 c1 l1 A2 c2 l2 A3 c3 l3 A4 c4 l4 A5 c5 l5 w.heap.size x W h.h1 hc1 h.h2 hc2 h.h3 hc3 h.h4 hc4 h.h5 hc5 h.blk)
  clear hr1 hr2 hr3 hr4 hr5
  by_cases d1 : a0 < 0
  · have R : Aside0 (mayB a0 l1 l2 l3 l4 l5 = false) := ⟨by simp [mayB, d1]⟩
    have d1b : decide (a0 < 0) = true := decide_eq_true d1
    go_enter Try.func92, Try.ntmps92
    go_wp2_with ((with_reducible refine gate_dst (N := 1) rfl ?_); (try (refine gate_guard (by rfl) ?_; dsimp only)); refine box_event ?hg (N := 1) ?hd (cs := #[.int .i64 a0, .slice A1 l1.length c1, .slice A2 l2.length c2, .slice A3 l3.length c3, .slice A4 l4.length c4, .slice A5 l5.length c5]) (t := 26) ?hr ?_; (case hd => rfl); (case hg => rfl); (case hr => first | (go_simp; done) | (go_simp; rfl)); intro g hg_ w1 BK HB; subst hg_; have z0 : w1.cell? ⟨w.heap.size, 0, none⟩ = some (.int .i64 a0) := (blk_cell BK 0).trans rfl; have z1 : w1.cell? ⟨w.heap.size, 1, none⟩ = some (.slice A1 l1.length c1) := (blk_cell BK 1).trans rfl; have z2 : w1.cell? ⟨w.heap.size, 2, none⟩ = some (.slice A2 l2.length c2) := (blk_cell BK 2).trans rfl; have z3 : w1.cell? ⟨w.heap.size, 3, none⟩ = some (.slice A3 l3.length c3) := (blk_cell BK 3).trans rfl; have z4 : w1.cell? ⟨w.heap.size, 4, none⟩ = some (.slice A4 l4.length c4) := (blk_cell BK 4).trans rfl; have z5 : w1.cell? ⟨w.heap.size, 5, none⟩ = some (.slice A5 l5.length c5) := (blk_cell BK 5).trans rfl)
    go_ret
    exact ⟨by rw [R.out]; rfl, HB⟩
  have d1b : decide (a0 < 0) = false := decide_eq_false d1
  by_cases d2 : 16384 < a0
  · have R : Aside0 (mayB a0 l1 l2 l3 l4 l5 = false) := ⟨by simp [mayB, d2]⟩
    have d2b : decide (16384 < a0) = true := decide_eq_true d2
    go_enter Try.func92, Try.ntmps92
    go_wp2_with ((with_reducible refine gate_dst (N := 1) rfl ?_); (try (refine gate_guard (by rfl) ?_; dsimp only)); refine box_event ?hg (N := 1) ?hd (cs := #[.int .i64 a0, .slice A1 l1.length c1, .slice A2 l2.length c2, .slice A3 l3.length c3, .slice A4 l4.length c4, .slice A5 l5.length c5]) (t := 26) ?hr ?_; (case hd => rfl); (case hg => rfl); (case hr => first | (go_simp; done) | (go_simp; rfl)); intro g hg_ w1 BK HB; subst hg_; have z0 : w1.cell? ⟨w.heap.size, 0, none⟩ = some (.int .i64 a0) := (blk_cell BK 0).trans rfl; have z1 : w1.cell? ⟨w.heap.size, 1, none⟩ = some (.slice A1 l1.length c1) := (blk_cell BK 1).trans rfl; have z2 : w1.cell? ⟨w.heap.size, 2, none⟩ = some (.slice A2 l2.length c2) := (blk_cell BK 2).trans rfl; have z3 : w1.cell? ⟨w.heap.size, 3, none⟩ = some (.slice A3 l3.length c3) := (blk_cell BK 3).trans rfl; have z4 : w1.cell? ⟨w.heap.size, 4, none⟩ = some (.slice A4 l4.length c4) := (blk_cell BK 4).trans rfl; have z5 : w1.cell? ⟨w.heap.size, 5, none⟩ = some (.slice A5 l5.length c5) := (blk_cell BK 5).trans rfl)
    go_ret
    exact ⟨by rw [R.out]; rfl, HB⟩
  have d2b : decide (16384 < a0) = false := decide_eq_false d2
  generalize hV : varsW a0 l1.length l2.length = V at HQ HB1
  have HVE := Aside0.mk hV
  clear hV
  have HV := Aside0.mk (fun W h => by have := HV.out W h; rw [show wrap64 ((wrap64 (a0 + (l1.length : Int))) + (l2.length : Int)) = V from HVE.out] at this; exact this)
  by_cases d3 : 16384 < V
  · have R : Aside0 (mayB a0 l1 l2 l3 l4 l5 = false) := ⟨by simp [mayB, HVE.out, d3]⟩
    have d3b : decide (16384 < V) = true := decide_eq_true d3
    go_enter Try.func92, Try.ntmps92
    go_wp2_with (first | ((with_reducible refine gate_dst (N := 1) rfl ?_); (try (refine gate_guard (by rfl) ?_; dsimp only)); refine box_event ?hg (N := 1) ?hd (cs := #[.int .i64 a0, .slice A1 l1.length c1, .slice A2 l2.length c2, .slice A3 l3.length c3, .slice A4 l4.length c4, .slice A5 l5.length c5]) (t := 26) ?hr ?_; (case hd => rfl); (case hg => rfl); (case hr => first | (go_simp; done) | (go_simp; rfl)); intro g hg_ w1 BK HB; subst hg_; have z0 : w1.cell? ⟨w.heap.size, 0, none⟩ = some (.int .i64 a0) := (blk_cell BK 0).trans rfl; have z1 : w1.cell? ⟨w.heap.size, 1, none⟩ = some (.slice A1 l1.length c1) := (blk_cell BK 1).trans rfl; have z2 : w1.cell? ⟨w.heap.size, 2, none⟩ = some (.slice A2 l2.length c2) := (blk_cell BK 2).trans rfl; have z3 : w1.cell? ⟨w.heap.size, 3, none⟩ = some (.slice A3 l3.length c3) := (blk_cell BK 3).trans rfl; have z4 : w1.cell? ⟨w.heap.size, 4, none⟩ = some (.slice A4 l4.length c4) := (blk_cell BK 4).trans rfl; have z5 : w1.cell? ⟨w.heap.size, 5, none⟩ = some (.slice A5 l5.length c5) := (blk_cell BK 5).trans rfl; have HM := Aside0.mk (H0.out _ HB BK)) | (go_at_call 143; refine (HV.out _ HM.out).mono ?_; rintro e w' ⟨rfl, hb'⟩))
    go_ret
    exact ⟨by rw [R.out]; rfl, below_step HM.out.below hb'⟩
  have d3b : decide (16384 < V) = false := decide_eq_false d3
  go_enter Try.func92, Try.ntmps92
  go_wp2_with (first | ((with_reducible refine gate_dst (N := 1) rfl ?_); (try (refine gate_guard (by rfl) ?_; dsimp only)); refine box_event ?hg (N := 1) ?hd (cs := #[.int .i64 a0, .slice A1 l1.length c1, .slice A2 l2.length c2, .slice A3 l3.length c3, .slice A4 l4.length c4, .slice A5 l5.length c5]) (t := 26) ?hr ?_; (case hd => rfl); (case hg => rfl); (case hr => first | (go_simp; done) | (go_simp; rfl)); intro g hg_ w1 BK HB; subst hg_; have z0 : w1.cell? ⟨w.heap.size, 0, none⟩ = some (.int .i64 a0) := (blk_cell BK 0).trans rfl; have z1 : w1.cell? ⟨w.heap.size, 1, none⟩ = some (.slice A1 l1.length c1) := (blk_cell BK 1).trans rfl; have z2 : w1.cell? ⟨w.heap.size, 2, none⟩ = some (.slice A2 l2.length c2) := (blk_cell BK 2).trans rfl; have z3 : w1.cell? ⟨w.heap.size, 3, none⟩ = some (.slice A3 l3.length c3) := (blk_cell BK 3).trans rfl; have z4 : w1.cell? ⟨w.heap.size, 4, none⟩ = some (.slice A4 l4.length c4) := (blk_cell BK 4).trans rfl; have z5 : w1.cell? ⟨w.heap.size, 5, none⟩ = some (.slice A5 l5.length c5) := (blk_cell BK 5).trans rfl; have HM := Aside0.mk (H0.out _ HB BK)) | (go_at_call 143; refine (HV.out _ HM.out).mono ?_; rintro e w' ⟨rfl, hb'⟩; have HM2 := Aside0.mk (HM.out.step hb'); clear HB BK HM z0 z1 z2 z3 z4 z5 hb'; have z0 : w'.cell? ⟨w.heap.size, 0, none⟩ = some (.int .i64 a0) := (blk_cell HM2.out.blk 0).trans rfl; have z1 : w'.cell? ⟨w.heap.size, 1, none⟩ = some (.slice A1 l1.length c1) := (blk_cell HM2.out.blk 1).trans rfl; have z2 : w'.cell? ⟨w.heap.size, 2, none⟩ = some (.slice A2 l2.length c2) := (blk_cell HM2.out.blk 2).trans rfl; have z3 : w'.cell? ⟨w.heap.size, 3, none⟩ = some (.slice A3 l3.length c3) := (blk_cell HM2.out.blk 3).trans rfl; have z4 : w'.cell? ⟨w.heap.size, 4, none⟩ = some (.slice A4 l4.length c4) := (blk_cell HM2.out.blk 4).trans rfl; have z5 : w'.cell? ⟨w.heap.size, 5, none⟩ = some (.slice A5 l5.length c5) := (blk_cell HM2.out.blk 5).trans rfl))
  have MB : Aside0 (mayB a0 l1 l2 l3 l4 l5 = ([l3, l4, l5].all (listOk V) && (l1.all (latchOk V) && gatesOk (IntKind.u32.wrap (wrap64 (a0 + (l1.length : Int)))) l2))) := ⟨by simp [mayB, HVE.out, d1b, d2b, d3b, Bool.and_assoc]⟩
  go_loopg [33] 3 (fun gg v33 wr => ∃ k : Nat, k ≤ 3 ∧ 3 - k ≤ gg ∧ v33 = .int .i64 k ∧ Aside0 (MayAt a0 A1 c1 l1 A2 c2 l2 A3 c3 l3 A4 c4 l4 A5 c5 l5 w.heap.size w wr) ∧ Aside0 (wr.heap[w'.heap.size]? = some (.cells #[.slice A3 l3.length c3, .slice A4 l4.length c4, .slice A5 l5.length c5] 24 (0, 0)))
    ∧ Aside0 (mayB a0 l1 l2 l3 l4 l5 = (([l3, l4, l5].drop k).all (listOk V) && (l1.all (latchOk V) && gatesOk (IntKind.u32.wrap (wrap64 (a0 + (l1.length : Int)))) l2))))
  case atStart => exact ⟨0, by omega, by omega, rfl, ⟨HM2.out.step (below_alloc (Below.refl _ _) _)⟩, ⟨blk_new _ _⟩, MB⟩
  case round =>
    clear z0 z1 z2 z3 z4 z5 MB
    obtain ⟨k, hk, hg, rfl, HM, BS, MB⟩ := hrel
    have s0 : wr.cell? ⟨w'.heap.size, 0, none⟩ = some (.slice A3 l3.length c3) := (blk_cell BS.out 0).trans rfl
    have s1 : wr.cell? ⟨w'.heap.size, 1, none⟩ = some (.slice A4 l4.length c4) := (blk_cell BS.out 1).trans rfl
    have s2 : wr.cell? ⟨w'.heap.size, 2, none⟩ = some (.slice A5 l5.length c5) := (blk_cell BS.out 2).trans rfl
    match k, hk with
    | 0, _ =>
      by_cases e1 : 1024 < (l3.length : Int)
      · have R : Aside0 (mayB a0 l1 l2 l3 l4 l5 = false) := ⟨MB.out.trans (by simp [listOk, e1])⟩
        have e1b : decide (1024 < (l3.length : Int)) = true := decide_eq_true e1
        have e1c : decide (1024 < l3.length) = true := decide_eq_true (by omega)
        clear e1
        go_wp2
        go_ret
        exact ⟨by rw [R.out]; rfl, HM.out.below⟩
      · have e1b : decide (1024 < (l3.length : Int)) = false := decide_eq_false e1
        have e1c : decide (1024 < l3.length) = false := decide_eq_false (by omega)
        clear e1
        have hcall := HQ.out wr HM.out A3 c3 l3 HM.out.h3
        cases hq : l3.any (beyW V) with
        | true =>
          have R : Aside0 (mayB a0 l1 l2 l3 l4 l5 = false) := ⟨MB.out.trans (by simp [listOk, hq])⟩
          rw [hq] at hcall
          clear hq
          have hcall := Aside0.mk hcall
          go_wp2_with (go_at_call 139; refine hcall.out.mono ?_; rintro e w3 ⟨rfl, hb'⟩)
          go_ret
          exact ⟨by rw [R.out]; rfl, below_step HM.out.below hb'⟩
        | false =>
          have R : Aside0 (mayB a0 l1 l2 l3 l4 l5 = (([l3, l4, l5].drop 1).all (listOk V) && (l1.all (latchOk V) && gatesOk (IntKind.u32.wrap (wrap64 (a0 + (l1.length : Int)))) l2))) := ⟨MB.out.trans (by simp [listOk, hq, e1b, e1c]; try omega)⟩
          rw [hq] at hcall
          clear hq
          have hcall := Aside0.mk hcall
          go_wp2_with (go_at_call 139; refine hcall.out.mono ?_; rintro e w3 ⟨rfl, hb'⟩)
          go_roundg (2 - 0)
          case measure => omega
          case rel => exact ⟨1, by omega, by omega, by go_num, ⟨HM.out.step hb'⟩, ⟨blk_below BS.out hb'⟩, R⟩
    | 1, _ =>
      by_cases e1 : 1024 < (l4.length : Int)
      · have R : Aside0 (mayB a0 l1 l2 l3 l4 l5 = false) := ⟨MB.out.trans (by simp [listOk, e1])⟩
        have e1b : decide (1024 < (l4.length : Int)) = true := decide_eq_true e1
        have e1c : decide (1024 < l4.length) = true := decide_eq_true (by omega)
        clear e1
        go_wp2
        go_ret
        exact ⟨by rw [R.out]; rfl, HM.out.below⟩
      · have e1b : decide (1024 < (l4.length : Int)) = false := decide_eq_false e1
        have e1c : decide (1024 < l4.length) = false := decide_eq_false (by omega)
        clear e1
        have hcall := HQ.out wr HM.out A4 c4 l4 HM.out.h4
        cases hq : l4.any (beyW V) with
        | true =>
          have R : Aside0 (mayB a0 l1 l2 l3 l4 l5 = false) := ⟨MB.out.trans (by simp [listOk, hq])⟩
          rw [hq] at hcall
          clear hq
          have hcall := Aside0.mk hcall
          go_wp2_with (go_at_call 139; refine hcall.out.mono ?_; rintro e w3 ⟨rfl, hb'⟩)
          go_ret
          exact ⟨by rw [R.out]; rfl, below_step HM.out.below hb'⟩
        | false =>
          have R : Aside0 (mayB a0 l1 l2 l3 l4 l5 = (([l3, l4, l5].drop 2).all (listOk V) && (l1.all (latchOk V) && gatesOk (IntKind.u32.wrap (wrap64 (a0 + (l1.length : Int)))) l2))) := ⟨MB.out.trans (by simp [listOk, hq, e1b, e1c]; try omega)⟩
          rw [hq] at hcall
          clear hq
          have hcall := Aside0.mk hcall
          go_wp2_with (go_at_call 139; refine hcall.out.mono ?_; rintro e w3 ⟨rfl, hb'⟩)
          go_roundg (2 - 1)
          case measure => omega
          case rel => exact ⟨2, by omega, by omega, by go_num, ⟨HM.out.step hb'⟩, ⟨blk_below BS.out hb'⟩, R⟩
    | 2, _ =>
      by_cases e1 : 1024 < (l5.length : Int)
      · have R : Aside0 (mayB a0 l1 l2 l3 l4 l5 = false) := ⟨MB.out.trans (by simp [listOk, e1])⟩
        have e1b : decide (1024 < (l5.length : Int)) = true := decide_eq_true e1
        have e1c : decide (1024 < l5.length) = true := decide_eq_true (by omega)
        clear e1
        go_wp2
        go_ret
        exact ⟨by rw [R.out]; rfl, HM.out.below⟩
      · have e1b : decide (1024 < (l5.length : Int)) = false := decide_eq_false e1
        have e1c : decide (1024 < l5.length) = false := decide_eq_false (by omega)
        clear e1
        have hcall := HQ.out wr HM.out A5 c5 l5 HM.out.h5
        cases hq : l5.any (beyW V) with
        | true =>
          have R : Aside0 (mayB a0 l1 l2 l3 l4 l5 = false) := ⟨MB.out.trans (by simp [listOk, hq])⟩
          rw [hq] at hcall
          clear hq
          have hcall := Aside0.mk hcall
          go_wp2_with (go_at_call 139; refine hcall.out.mono ?_; rintro e w3 ⟨rfl, hb'⟩)
          go_ret
          exact ⟨by rw [R.out]; rfl, below_step HM.out.below hb'⟩
        | false =>
          have R : Aside0 (mayB a0 l1 l2 l3 l4 l5 = (([l3, l4, l5].drop 3).all (listOk V) && (l1.all (latchOk V) && gatesOk (IntKind.u32.wrap (wrap64 (a0 + (l1.length : Int)))) l2))) := ⟨MB.out.trans (by simp [listOk, hq, e1b, e1c]; try omega)⟩
          rw [hq] at hcall
          clear hq
          have hcall := Aside0.mk hcall
          go_wp2_with (go_at_call 139; refine hcall.out.mono ?_; rintro e w3 ⟨rfl, hb'⟩)
          go_roundg (2 - 2)
          case measure => omega
          case rel => exact ⟨3, by omega, by omega, by go_num, ⟨HM.out.step hb'⟩, ⟨blk_below BS.out hb'⟩, R⟩
    | 3, _ =>
      clear s0 s1 s2
      have z0 : wr.cell? ⟨w.heap.size, 0, none⟩ = some (.int .i64 a0) := (blk_cell HM.out.blk 0).trans rfl
      have z1 : wr.cell? ⟨w.heap.size, 1, none⟩ = some (.slice A1 l1.length c1) := (blk_cell HM.out.blk 1).trans rfl
      have z2 : wr.cell? ⟨w.heap.size, 2, none⟩ = some (.slice A2 l2.length c2) := (blk_cell HM.out.blk 2).trans rfl
      have z3 : wr.cell? ⟨w.heap.size, 3, none⟩ = some (.slice A3 l3.length c3) := (blk_cell HM.out.blk 3).trans rfl
      have z4 : wr.cell? ⟨w.heap.size, 4, none⟩ = some (.slice A4 l4.length c4) := (blk_cell HM.out.blk 4).trans rfl
      have z5 : wr.cell? ⟨w.heap.size, 5, none⟩ = some (.slice A5 l5.length c5) := (blk_cell HM.out.blk 5).trans rfl
      have MB := Aside0.mk (MB.out.trans (by simp : _ = (l1.all (latchOk V) && gatesOk (IntKind.u32.wrap (wrap64 (a0 + (l1.length : Int)))) l2)))
      have n1 := HM.out.h1.2.1
      have n2 := HM.out.h2.2.1
      go_wp2
      go_loopg [49] l1.length (fun gg v49 wq => ∃ k : Nat, k ≤ l1.length ∧ l1.length - k ≤ gg ∧ v49 = .int .i64 k ∧ Aside0 (MayAt a0 A1 c1 l1 A2 c2 l2 A3 c3 l3 A4 c4 l4 A5 c5 l5 w.heap.size w wq)
        ∧ Aside0 (mayB a0 l1 l2 l3 l4 l5 = ((l1.drop k).all (latchOk V) && gatesOk (IntKind.u32.wrap (wrap64 (a0 + (l1.length : Int)))) l2)))
      case atStart => exact ⟨0, by omega, by omega, rfl, HM, MB⟩
      case round =>
        clear z0 z1 z2 z3 z4 z5 MB HM BS
        obtain ⟨k, hk, hg, rfl, HM, MB⟩ := hrel
        by_cases hlt : k < l1.length
        · have hltz : (k : Int) < (l1.length : Int) := by omega
          obtain ⟨ad, e, x0, x1⟩ := at_T41 HM.out.h1 (k : Int) (by omega) hltz
          cases e
          have ek : (k : Int).toNat = k := by omega
          rw [ek] at x0 x1
          clear ek
          have E : Aside0 ((l1.drop k).all (latchOk V) = (latchOk V (rd_T41 l1 k) && (l1.drop (k + 1)).all (latchOk V))) := ⟨by rw [List.drop_eq_getElem_cons hlt, List.all_cons]; simp [rd_T41, List.getD_eq_getElem?_getD, List.getElem?_eq_getElem hlt]⟩
          generalize rd_T41 l1 (k : Int) = y at x0 x1 E
          by_cases e1 : 2 < y.f1
          · have R : Aside0 (mayB a0 l1 l2 l3 l4 l5 = false) := ⟨MB.out.trans (by rw [E.out]; simp [latchOk, e1])⟩
            have e1b : decide (2 < y.f1) = true := decide_eq_true e1
            clear e1
            go_wp2_with ((with_reducible refine gate_dst (N := 7) rfl ?_); (try (refine gate_guard (by rfl) ?_; dsimp only)); refine box_event ?hg (N := 7) ?hd (cs := #[.int .u32 0, .int .u8 0]) (t := 41) ?hr ?_; (case hd => rfl); (case hg => rfl); (case hr => first | (go_simp; done) | (go_simp; rfl)); intro g7 hg_ w7 bk7 hb7; have ge7 := Aside0.mk (Nat.le_of_eq hg_.symm); clear hg_; have y0 : w7.cell? ⟨g7, 0, none⟩ = some (.int .u32 0) := (blk_cell bk7 0).trans rfl; have y1 : w7.cell? ⟨g7, 1, none⟩ = some (.int .u8 0) := (blk_cell bk7 1).trans rfl; have f7_0 := blk_frozen bk7 0; have f7_1 := blk_frozen bk7 1)
            go_ret
            exact ⟨by rw [R.out]; rfl, below_step HM.out.below ((hb7.setCell (p := ⟨g7, 0, none⟩) ge7.out _).setCell (p := ⟨g7, 1, none⟩) ge7.out _)⟩
          · have e1b : decide (2 < y.f1) = false := decide_eq_false e1
            clear e1
            have hcall := Aside0.mk (fun W hb => HB1.out W hb y.f0)
            cases hq : beyW V y.f0 with
            | true =>
              have R : Aside0 (mayB a0 l1 l2 l3 l4 l5 = false) := ⟨MB.out.trans (by rw [E.out]; simp [latchOk, hq])⟩
              rw [hq] at hcall
              clear hq
              go_wp2_with (first | ((with_reducible refine gate_dst (N := 7) rfl ?_); (try (refine gate_guard (by rfl) ?_; dsimp only)); refine box_event ?hg (N := 7) ?hd (cs := #[.int .u32 0, .int .u8 0]) (t := 41) ?hr ?_; (case hd => rfl); (case hg => rfl); (case hr => first | (go_simp; done) | (go_simp; rfl)); intro g7 hg_ w7 bk7 hb7; have ge7 := Aside0.mk (Nat.le_of_eq hg_.symm); clear hg_; have y0 : w7.cell? ⟨g7, 0, none⟩ = some (.int .u32 0) := (blk_cell bk7 0).trans rfl; have y1 : w7.cell? ⟨g7, 1, none⟩ = some (.int .u8 0) := (blk_cell bk7 1).trans rfl; have f7_0 := blk_frozen bk7 0; have f7_1 := blk_frozen bk7 1) | (go_at_call 144; refine (hcall.out _ (HM.out.step ((hb7.setCell (p := ⟨g7, 0, none⟩) ge7.out _).setCell (p := ⟨g7, 1, none⟩) ge7.out _))).mono ?_; rintro e w8 ⟨rfl, hb8⟩))
              go_ret
              exact ⟨by rw [R.out]; rfl, below_step HM.out.below (below_step ((hb7.setCell (p := ⟨g7, 0, none⟩) ge7.out _).setCell (p := ⟨g7, 1, none⟩) ge7.out _) hb8)⟩
            | false =>
              have R : Aside0 (mayB a0 l1 l2 l3 l4 l5 = ((l1.drop (k + 1)).all (latchOk V) && gatesOk (IntKind.u32.wrap (wrap64 (a0 + (l1.length : Int)))) l2)) := ⟨MB.out.trans (by rw [E.out]; simp [latchOk, hq, e1b]; try omega)⟩
              rw [hq] at hcall
              clear hq
              go_wp2_with (first | ((with_reducible refine gate_dst (N := 7) rfl ?_); (try (refine gate_guard (by rfl) ?_; dsimp only)); refine box_event ?hg (N := 7) ?hd (cs := #[.int .u32 0, .int .u8 0]) (t := 41) ?hr ?_; (case hd => rfl); (case hg => rfl); (case hr => first | (go_simp; done) | (go_simp; rfl)); intro g7 hg_ w7 bk7 hb7; have ge7 := Aside0.mk (Nat.le_of_eq hg_.symm); clear hg_; have y0 : w7.cell? ⟨g7, 0, none⟩ = some (.int .u32 0) := (blk_cell bk7 0).trans rfl; have y1 : w7.cell? ⟨g7, 1, none⟩ = some (.int .u8 0) := (blk_cell bk7 1).trans rfl; have f7_0 := blk_frozen bk7 0; have f7_1 := blk_frozen bk7 1) | (go_at_call 144; refine (hcall.out _ (HM.out.step ((hb7.setCell (p := ⟨g7, 0, none⟩) ge7.out _).setCell (p := ⟨g7, 1, none⟩) ge7.out _))).mono ?_; rintro e w8 ⟨rfl, hb8⟩))
              go_roundg (l1.length - (k + 1))
              case measure => omega
              case rel => exact ⟨k + 1, by omega, by omega, by go_num, ⟨HM.out.step (below_step ((hb7.setCell (p := ⟨g7, 0, none⟩) ge7.out _).setCell (p := ⟨g7, 1, none⟩) ge7.out _) hb8)⟩, R⟩
        · have hltz : ¬ (k : Int) < (l1.length : Int) := by omega
          have MB : Aside0 (mayB a0 l1 l2 l3 l4 l5 = gatesOk (IntKind.u32.wrap (wrap64 (a0 + (l1.length : Int)))) l2) := ⟨MB.out.trans (by rw [List.drop_eq_nil_of_le (by omega)]; simp)⟩
          have z0 : wr.cell? ⟨w.heap.size, 0, none⟩ = some (.int .i64 a0) := (blk_cell HM.out.blk 0).trans rfl
          have z1 : wr.cell? ⟨w.heap.size, 1, none⟩ = some (.slice A1 l1.length c1) := (blk_cell HM.out.blk 1).trans rfl
          have z2 : wr.cell? ⟨w.heap.size, 2, none⟩ = some (.slice A2 l2.length c2) := (blk_cell HM.out.blk 2).trans rfl
          have z3 : wr.cell? ⟨w.heap.size, 3, none⟩ = some (.slice A3 l3.length c3) := (blk_cell HM.out.blk 3).trans rfl
          have z4 : wr.cell? ⟨w.heap.size, 4, none⟩ = some (.slice A4 l4.length c4) := (blk_cell HM.out.blk 4).trans rfl
          have z5 : wr.cell? ⟨w.heap.size, 5, none⟩ = some (.slice A5 l5.length c5) := (blk_cell HM.out.blk 5).trans rfl
          go_wp2
          go_loopg [8, 73] l2.length (fun gg v8 v73 wp => ∃ (k : Nat) (o : Int), k ≤ l2.length ∧ l2.length - k ≤ gg ∧ v8 = .int .u32 o ∧ v73 = .int .i64 k ∧ Aside0 (MayAt a0 A1 c1 l1 A2 c2 l2 A3 c3 l3 A4 c4 l4 A5 c5 l5 w.heap.size w wp)
            ∧ Aside0 (mayB a0 l1 l2 l3 l4 l5 = gatesOk o (l2.drop k)))
          case atStart => exact ⟨0, _, by omega, by omega, rfl, rfl, HM, MB⟩
          case round =>
            clear z0 z1 z2 z3 z4 z5 MB HM hltz hk hg
            obtain ⟨k, o, hk, hg, rfl, rfl, HM, MB⟩ := hrel
            by_cases hlt : k < l2.length
            · have hltz : (k : Int) < (l2.length : Int) := by omega
              obtain ⟨ad, e, x0, x1⟩ := at_T68 HM.out.h2 (k : Int) (by omega) hltz
              cases e
              have ek : (k : Int).toNat = k := by omega
              rw [ek] at x0 x1
              clear ek
              have E : Aside0 (gatesOk o (l2.drop k) = (!decide (IntKind.u32.wrap (o + 1) ≤ (rd_T68 l2 k).f0 / 2) && !decide ((rd_T68 l2 k).f0 < (rd_T68 l2 k).f1) && gatesOk (IntKind.u32.wrap (o + 1)) (l2.drop (k + 1)))) := ⟨by rw [List.drop_eq_getElem_cons hlt, gatesOk]; simp [rd_T68, List.getD_eq_getElem?_getD, List.getElem?_eq_getElem hlt]⟩
              generalize rd_T68 l2 (k : Int) = y at x0 x1 E
              generalize ho : IntKind.u32.wrap (o + 1) = o1 at E
              by_cases e1 : o1 ≤ y.f0 / 2
              · have R : Aside0 (mayB a0 l1 l2 l3 l4 l5 = false) := ⟨MB.out.trans (by rw [E.out]; simp [e1])⟩
                have e1b : decide (o1 ≤ y.f0 / 2) = true := decide_eq_true e1
                clear e1
                go_wp2_with ((with_reducible refine gate_dst (N := 10) rfl ?_); (try (refine gate_guard (by rfl) ?_; dsimp only)); refine box_event ?hg (N := 10) ?hd (cs := #[.int .u32 0, .int .u32 0]) (t := 68) ?hr ?_; (case hd => rfl); (case hg => rfl); (case hr => first | (go_simp; done) | (go_simp; rfl)); intro g7 hg_ w7 bk7 hb7; have ge7 := Aside0.mk (Nat.le_of_eq hg_.symm); clear hg_; have y0 : w7.cell? ⟨g7, 0, none⟩ = some (.int .u32 0) := (blk_cell bk7 0).trans rfl; have y1 : w7.cell? ⟨g7, 1, none⟩ = some (.int .u32 0) := (blk_cell bk7 1).trans rfl; have f7_0 := blk_frozen bk7 0; have f7_1 := blk_frozen bk7 1)
                go_ret
                exact ⟨by rw [R.out]; rfl, below_step HM.out.below ((hb7.setCell (p := ⟨g7, 0, none⟩) ge7.out _).setCell (p := ⟨g7, 1, none⟩) ge7.out _)⟩
              · have e1b : decide (o1 ≤ y.f0 / 2) = false := decide_eq_false e1
                clear e1
                by_cases e2 : y.f0 < y.f1
                · have R : Aside0 (mayB a0 l1 l2 l3 l4 l5 = false) := ⟨MB.out.trans (by rw [E.out]; simp [e2])⟩
                  have e2b : decide (y.f0 < y.f1) = true := decide_eq_true e2
                  clear e2
                  go_wp2_with ((with_reducible refine gate_dst (N := 10) rfl ?_); (try (refine gate_guard (by rfl) ?_; dsimp only)); refine box_event ?hg (N := 10) ?hd (cs := #[.int .u32 0, .int .u32 0]) (t := 68) ?hr ?_; (case hd => rfl); (case hg => rfl); (case hr => first | (go_simp; done) | (go_simp; rfl)); intro g7 hg_ w7 bk7 hb7; have ge7 := Aside0.mk (Nat.le_of_eq hg_.symm); clear hg_; have y0 : w7.cell? ⟨g7, 0, none⟩ = some (.int .u32 0) := (blk_cell bk7 0).trans rfl; have y1 : w7.cell? ⟨g7, 1, none⟩ = some (.int .u32 0) := (blk_cell bk7 1).trans rfl; have f7_0 := blk_frozen bk7 0; have f7_1 := blk_frozen bk7 1)
                  go_ret
                  exact ⟨by rw [R.out]; rfl, below_step HM.out.below ((hb7.setCell (p := ⟨g7, 0, none⟩) ge7.out _).setCell (p := ⟨g7, 1, none⟩) ge7.out _)⟩
                · have e2b : decide (y.f0 < y.f1) = false := decide_eq_false e2
                  have R : Aside0 (mayB a0 l1 l2 l3 l4 l5 = gatesOk o1 (l2.drop (k + 1))) := ⟨MB.out.trans (by rw [E.out, e1b, e2b]; simp)⟩
                  clear e2
                  go_wp2_with ((with_reducible refine gate_dst (N := 10) rfl ?_); (try (refine gate_guard (by rfl) ?_; dsimp only)); refine box_event ?hg (N := 10) ?hd (cs := #[.int .u32 0, .int .u32 0]) (t := 68) ?hr ?_; (case hd => rfl); (case hg => rfl); (case hr => first | (go_simp; done) | (go_simp; rfl)); intro g7 hg_ w7 bk7 hb7; have ge7 := Aside0.mk (Nat.le_of_eq hg_.symm); clear hg_; have y0 : w7.cell? ⟨g7, 0, none⟩ = some (.int .u32 0) := (blk_cell bk7 0).trans rfl; have y1 : w7.cell? ⟨g7, 1, none⟩ = some (.int .u32 0) := (blk_cell bk7 1).trans rfl; have f7_0 := blk_frozen bk7 0; have f7_1 := blk_frozen bk7 1)
                  go_roundg (l2.length - (k + 1))
                  case measure => omega
                  case rel => exact ⟨k + 1, o1, by omega, by omega, rfl, by go_num, ⟨HM.out.step ((hb7.setCell (p := ⟨g7, 0, none⟩) ge7.out _).setCell (p := ⟨g7, 1, none⟩) ge7.out _)⟩, R⟩
            · have hltz : ¬ (k : Int) < (l2.length : Int) := by omega
              have R : Aside0 (mayB a0 l1 l2 l3 l4 l5 = true) := ⟨MB.out.trans (by rw [List.drop_eq_nil_of_le (by omega)]; rfl)⟩
              go_wp2
              go_ret
              exact ⟨by rw [R.out]; rfl, HM.out.below⟩
end Go.Proofs.Yteiiodlgdbiimaa.F
end
section
namespace Go.Proofs.Yteiiodlgdbiimaa.F
open Go.RowKit Go.Proofs.YteiiodlgdbiimaaW.PrintWords Go.Proofs.YteiiodlgdbiimaaW.PrintLast Go.Proofs.YteiiodlgdbiimaaW.PrintMore
attribute [local go_sem] max2_int min2_int max_two min_two max_three min_three max_four min_four
set_option linter.unusedVariables false
set_option linter.unusedSimpArgs false
def norm_Vars.f (a0_0 : Int) (l0_1 : List (S41)) (l0_2 : List (S68)) (l0_3 : List Int) (l0_4 : List Int) (l0_5 : List Int) : Option (Int) := (norm_May.f a0_0 l0_1 l0_2 l0_3 l0_4 l0_5).bind fun t105 => (if t105 = true then ((norm_vars.f a0_0 l0_1 l0_2 l0_3 l0_4 l0_5).bind fun t106 => (some t106)) else (some 0))
set_option maxHeartbeats 8000000 in
set_option maxRecDepth 100000 in
theorem norm_Vars.calls (a0_0 : Int) (A0_1 : Option Addr) (c0_1 : Nat) (l0_1 : List (S41)) (A0_2 : Option Addr) (c0_2 : Nat) (l0_2 : List (S68)) (A0_3 : Option Addr) (c0_3 : Nat) (l0_3 : List Int) (A0_4 : Option Addr) (c0_4 : Nat) (l0_4 : List Int) (A0_5 : Option Addr) (c0_5 : Nat) (l0_5 : List Int) (r : Int) (w : World) (hr0_1 : Kd.C k41 w A0_1 l0_1.length l0_1) (hc0_1 : l0_1.length ≤ c0_1) (hr0_2 : Kd.C k68 w A0_2 l0_2.length l0_2) (hc0_2 : l0_2.length ≤ c0_2) (hr0_3 : Kd.C (Kd.int .u32) w A0_3 l0_3.length l0_3) (hc0_3 : l0_3.length ≤ c0_3) (hr0_4 : Kd.C (Kd.int .u32) w A0_4 l0_4.length l0_4) (hc0_4 : l0_4.length ≤ c0_4) (hr0_5 : Kd.C (Kd.int .u32) w A0_5 l0_5.length l0_5) (hc0_5 : l0_5.length ≤ c0_5) (h : norm_Vars.f a0_0 l0_1 l0_2 l0_3 l0_4 l0_5 = some r) :
    Calls Try.prog 101 #[.agg #[.int .i64 a0_0, .slice A0_1 l0_1.length c0_1, .slice A0_2 l0_2.length c0_2, .slice A0_3 l0_3.length c0_3, .slice A0_4 l0_4.length c0_4, .slice A0_5 l0_5.length c0_5]] w fun e w' => e = .returned (.int .i64 r) ∧ Below w.heap.size w w' := by
  have hu26 := Try.underlying26
  have HR0_1 := Aside0.mk hr0_1
  have HC0_1 := Aside0.mk hc0_1
  clear hr0_1 hc0_1
  have HR0_2 := Aside0.mk hr0_2
  have HC0_2 := Aside0.mk hc0_2
  clear hr0_2 hc0_2
  have HR0_3 := Aside0.mk hr0_3
  have HC0_3 := Aside0.mk hc0_3
  clear hr0_3 hc0_3
  have HR0_4 := Aside0.mk hr0_4
  have HC0_4 := Aside0.mk hc0_4
  clear hr0_4 hc0_4
  have HR0_5 := Aside0.mk hr0_5
  have HC0_5 := Aside0.mk hc0_5
  clear hr0_5 hc0_5
  have HB := Aside0.mk (Below.refl w.heap.size w)
  have H : ((norm_May.f a0_0 l0_1 l0_2 l0_3 l0_4 l0_5).bind fun t105 => (if t105 = true then ((norm_vars.f a0_0 l0_1 l0_2 l0_3 l0_4 l0_5).bind fun t106 => (some t106)) else (some 0))) = some r := h
  clear h
  replace H := Option.bind_eq_some_iff.mp H
  obtain ⟨t105, A20, H⟩ := H
  replace H : (if t105 = true then ((norm_vars.f a0_0 l0_1 l0_2 l0_3 l0_4 l0_5).bind fun t106 => (some t106)) else (some 0)) = some r := H
  have A2 := Aside0.mk A20
  clear A20
  by_cases c3 : t105 = true
  · subst c3
    have H1 : ((norm_vars.f a0_0 l0_1 l0_2 l0_3 l0_4 l0_5).bind fun t106 => (some t106)) = some r := by rw [if_pos rfl] at H; exact H
    clear H
    have H := H1
    clear H1
    replace H := Option.bind_eq_some_iff.mp H
    obtain ⟨t106, A40, H⟩ := H
    replace H : (some t106) = some r := H
    have A4 := Aside0.mk A40
    clear A40
    obtain rfl := Option.some.inj H
    go_enter Try.func101, Try.ntmps101
    go_wp2_with (first | ((with_reducible refine gate_dst (N := 1) rfl ?_); refine box_event ?hg (N := 1) ?hd (cs := #[.int .i64 a0_0, .slice A0_1 l0_1.length c0_1, .slice A0_2 l0_2.length c0_2, .slice A0_3 l0_3.length c0_3, .slice A0_4 l0_4.length c0_4, .slice A0_5 l0_5.length c0_5]) (t := 26) ?hr ?_; (case hd => rfl); (case hg => rfl); (case hr => first | (go_simp; done) | (go_simp; rfl)); intro gb104 hg w5 hbox hb; have n0_ := Aside0.mk (below_step (by repeat (first | (with_reducible first | exact HB.out | apply below_alloc | apply pw_below_drewN | apply below_drew1) | exact HB.out)) hb); have n1_ := Aside0.mk (hbox); have n2_ := Aside0.mk ((by rw [hg]; exact (below_size (by repeat (first | (with_reducible first | exact HB.out | apply below_alloc | apply pw_below_drewN | apply below_drew1) | exact HB.out))) : w.heap.size ≤ gb104)); have n3_ := Aside0.mk ((by rw [hg]; exact (below_size (by repeat (first | (with_reducible first | exact HB.out | apply below_alloc | apply pw_below_drewN | apply below_drew1) | exact HB.out))) : w.heap.size ≤ gb104)); clear HB; have HB := n0_; have BK104 := n1_; have GW104 := n2_; have GE104 := n3_; clear n0_ n1_ n2_ n3_; clear hb hbox hg; have hcz6_0 : w5.cell? ⟨gb104, 0, none⟩ = some (.int .i64 a0_0) := (blk_cell BK104.out 0).trans rfl; have hcz6_1 : w5.cell? ⟨gb104, 1, none⟩ = some (.slice A0_1 l0_1.length c0_1) := (blk_cell BK104.out 1).trans rfl; have hcz6_2 : w5.cell? ⟨gb104, 2, none⟩ = some (.slice A0_2 l0_2.length c0_2) := (blk_cell BK104.out 2).trans rfl; have hcz6_3 : w5.cell? ⟨gb104, 3, none⟩ = some (.slice A0_3 l0_3.length c0_3) := (blk_cell BK104.out 3).trans rfl; have hcz6_4 : w5.cell? ⟨gb104, 4, none⟩ = some (.slice A0_4 l0_4.length c0_4) := (blk_cell BK104.out 4).trans rfl; have hcz6_5 : w5.cell? ⟨gb104, 5, none⟩ = some (.slice A0_5 l0_5.length c0_5) := (blk_cell BK104.out 5).trans rfl; have hfz6_0 := blk_frozen BK104.out 0; have hfz6_1 := blk_frozen BK104.out 1; have hfz6_2 := blk_frozen BK104.out 2; have hfz6_3 := blk_frozen BK104.out 3; have hfz6_4 := blk_frozen BK104.out 4; have hfz6_5 := blk_frozen BK104.out 5) | ((with_reducible refine gate_callee (f := 92) rfl ?_); refine goesL_ (some 4) rfl rfl Try.func92 (by kernel_rfl) rfl #[.agg #[.int .i64 a0_0, .slice A0_1 l0_1.length c0_1, .slice A0_2 l0_2.length c0_2, .slice A0_3 l0_3.length c0_3, .slice A0_4 l0_4.length c0_4, .slice A0_5 l0_5.length c0_5]] rfl (by (try simp only [List.map_toArray, List.map_cons, List.map_nil]); first | done | rfl | (simp only [List.length_drop, List.length_take]; rfl)) ?_; (with_reducible refine (norm_May.calls a0_0 _ _ l0_1 _ _ l0_2 _ _ l0_3 _ _ l0_4 _ _ l0_5 true _ ?side1 ?side2 ?side3 ?side4 ?side5 ?side6 ?side7 ?side8 ?side9 ?side10 A2.out).mono ?_); (case side1 => repeat (first | exact (Kd.C_below HR0_1.out HB.out) | (with_reducible refine Kd.C_alloc ?_ _) | (with_reducible refine Kd.C_drewN ?_ _) | (with_reducible refine Kd.C_drew ?_))); (case side2 => exact HC0_1.out); (case side3 => repeat (first | exact (Kd.C_below HR0_2.out HB.out) | (with_reducible refine Kd.C_alloc ?_ _) | (with_reducible refine Kd.C_drewN ?_ _) | (with_reducible refine Kd.C_drew ?_))); (case side4 => exact HC0_2.out); (case side5 => repeat (first | exact (Kd.C_below HR0_3.out HB.out) | (with_reducible refine Kd.C_alloc ?_ _) | (with_reducible refine Kd.C_drewN ?_ _) | (with_reducible refine Kd.C_drew ?_))); (case side6 => exact HC0_3.out); (case side7 => repeat (first | exact (Kd.C_below HR0_4.out HB.out) | (with_reducible refine Kd.C_alloc ?_ _) | (with_reducible refine Kd.C_drewN ?_ _) | (with_reducible refine Kd.C_drew ?_))); (case side8 => exact HC0_4.out); (case side9 => repeat (first | exact (Kd.C_below HR0_5.out HB.out) | (with_reducible refine Kd.C_alloc ?_ _) | (with_reducible refine Kd.C_drewN ?_ _) | (with_reducible refine Kd.C_drew ?_))); (case side10 => exact HC0_5.out); rintro e w7 ⟨rfl, hb⟩; refine ⟨_, rfl, ?_⟩; have n0_ := Aside0.mk (blk_below (g := gb104) (o := .cells #[.int .i64 a0_0, .slice A0_1 l0_1.length c0_1, .slice A0_2 l0_2.length c0_2, .slice A0_3 l0_3.length c0_3, .slice A0_4 l0_4.length c0_4, .slice A0_5 l0_5.length c0_5] 26 (0, 0)) (by (with_reducible repeat (first | refine blk_drewN ?_ _ | refine blk_drew ?_ | refine blk_alloc ?_ _)); exact BK104.out) hb); have n1_ := Aside0.mk (below_step (by repeat (first | (with_reducible first | exact HB.out | apply below_alloc | apply pw_below_drewN | apply below_drew1 | refine below_set ?_ GE104.out) | exact HB.out)) hb); clear BK104; clear HB; have BK104 := n0_; have HB := n1_; clear n0_ n1_; (try clear hb); (try clear hb2); (try clear hk); (try clear hi); have hcz8_0 : w7.cell? ⟨gb104, 0, none⟩ = some (.int .i64 a0_0) := (blk_cell BK104.out 0).trans rfl; have hcz8_1 : w7.cell? ⟨gb104, 1, none⟩ = some (.slice A0_1 l0_1.length c0_1) := (blk_cell BK104.out 1).trans rfl; have hcz8_2 : w7.cell? ⟨gb104, 2, none⟩ = some (.slice A0_2 l0_2.length c0_2) := (blk_cell BK104.out 2).trans rfl; have hcz8_3 : w7.cell? ⟨gb104, 3, none⟩ = some (.slice A0_3 l0_3.length c0_3) := (blk_cell BK104.out 3).trans rfl; have hcz8_4 : w7.cell? ⟨gb104, 4, none⟩ = some (.slice A0_4 l0_4.length c0_4) := (blk_cell BK104.out 4).trans rfl; have hcz8_5 : w7.cell? ⟨gb104, 5, none⟩ = some (.slice A0_5 l0_5.length c0_5) := (blk_cell BK104.out 5).trans rfl; have hfz8_0 := blk_frozen BK104.out 0; have hfz8_1 := blk_frozen BK104.out 1; have hfz8_2 := blk_frozen BK104.out 2; have hfz8_3 := blk_frozen BK104.out 3; have hfz8_4 := blk_frozen BK104.out 4; have hfz8_5 := blk_frozen BK104.out 5) | ((with_reducible refine gate_callee (f := 143) rfl ?_); refine goesL_ (some 7) rfl rfl Try.func143 (by kernel_rfl) rfl #[.agg #[.int .i64 a0_0, .slice A0_1 l0_1.length c0_1, .slice A0_2 l0_2.length c0_2, .slice A0_3 l0_3.length c0_3, .slice A0_4 l0_4.length c0_4, .slice A0_5 l0_5.length c0_5]] rfl (by (try simp only [List.map_toArray, List.map_cons, List.map_nil]); first | done | rfl | (simp only [List.length_drop, List.length_take]; rfl)) ?_; (with_reducible refine (norm_vars.calls a0_0 _ _ l0_1 _ _ l0_2 _ _ l0_3 _ _ l0_4 _ _ l0_5 t106 _ ?side1 ?side2 ?side3 ?side4 ?side5 ?side6 ?side7 ?side8 ?side9 ?side10 A4.out).mono ?_); (case side1 => repeat (first | exact (Kd.C_below HR0_1.out HB.out) | (with_reducible refine Kd.C_alloc ?_ _) | (with_reducible refine Kd.C_drewN ?_ _) | (with_reducible refine Kd.C_drew ?_))); (case side2 => exact HC0_1.out); (case side3 => repeat (first | exact (Kd.C_below HR0_2.out HB.out) | (with_reducible refine Kd.C_alloc ?_ _) | (with_reducible refine Kd.C_drewN ?_ _) | (with_reducible refine Kd.C_drew ?_))); (case side4 => exact HC0_2.out); (case side5 => repeat (first | exact (Kd.C_below HR0_3.out HB.out) | (with_reducible refine Kd.C_alloc ?_ _) | (with_reducible refine Kd.C_drewN ?_ _) | (with_reducible refine Kd.C_drew ?_))); (case side6 => exact HC0_3.out); (case side7 => repeat (first | exact (Kd.C_below HR0_4.out HB.out) | (with_reducible refine Kd.C_alloc ?_ _) | (with_reducible refine Kd.C_drewN ?_ _) | (with_reducible refine Kd.C_drew ?_))); (case side8 => exact HC0_4.out); (case side9 => repeat (first | exact (Kd.C_below HR0_5.out HB.out) | (with_reducible refine Kd.C_alloc ?_ _) | (with_reducible refine Kd.C_drewN ?_ _) | (with_reducible refine Kd.C_drew ?_))); (case side10 => exact HC0_5.out); rintro e w9 ⟨rfl, hb⟩; refine ⟨_, rfl, ?_⟩; have n0_ := Aside0.mk (blk_below (g := gb104) (o := .cells #[.int .i64 a0_0, .slice A0_1 l0_1.length c0_1, .slice A0_2 l0_2.length c0_2, .slice A0_3 l0_3.length c0_3, .slice A0_4 l0_4.length c0_4, .slice A0_5 l0_5.length c0_5] 26 (0, 0)) (by (with_reducible repeat (first | refine blk_drewN ?_ _ | refine blk_drew ?_ | refine blk_alloc ?_ _)); exact BK104.out) hb); have n1_ := Aside0.mk (below_step (by repeat (first | (with_reducible first | exact HB.out | apply below_alloc | apply pw_below_drewN | apply below_drew1 | refine below_set ?_ GE104.out) | exact HB.out)) hb); clear BK104; clear HB; have BK104 := n0_; have HB := n1_; clear n0_ n1_; (try clear hb); (try clear hb2); (try clear hk); (try clear hi)))
    go_ret
    exact ⟨by first | rfl | (simp [errW_none, errW_some] <;> rfl) | (simp [*, errW_none, errW_some] <;> rfl), by repeat (first | (with_reducible first | exact HB.out | apply below_alloc | apply pw_below_drewN | apply below_drew1 | refine below_set ?_ GE104.out) | exact HB.out)⟩
  · replace c3 := Bool.eq_false_iff.mpr c3
    subst c3
    have H1 : (some 0) = some r := by rw [if_neg (show ¬ (false = true) by decide)] at H; exact H
    clear H
    have H := H1
    clear H1
    obtain rfl := Option.some.inj H
    go_enter Try.func101, Try.ntmps101
    go_wp2_with (first | ((with_reducible refine gate_dst (N := 1) rfl ?_); refine box_event ?hg (N := 1) ?hd (cs := #[.int .i64 a0_0, .slice A0_1 l0_1.length c0_1, .slice A0_2 l0_2.length c0_2, .slice A0_3 l0_3.length c0_3, .slice A0_4 l0_4.length c0_4, .slice A0_5 l0_5.length c0_5]) (t := 26) ?hr ?_; (case hd => rfl); (case hg => rfl); (case hr => first | (go_simp; done) | (go_simp; rfl)); intro gb104 hg w10 hbox hb; have n0_ := Aside0.mk (below_step (by repeat (first | (with_reducible first | exact HB.out | apply below_alloc | apply pw_below_drewN | apply below_drew1) | exact HB.out)) hb); have n1_ := Aside0.mk (hbox); have n2_ := Aside0.mk ((by rw [hg]; exact (below_size (by repeat (first | (with_reducible first | exact HB.out | apply below_alloc | apply pw_below_drewN | apply below_drew1) | exact HB.out))) : w.heap.size ≤ gb104)); have n3_ := Aside0.mk ((by rw [hg]; exact (below_size (by repeat (first | (with_reducible first | exact HB.out | apply below_alloc | apply pw_below_drewN | apply below_drew1) | exact HB.out))) : w.heap.size ≤ gb104)); clear HB; have HB := n0_; have BK104 := n1_; have GW104 := n2_; have GE104 := n3_; clear n0_ n1_ n2_ n3_; clear hb hbox hg; have hcz11_0 : w10.cell? ⟨gb104, 0, none⟩ = some (.int .i64 a0_0) := (blk_cell BK104.out 0).trans rfl; have hcz11_1 : w10.cell? ⟨gb104, 1, none⟩ = some (.slice A0_1 l0_1.length c0_1) := (blk_cell BK104.out 1).trans rfl; have hcz11_2 : w10.cell? ⟨gb104, 2, none⟩ = some (.slice A0_2 l0_2.length c0_2) := (blk_cell BK104.out 2).trans rfl; have hcz11_3 : w10.cell? ⟨gb104, 3, none⟩ = some (.slice A0_3 l0_3.length c0_3) := (blk_cell BK104.out 3).trans rfl; have hcz11_4 : w10.cell? ⟨gb104, 4, none⟩ = some (.slice A0_4 l0_4.length c0_4) := (blk_cell BK104.out 4).trans rfl; have hcz11_5 : w10.cell? ⟨gb104, 5, none⟩ = some (.slice A0_5 l0_5.length c0_5) := (blk_cell BK104.out 5).trans rfl; have hfz11_0 := blk_frozen BK104.out 0; have hfz11_1 := blk_frozen BK104.out 1; have hfz11_2 := blk_frozen BK104.out 2; have hfz11_3 := blk_frozen BK104.out 3; have hfz11_4 := blk_frozen BK104.out 4; have hfz11_5 := blk_frozen BK104.out 5) | ((with_reducible refine gate_callee (f := 92) rfl ?_); refine goesL_ (some 4) rfl rfl Try.func92 (by kernel_rfl) rfl #[.agg #[.int .i64 a0_0, .slice A0_1 l0_1.length c0_1, .slice A0_2 l0_2.length c0_2, .slice A0_3 l0_3.length c0_3, .slice A0_4 l0_4.length c0_4, .slice A0_5 l0_5.length c0_5]] rfl (by (try simp only [List.map_toArray, List.map_cons, List.map_nil]); first | done | rfl | (simp only [List.length_drop, List.length_take]; rfl)) ?_; (with_reducible refine (norm_May.calls a0_0 _ _ l0_1 _ _ l0_2 _ _ l0_3 _ _ l0_4 _ _ l0_5 false _ ?side1 ?side2 ?side3 ?side4 ?side5 ?side6 ?side7 ?side8 ?side9 ?side10 A2.out).mono ?_); (case side1 => repeat (first | exact (Kd.C_below HR0_1.out HB.out) | (with_reducible refine Kd.C_alloc ?_ _) | (with_reducible refine Kd.C_drewN ?_ _) | (with_reducible refine Kd.C_drew ?_))); (case side2 => exact HC0_1.out); (case side3 => repeat (first | exact (Kd.C_below HR0_2.out HB.out) | (with_reducible refine Kd.C_alloc ?_ _) | (with_reducible refine Kd.C_drewN ?_ _) | (with_reducible refine Kd.C_drew ?_))); (case side4 => exact HC0_2.out); (case side5 => repeat (first | exact (Kd.C_below HR0_3.out HB.out) | (with_reducible refine Kd.C_alloc ?_ _) | (with_reducible refine Kd.C_drewN ?_ _) | (with_reducible refine Kd.C_drew ?_))); (case side6 => exact HC0_3.out); (case side7 => repeat (first | exact (Kd.C_below HR0_4.out HB.out) | (with_reducible refine Kd.C_alloc ?_ _) | (with_reducible refine Kd.C_drewN ?_ _) | (with_reducible refine Kd.C_drew ?_))); (case side8 => exact HC0_4.out); (case side9 => repeat (first | exact (Kd.C_below HR0_5.out HB.out) | (with_reducible refine Kd.C_alloc ?_ _) | (with_reducible refine Kd.C_drewN ?_ _) | (with_reducible refine Kd.C_drew ?_))); (case side10 => exact HC0_5.out); rintro e w12 ⟨rfl, hb⟩; refine ⟨_, rfl, ?_⟩; have n0_ := Aside0.mk (blk_below (g := gb104) (o := .cells #[.int .i64 a0_0, .slice A0_1 l0_1.length c0_1, .slice A0_2 l0_2.length c0_2, .slice A0_3 l0_3.length c0_3, .slice A0_4 l0_4.length c0_4, .slice A0_5 l0_5.length c0_5] 26 (0, 0)) (by (with_reducible repeat (first | refine blk_drewN ?_ _ | refine blk_drew ?_ | refine blk_alloc ?_ _)); exact BK104.out) hb); have n1_ := Aside0.mk (below_step (by repeat (first | (with_reducible first | exact HB.out | apply below_alloc | apply pw_below_drewN | apply below_drew1 | refine below_set ?_ GE104.out) | exact HB.out)) hb); clear BK104; clear HB; have BK104 := n0_; have HB := n1_; clear n0_ n1_; (try clear hb); (try clear hb2); (try clear hk); (try clear hi)))
    go_ret
    exact ⟨by first | rfl | (simp [errW_none, errW_some] <;> rfl) | (simp [*, errW_none, errW_some] <;> rfl), by repeat (first | (with_reducible first | exact HB.out | apply below_alloc | apply pw_below_drewN | apply below_drew1 | refine below_set ?_ GE104.out) | exact HB.out)⟩
end Go.Proofs.Yteiiodlgdbiimaa.F
end
section
namespace Go.Proofs.Yteiiodlgdbiimaa.F
open Go.RowKit Go.Shelf Go.Proofs.YteiiodlgdbiimaaW.PrintWords Go.Proofs.YteiiodlgdbiimaaW.PrintLast Go.Proofs.YteiiodlgdbiimaaW.PrintMore
set_option linter.unusedVariables false
set_option linter.unusedSimpArgs false
section
variable {P : Program} {ops : Array Oper} {rest : List Oper} {o : Oper} {a : Act} {Q : Exit → Act → World → Prop}
theorem slice_event {W : World} (hgd : o.guard = none) {N : Tmp} (_hd : o.dst = some N) {n c : Nat} {cs : Array Value} {t : TypeId}
    (hrun : (execOp a.eval o).run P W = .ok (.value (.slice (some ⟨W.heap.size, 0, none⟩) n c)) (W.alloc (.cells cs t (0, 0))))
    (h : ∀ g, g = W.heap.size → ∀ w1, w1.heap[g]? = some (.cells cs t (0, 0)) → Below W.heap.size W w1 → wpList P ops Q rest (a.put o.dst (.slice (some ⟨g, 0, none⟩) n c)) w1) : wpList P ops Q (o :: rest) a W :=
  Kd.event_run hgd hrun (h _ rfl _ (blk_new W _) (below_alloc (Below.refl _ _) _))
theorem gate_store {t : TypeId} {p x : Operand} {a : Act} {W : World} (_ho : o.op = .store t p x) (h : wpList P ops Q (o :: rest) a W) : wpList P ops Q (o :: rest) a W := h
theorem skip_event {W W' : World} (hN : o.dst = none) (hgd : o.guard = none) (hrun : (execOp a.eval o).run P W = .ok .skip W') (h : ∀ w1, w1 = W' → wpList P ops Q rest a w1) : wpList P ops Q (o :: rest) a W := by
  refine wpList_plain hgd fun K hK => ?_
  unfold Oper.wp
  rw [hrun]
  show K (a.put o.dst undef) W'
  rw [hN]
  exact hK _ _ (h _ rfl)
end
theorem blk_set2 {w : World} {g : Nat} {t : TypeId} {p q : Value} (h : w.heap[g]? = some (.cells #[p, q] t (0, 0))) (x y : Value) : ((w.setCell ⟨g, 0, none⟩ x).setCell ⟨g, 1, none⟩ y).heap[g]? = some (.cells #[x, y] t (0, 0)) := by
  simpa using blk_set (blk_set h 0 x) 1 y
theorem below_set2 {B : Nat} {w0 w : World} {g : Nat} (h : Below B w0 w) (hg : B ≤ g) (x y : Value) : Below B w0 ((w.setCell ⟨g, 0, none⟩ x).setCell ⟨g, 1, none⟩ y) := (h.setCell (p := ⟨g, 0, none⟩) hg x).setCell (p := ⟨g, 1, none⟩) hg y
theorem below_drewN' (W : World) (n : Nat) : Below W.heap.size W (W.drewN n) := pw_below_drewN (Below.refl _ _) n
end Go.Proofs.Yteiiodlgdbiimaa.F
end
section
namespace Go.Proofs.Yteiiodlgdbiimaa.F
open Go.RowKit Go.Proofs.YteiiodlgdbiimaaW.PrintWords Go.Proofs.YteiiodlgdbiimaaW.PrintLast Go.Proofs.YteiiodlgdbiimaaW.PrintMore
attribute [local go_sem] max2_int min2_int max_two min_two max_three min_three max_four min_four
set_option linter.unusedVariables false
set_option linter.unusedSimpArgs false
def bits_Mul64.f (a0 : Int) (a1 : Int) : Option (Int × Int) := some (IntKind.u64.wrap ((IntKind.u64.wrap ((IntKind.u64.wrap ((a0 / 4294967296) * (a1 / 4294967296))) + ((IntKind.u64.wrap ((IntKind.u64.wrap ((a0 / 4294967296) * (Go.bits .and .u64 a1 4294967295))) + ((IntKind.u64.wrap ((Go.bits .and .u64 a0 4294967295) * (Go.bits .and .u64 a1 4294967295))) / 4294967296))) / 4294967296))) + ((IntKind.u64.wrap ((Go.bits .and .u64 (IntKind.u64.wrap ((IntKind.u64.wrap ((a0 / 4294967296) * (Go.bits .and .u64 a1 4294967295))) + ((IntKind.u64.wrap ((Go.bits .and .u64 a0 4294967295) * (Go.bits .and .u64 a1 4294967295))) / 4294967296))) 4294967295) + (IntKind.u64.wrap ((Go.bits .and .u64 a0 4294967295) * (a1 / 4294967296))))) / 4294967296)), IntKind.u64.wrap (a0 * a1))
set_option maxHeartbeats 8000000 in
set_option maxRecDepth 100000 in
theorem bits_Mul64.calls (a0 : Int) (a1 : Int) (r1 : Int) (r2 : Int) (w : World) (h : bits_Mul64.f a0 a1 = some (r1, r2)) :
    Calls Try.prog 179 #[.int .u64 a0, .int .u64 a1] w fun e w' => e = .returned (.tuple #[.int .u64 r1, .int .u64 r2]) ∧ Drawn0 w w' := by
  have H : (some (IntKind.u64.wrap ((IntKind.u64.wrap ((IntKind.u64.wrap ((a0 / 4294967296) * (a1 / 4294967296))) + ((IntKind.u64.wrap ((IntKind.u64.wrap ((a0 / 4294967296) * (Go.bits .and .u64 a1 4294967295))) + ((IntKind.u64.wrap ((Go.bits .and .u64 a0 4294967295) * (Go.bits .and .u64 a1 4294967295))) / 4294967296))) / 4294967296))) + ((IntKind.u64.wrap ((Go.bits .and .u64 (IntKind.u64.wrap ((IntKind.u64.wrap ((a0 / 4294967296) * (Go.bits .and .u64 a1 4294967295))) + ((IntKind.u64.wrap ((Go.bits .and .u64 a0 4294967295) * (Go.bits .and .u64 a1 4294967295))) / 4294967296))) 4294967295) + (IntKind.u64.wrap ((Go.bits .and .u64 a0 4294967295) * (a1 / 4294967296))))) / 4294967296)), IntKind.u64.wrap (a0 * a1))) = some (r1, r2) := h
  clear h
  simp only [Option.some.injEq, Prod.mk.injEq] at H
  obtain ⟨rfl, rfl⟩ := H
  go_enter Try.func179, Try.ntmps179
  go_wp2
  go_ret2
  exact ⟨by first | rfl | (simp; done) | (simp [*]; done), by repeat (first | exact Drawn0.refl _ | apply Drawn0.step)⟩
end Go.Proofs.Yteiiodlgdbiimaa.F
end
section
namespace Go.Proofs.Yteiiodlgdbiimaa.F
open Go.RowKit Go.Proofs.YteiiodlgdbiimaaW.PrintWords Go.Proofs.YteiiodlgdbiimaaW.PrintLast Go.Proofs.YteiiodlgdbiimaaW.PrintMore
attribute [local go_sem] max2_int min2_int max_two min_two max_three min_three max_four min_four
set_option linter.unusedVariables false
set_option linter.unusedSimpArgs false
def bits_Mul.f (a0 : Int) (a1 : Int) : Option (Int × Int) := (bits_Mul64.f a0 a1).bind fun bt307 => (some (bt307.1, bt307.2))
set_option maxHeartbeats 8000000 in
set_option maxRecDepth 100000 in
theorem bits_Mul.calls (a0 : Int) (a1 : Int) (r1 : Int) (r2 : Int) (w : World) (h : bits_Mul.f a0 a1 = some (r1, r2)) :
    Calls Try.prog 146 #[.int .u64 a0, .int .u64 a1] w fun e w' => e = .returned (.tuple #[.int .u64 r1, .int .u64 r2]) ∧ Drawn0 w w' := by
  have H : ((bits_Mul64.f a0 a1).bind fun bt307 => (some (bt307.1, bt307.2))) = some (r1, r2) := h
  clear h
  replace H := Option.bind_eq_some_iff.mp H
  obtain ⟨⟨t307, t308⟩, A30, H⟩ := H
  replace H : (some (t307, t308)) = some (r1, r2) := H
  have A3 := Aside0.mk A30
  clear A30
  simp only [Option.some.injEq, Prod.mk.injEq] at H
  obtain ⟨rfl, rfl⟩ := H
  go_enter Try.func146, Try.ntmps146
  go_wp2_with (first | ((with_reducible refine gate_callee (f := 179) rfl ?_); refine goesL_ (some 25) rfl rfl Try.func179 (by kernel_rfl) rfl #[.int .u64 a0, .int .u64 a1] rfl (by (try simp only [List.map_toArray, List.map_cons, List.map_nil]); first | done | rfl | (simp only [List.length_drop, List.length_take]; rfl)) ?_; (with_reducible refine (bits_Mul64.calls a0 a1 t307 t308 _ A3.out).mono ?_); rintro e w' ⟨rfl, ⟨nd, rfl⟩⟩; refine ⟨_, rfl, ?_⟩))
  go_ret2
  exact ⟨by first | rfl | (simp; done) | (simp [*]; done), by repeat (first | exact Drawn0.refl _ | apply Drawn0.step)⟩
end Go.Proofs.Yteiiodlgdbiimaa.F
end
section
namespace Go.Proofs.Yteiiodlgdbiimaa.F
open Go.RowKit Go.Shelf Go.Proofs.YteiiodlgdbiimaaW.PrintWords Go.Proofs.YteiiodlgdbiimaaW.PrintLast Go.Proofs.YteiiodlgdbiimaaW.PrintMore
set_option linter.unusedVariables false
set_option linter.unusedSimpArgs false
theorem u64_id {x : Int} (h0 : 0 ≤ x) (h1 : x < 18446744073709551616) : IntKind.u64.wrap x = x := by
  simp [IntKind.wrap, IntKind.bits, IntKind.signed]
  omega
theorem mul_one_u64 (n : Nat) (h : n ≤ 1000000) : bits_Mul.f 1 (n : Int) = some (0, (n : Int)) := by
  have e1 : Go.bits .and .u64 (n : Int) 4294967295 = (n : Int) := by
    have := u64_and_nat n 4294967295 (by omega) (by omega)
    rw [show ((4294967295 : Nat) : Int) = 4294967295 from rfl] at this
    rw [this, show (4294967295 : Nat) = 2 ^ 32 - 1 from rfl, Nat.and_two_pow_sub_one_eq_mod, Nat.mod_eq_of_lt (by omega)]
  have e2 : Go.bits .and .u64 1 4294967295 = 1 := by decide
  have e3 : Go.bits .and .u64 0 4294967295 = 0 := by decide
  have e4 : ((1 : Int) / 4294967296) = 0 := by decide
  have e5 : ((n : Int) / 4294967296) = 0 := by omega
  simp only [bits_Mul.f, bits_Mul64.f, Option.bind_some]
  rw [e1, e2, e4, e5]
  simp only [Int.one_mul, Int.zero_mul, Int.mul_zero]
  have e6 : IntKind.u64.wrap 0 = 0 := by decide
  simp only [u64_id (x := (n : Int)) (by omega) (by omega), e5, e6, Int.add_zero, e3, e4]
  rfl
def slices_Repeat_uint8_uint8.f (l0 : List Int) (a1 : Int) : Option (List Int) :=
  match l0 with
  | [x] => if 0 ≤ a1 ∧ a1 ≤ 1000000 then some (List.replicate a1.toNat x) else none
  | _ => none
def someX (x : Value) (j n : Nat) : List Value := List.replicate j x ++ List.replicate (n - j) (.int .u8 0)
theorem splice_someX (x : Value) (j m n : Nat) (h : j + m ≤ n) : splice (someX x j n) j (List.replicate m x) = someX x (j + m) n := by
  unfold splice someX
  have e1 : n - j = m + (n - (j + m)) := by omega
  generalize n - (j + m) = d at e1 ⊢
  rw [e1, List.length_replicate, List.take_append_of_le_length (by simp), List.take_of_length_le (by simp), List.drop_append]
  simp [List.drop_replicate, ← List.append_assoc, List.replicate_append_replicate]
theorem info5x : (Try.prog.info? 5).map (·.size) = some 1 := by kernel_rfl
theorem made_someX (x : Value) (n : Nat) : madeCells #[.int .u8 0] n = (someX x 0 n).toArray := by
  apply Array.ext'
  apply List.ext_getElem
  · simp [someX, size_madeCells]
  · intro i h1 h2
    simp [someX, madeCells, Nat.mod_one]
theorem copy1 {W : World} {ad : Addr} {x : Value} {n j : Nat} {v : Value} (h : W.cell? ad = some x) (hj : (List.replicate (Nat.min 1 n) x)[j]? = some v) : W.cell? (ad.add j) = some v := by
  rw [List.getElem?_replicate] at hj
  split at hj
  · rename_i hlt
    have : Nat.min 1 n ≤ 1 := Nat.min_le_left 1 n
    obtain rfl : j = 0 := by omega
    rw [← Option.some.inj hj]
    simpa [Addr.add] using h
  · cases hj
theorem one_rep (k : Nat) (x : Int) : ∀ v ∈ List.replicate k (Value.int .u8 x), v.oneCell' = true := fun v hv => by
  rw [List.eq_of_mem_replicate hv]
  rfl
set_option maxHeartbeats 4000000 in
set_option maxRecDepth 100000 in
theorem slices_Repeat_uint8_uint8.calls (A0 : Option Addr) (c0 : Nat) (l0 : List Int) (a1 : Int) (r : List Int) (w : World) (hr0 : Kd.C (Kd.int .u8) w A0 l0.length l0) (hc0 : l0.length ≤ c0)
    (h : slices_Repeat_uint8_uint8.f l0 a1 = some r) :
    Calls Try.prog 100 #[.slice A0 l0.length c0, .int .i64 a1] w fun e w' => ∃ v0_ : Value, e = .returned (v0_) ∧ Kd.R (Kd.int .u8) 5 w' w.heap.size (fun _ => True) v0_ r ∧ Below w.heap.size w w' := by
  unfold slices_Repeat_uint8_uint8.f at h
  split at h
  case h_2 => cases h
  case h_1 x =>
  split at h
  case isFalse => cases h
  case isTrue hn =>
  obtain ⟨n, rfl⟩ := Int.eq_ofNat_of_zero_le hn.1
  have hn6 : n ≤ 1000000 := by omega
  obtain rfl := Option.some.inj h
  clear h hn
  obtain ⟨ad, e, hx0⟩ := Kd.at_int hr0 0 (by omega) (by simp)
  cases e
  have hx : w.cell? ad = some (.int .u8 x) := by simpa [rd, Addr.add] using hx0
  clear hx0
  have HR := Aside0.mk hr0
  clear hr0
  have HM := Aside0.mk (fun W => bits_Mul.calls 1 (n : Int) 0 (n : Int) W (mul_one_u64 n hn6))
  have hmk : ∀ W : World, (Instr.makeSlice 28 (.int .i64 (n : Int)) (.int .i64 (n : Int))).run Try.prog W = .ok (.slice (some ⟨W.heap.size, 0, none⟩) n n) (W.alloc (.cells (madeCells #[.int .u8 0] n) 5)) := fun W =>
    run_make_row' (P := Try.prog) 28 5 (.int .u8 0) 1 Try.underlying28 info5 rfl .i64 .i64 n (by omega) (by omega) W
  rw [Int.toNat_natCast]
  go_enter Try.func100, Try.ntmps100
  go_wp2_with (first | (go_at_call 146; refine (HM.out _).mono ?_; rintro e w1 ⟨rfl, ⟨nd, rfl⟩⟩) | ((with_reducible refine gate_dst (N := 30) rfl ?_); refine slice_event rfl (N := 30) rfl (n := n) (c := n) (cs := madeCells #[.int .u8 0] n) (t := 5) ?hr ?_; (case hr => first | (go_simp; done) | (go_simp; rfl)); intro g hg_ w2 BK hb2; have GE := Aside0.mk (show w.heap.size ≤ g from by rw [hg_]; exact (below_drewN' w nd).size); clear hg_; have HB := Aside0.mk (below_step (below_drewN' w nd) hb2); have hx2 := pw_cell_below hb2 (show (w.drewN nd).cell? ad = _ from hx); clear hb2; clear hx; have HBK := Aside0.mk (show w2.heap[g]? = some (.cells (someX (.int .u8 x) 0 n).toArray 5 (0, 0)) from by rw [← made_someX (.int .u8 x) n]; exact BK); clear BK) | ((with_reducible refine gate_builtin (b := .copy) (xs := #[.tmp 31, .tmp 32]) rfl ?_); refine wpList_copy_splice (B := w.heap.size) (w0 := w) rfl (.tmp 31) (.tmp 32) 28 28 ?h0 5 Try.underlying28 info5x (some ⟨g, 0, none⟩) (some ad) n n 1 c0 ?h1 ?h2 g 0 (someX (.int .u8 x) 0 n) 5 HBK.out (List.replicate (Nat.min 1 n) (.int .u8 x)) ?h4 ?h5 ?h6 (one_rep _ _) HB.out GE.out ?_; (case h0 => rfl); (case h1 => rfl); (case h2 => rfl); (case h4 => simp); (case h5 => exact fun _ => ⟨rfl, ad, rfl, fun j v hj => copy1 hx2 hj⟩); (case h6 => have : Nat.min 1 n ≤ n := Nat.min_le_right 1 n; simp [someX]; omega); intro w3 HBK3 HB3; have HBK3 := Aside0.mk HBK3.out; have HB3 := Aside0.mk HB3; rw [splice_someX _ _ _ _ (by have : Nat.min 1 n ≤ n := Nat.min_le_right 1 n; omega)] at HBK3; clear HBK HB))
  go_loopg [8] n (fun gg v8 wr => ∃ j : Nat, n - j ≤ gg ∧ v8 = .int .i64 j ∧ Aside0 (j ≤ n ∧ (1 ≤ j ∨ n = 0)) ∧ Aside0 (wr.heap[g]? = some (.cells (someX (.int .u8 x) j n).toArray 5 (0, 0))) ∧ Aside0 (Below w.heap.size w wr))
  case atStart => exact ⟨Nat.min 1 n, by omega, rfl, ⟨Nat.min_le_right 1 n, by show 1 ≤ Nat.min 1 n ∨ n = 0; rcases Nat.eq_zero_or_pos n with h | h; exact .inr h; exact .inl (Nat.le_min.2 ⟨Nat.le_refl _, h⟩)⟩, ⟨by rw [Nat.zero_add] at HBK3; exact HBK3.out⟩, HB3⟩
  case round =>
    clear HBK3 HB3
    obtain ⟨j, hg, rfl, HJ, HK, HB⟩ := hrel
    have hj1 := HJ.out.1
    by_cases hlt : j < n
    · have hltz : (j : Int) < (n : Int) := by omega
      go_wp2
      obtain ⟨m, hm1, hm2, hm⟩ : ∃ m : Nat, m = Nat.min j (n - j) ∧ j + m ≤ n ∧ (1 ≤ m) := by
        refine ⟨Nat.min j (n - j), rfl, ?_, ?_⟩
        · have : Nat.min j (n - j) ≤ n - j := Nat.min_le_right _ _
          omega
        · exact Nat.le_min.2 ⟨by have := HJ.out.2; omega, by omega⟩
      have HMM := Aside0.mk hm1
      clear hm1
      have hnj : ¬ n = j := by omega
      have HSRC := Aside0.mk (show ∀ (q : Nat) v, (List.replicate m (Value.int .u8 x))[q]? = some v → wr.cell? ((⟨g, 0, none⟩ : Addr).add q) = some v from fun q v hq => by
        rw [List.getElem?_replicate] at hq
        split at hq
        · rename_i hqm
          have hmj : m ≤ j := by rw [HMM.out]; exact Nat.min_le_left _ _
          rw [← Option.some.inj hq, add_plain]
          refine (blk_cell HK.out q).trans ?_
          simp only [someX, List.getElem?_toArray]
          rw [List.getElem?_append_left (by simp; omega), List.getElem?_replicate, if_pos (by omega)]
        · cases hq)
      have HLEN := Aside0.mk (show (List.replicate m (Value.int .u8 x)).length = Nat.min j (n - j) from by rw [List.length_replicate]; exact HMM.out)
      go_region_law ((with_reducible refine step_copy_splice (B := w.heap.size) (w0 := w) ?hgd (.tmp 41) (.tmp 44) 28 28 ?h0 5 Try.underlying28 info5x (some ⟨g, j, none⟩) (some ⟨g, 0, none⟩) (n - j) (n - j) j n ?h1 ?h2 g j (someX (.int .u8 x) j n) 5 ?hK (List.replicate m (.int .u8 x)) HLEN.out ?h5 ?h6 (one_rep _ _) ?hB GE.out ?_); (case hgd => rfl); (case h0 => rfl); (case h1 => simp [Act.eval, Act.put]); (case h2 => simp [Act.eval, Act.put]); (case hK => exact HK.out); (case hB => exact below_drew HB.out); (case h5 => exact fun _ => ⟨rfl, _, rfl, HSRC.out⟩); (case h6 => simp [someX]; omega); intro w3 HBK3 HB3; have HBK3 := Aside0.mk HBK3.out; have HB3 := Aside0.mk HB3)
      have HBK4 := Aside0.mk (show w3.heap[g]? = some (.cells (someX (.int .u8 x) (j + m) n).toArray 5 (0, 0)) from by rw [← splice_someX _ _ _ _ hm2]; exact HBK3.out)
      clear HBK3 HSRC HLEN
      go_wp2
      go_roundg (n - (j + m))
      case measure => omega
      case rel => exact ⟨j + m, by omega, by simp only [Value.int.injEq, true_and, Int.natCast_add]; exact IntWalk.i64_in _ (by omega), ⟨hm2, .inl (by omega)⟩, HBK4, HB3⟩
    · have hltz : ¬ (j : Int) < (n : Int) := by omega
      have hjn : j = n := by omega
      subst hjn
      go_wp2
      go_ret
      refine ⟨_, rfl, ?_, HB.out⟩
      refine Kd.R_of_own (enc := Value.int .u8) (h1 := fun _ => rfl) ?_ (fun _ _ => trivial)
      rw [List.length_replicate]
      exact ⟨by simp [encs], .inr ⟨g, j, (someX (.int .u8 x) j j).toArray, rfl, GE.out, HK.out, Nat.le_refl _, by simp only [maxLen]; omega, by simp [someX], by simp [someX, encs]⟩⟩
end Go.Proofs.Yteiiodlgdbiimaa.F
end
section
namespace Go.Proofs.Yteiiodlgdbiimaa.F
open Go.RowKit Go.Shelf Go.Proofs.YteiiodlgdbiimaaW.PrintWords Go.Proofs.YteiiodlgdbiimaaW.PrintLast Go.Proofs.YteiiodlgdbiimaaW.PrintMore
set_option linter.unusedVariables false
set_option linter.unusedSimpArgs false
attribute [local go_sem] Oper.semAt_some
def BackX (n : Nat) := { p : Nat × (Option Addr × Nat × Nat) // p.1 < n }
def BackX.args {n : Nat} (x : BackX n) : Array Value := #[.int .i64 (x.1.1 : Int), .slice x.1.2.1 x.1.2.2.1 x.1.2.2.2]
def RowOk (g n : Nat) (W : World) : Prop := ∀ j, j < n → ∃ A l c, W.cell? ⟨g, j, none⟩ = some (.slice A l c)
def BackKeeps (b g n c : Nat) (W W' : World) : Prop := (W.cell? ⟨b, 0, none⟩ = some (.slice (some ⟨g, 0, none⟩) n c) → W'.cell? ⟨b, 0, none⟩ = some (.slice (some ⟨g, 0, none⟩) n c)) ∧ (RowOk g n W → RowOk g n W')
theorem BackKeeps.trans {b g n c : Nat} {A B C : World} (h : BackKeeps b g n c A B) (k : BackKeeps b g n c B C) : BackKeeps b g n c A C := ⟨fun x => k.1 (h.1 x), fun x => k.2 (h.2 x)⟩
def backPlaces (n k : Nat) : List Nat := (List.range k).map fun j => n - 1 - j
theorem backPlaces_succ (n k : Nat) : backPlaces n (k + 1) = backPlaces n k ++ [n - 1 - k] := by simp [backPlaces, List.range_succ]
theorem backPlaces_length (n k : Nat) : (backPlaces n k).length = k := by simp [backPlaces]
end Go.Proofs.Yteiiodlgdbiimaa.F
end
section
namespace Go.Proofs.Yteiiodlgdbiimaa.F
open Go.RowKit Go.Shelf Go.Proofs.YteiiodlgdbiimaaW.PrintWords Go.Proofs.YteiiodlgdbiimaaW.PrintLast Go.Proofs.YteiiodlgdbiimaaW.PrintMore
set_option linter.unusedVariables false
set_option linter.unusedSimpArgs false
theorem xinfo3 : (Try.prog.info? 3).map (fun i => (i.zero, i.size, i.bytes)) = some (some (.int .i64 0), 1, 8) := by kernel_rfl
theorem xinfo4 : (Try.prog.info? 4).map (fun i => (i.zero, i.size, i.bytes)) = some (some (.bool false), 1, 1) := by kernel_rfl
def vOf (x : Int) : Int := wrap64 (x / 2)
def addP (s : List Bool × List Int) (x : Int) : List Bool × List Int :=
  if 0 < vOf x ∧ s.1.getD (vOf x).toNat false = false then (s.1.set (vOf x).toNat true, s.2 ++ [vOf x]) else s
def Others (W W' : World) : Prop := ∀ (b : Nat) (cs : Array Value) (t : TypeId), W.heap[b]? = some (.cells cs t (0, 0)) → t ≠ 150 → t ≠ 4 → t ≠ 3 → W'.heap[b]? = some (.cells cs t (0, 0))
theorem Others.refl (W : World) : Others W W := fun _ _ _ h _ _ _ => h
theorem Others.trans {W W1 W2 : World} (h : Others W W1) (k : Others W1 W2) : Others W W2 := fun b cs t hb h1 h2 h3 => k b cs t (h b cs t hb h1 h2 h3) h1 h2 h3
theorem Others.below {W W1 : World} (h : Below W.heap.size W W1) : Others W W1 := fun b cs t hb _ _ _ => blk_below hb h
structure ConeSt (a0 : Int) (A1 : Option Addr) (c1 : Nat) (l1 : List S41) (A2 : Option Addr) (c2 : Nat) (l2 : List S68) (A3 : Option Addr) (c3 : Nat) (l3 : List Int) (A4 : Option Addr) (c4 : Nat) (l4 : List Int) (A5 : Option Addr) (c5 : Nat) (l5 : List Int) (ever : Bool) (w0 : World) (g gi ci n : Nat) (xs : List Bool) (q : List Int) (W : World) : Prop where
  below : Below w0.heap.size w0 W
  ge : w0.heap.size ≤ g
  len : xs.length = n
  is : Kd.R Kd.bool 4 W w0.heap.size (fun _ => True) (.slice (some ⟨gi, 0, none⟩) n ci) xs
  st : ∃ vq, W.heap[g]? = some (.cells #[.int .i64 a0, .slice A1 l1.length c1, .slice A2 l2.length c2, .slice A3 l3.length c3, .slice A4 l4.length c4, .slice A5 l5.length c5, .slice (some ⟨gi, 0, none⟩) n ci, vq, .bool ever] 150 (0, 0)) ∧ Kd.R (Kd.int .i64) 3 W w0.heap.size (fun _ => True) vq q
theorem ConeSt.gi_ge {a0 : Int} {A1 : Option Addr} {c1 : Nat} {l1 : List S41} {A2 : Option Addr} {c2 : Nat} {l2 : List S68} {A3 : Option Addr} {c3 : Nat} {l3 : List Int} {A4 : Option Addr} {c4 : Nat} {l4 : List Int} {A5 : Option Addr} {c5 : Nat} {l5 : List Int} {ever : Bool} {w0 : World} {g gi ci n : Nat} {xs : List Bool} {q : List Int} {W : World}
    (h : ConeSt a0 A1 c1 l1 A2 c2 l2 A3 c3 l3 A4 c4 l4 A5 c5 l5 ever w0 g gi ci n xs q W) : w0.heap.size ≤ gi := by
  obtain ⟨inner, ho⟩ := Kd.R_own h.is
  exact own_base ho gi (by simp [Value.ownBlock])
theorem ConeSt.step {a0 : Int} {A1 : Option Addr} {c1 : Nat} {l1 : List S41} {A2 : Option Addr} {c2 : Nat} {l2 : List S68} {A3 : Option Addr} {c3 : Nat} {l3 : List Int} {A4 : Option Addr} {c4 : Nat} {l4 : List Int} {A5 : Option Addr} {c5 : Nat} {l5 : List Int} {ever : Bool} {w0 : World} {g gi ci n : Nat} {xs : List Bool} {q : List Int} {W W' : World}
    (h : ConeSt a0 A1 c1 l1 A2 c2 l2 A3 c3 l3 A4 c4 l4 A5 c5 l5 ever w0 g gi ci n xs q W) (hb : Below W.heap.size W W') : ConeSt a0 A1 c1 l1 A2 c2 l2 A3 c3 l3 A4 c4 l4 A5 c5 l5 ever w0 g gi ci n xs q W' := by
  obtain ⟨vq, hk, hq⟩ := h.st
  exact ⟨below_step h.below hb, h.ge, h.len, Kd.R_below h.is hb, vq, blk_below hk hb, Kd.R_below hq hb⟩
theorem ConeSt.added {a0 : Int} {A1 : Option Addr} {c1 : Nat} {l1 : List S41} {A2 : Option Addr} {c2 : Nat} {l2 : List S68} {A3 : Option Addr} {c3 : Nat} {l3 : List Int} {A4 : Option Addr} {c4 : Nat} {l4 : List Int} {A5 : Option Addr} {c5 : Nat} {l5 : List Int} {ever : Bool} {w0 : World} {g gi ci n : Nat} {xs : List Bool} {q : List Int} {W w9 : World}
    {vq v1 : Value} {i : Int} (hge : w0.heap.size ≤ g) (hlen : xs.length = n) (his : Kd.R Kd.bool 4 W w0.heap.size (fun _ => True) (.slice (some ⟨gi, 0, none⟩) n ci) xs)
    (hk : W.heap[g]? = some (.cells #[.int .i64 a0, .slice A1 l1.length c1, .slice A2 l2.length c2, .slice A3 l3.length c3, .slice A4 l4.length c4, .slice A5 l5.length c5, .slice (some ⟨gi, 0, none⟩) n ci, vq, .bool ever] 150 (0, 0))) (hq : Kd.R (Kd.int .i64) 3 (W.setCell ⟨gi, i.toNat, none⟩ (.bool true)) w0.heap.size (fun _ => True) vq q)
    (h1 : Kd.R (Kd.int .i64) 3 w9 w0.heap.size (fun _ => True) v1 (q ++ [i])) (hb : Below w0.heap.size w0 w9) (hg : (W.setCell ⟨gi, i.toNat, none⟩ (.bool true)).grownBy w9 vq.ownBlock) :
    ConeSt a0 A1 c1 l1 A2 c2 l2 A3 c3 l3 A4 c4 l4 A5 c5 l5 ever w0 g gi ci n (xs.set i.toNat true) (q ++ [i]) (w9.setCell ⟨g, 7, none⟩ v1) ∧ w9.heap[g]? = some (.cells #[.int .i64 a0, .slice A1 l1.length c1, .slice A2 l2.length c2, .slice A3 l3.length c3, .slice A4 l4.length c4, .slice A5 l5.length c5, .slice (some ⟨gi, 0, none⟩) n ci, vq, .bool ever] 150 (0, 0)) ∧ Others W (w9.setCell ⟨g, 7, none⟩ v1) := by
  have hgi : g ≠ gi := by
    have := Kd.R_ne his hk (by decide)
    simpa [Value.ownBlock] using this
  have hk1 := blk_far hk (p := ⟨gi, i.toNat, none⟩) hgi (.bool true)
  have his1 := Kd.R_putn (enc := Value.bool) his i true
  have hk2 := blk_grown hk1 hg (Kd.R_ne hq hk1 (by decide))
  obtain ⟨inner, ho⟩ := Kd.R_own his1
  obtain ⟨ci_, hci⟩ := own_typed ho gi (by simp [Value.ownBlock])
  have hgq : some gi ≠ vq.ownBlock := Kd.R_ne hq hci (by decide)
  have his2 : Kd.R Kd.bool 4 w9 w0.heap.size (fun _ => True) (.slice (some ⟨gi, 0, none⟩) n ci) (xs.set i.toNat true) := by
    refine Kd.R_mono (Kd.R_grown (ok := fun k => k = gi) ⟨fun k hk => ?_, his1.2.imp_ (fun _ _ hp => hp)⟩ hg (fun k hk => by rw [hk]; exact hgq)) (fun _ _ => trivial)
    simpa [Value.ownBlock] using hk.symm
  refine ⟨⟨hb.setCell (p := ⟨g, 7, none⟩) hge _, hge, by rw [List.length_set]; exact hlen, ?_, v1, by simpa using blk_set hk2 7 v1, ?_⟩, hk2, fun b cs t hb' h150 h4 h3 => ?_⟩
  · exact Kd.R_mono (Kd.R_far (p := ⟨g, 7, none⟩) (Kd.R_types his2 hk2 (by decide)) (fun _ h => h.2) _) (fun _ h => h.1)
  · exact Kd.R_mono (Kd.R_far (p := ⟨g, 7, none⟩) (Kd.R_types h1 hk2 (by decide)) (fun _ h => h.2) _) (fun _ h => h.1)
  · obtain ⟨inner0, ho0⟩ := Kd.R_own his
    obtain ⟨ci0, hci0⟩ := own_typed ho0 gi (by simp [Value.ownBlock])
    have e1 := blk_far hb' (p := ⟨gi, i.toNat, none⟩) (blk_ne hb' hci0 h4) (.bool true)
    have e2 := blk_grown e1 hg (Kd.R_ne hq e1 (fun e => h3 e.symm))
    exact blk_far e2 (p := ⟨g, 7, none⟩) (blk_ne e2 hk2 h150) v1
theorem ConeSt.cleared {a0 : Int} {A1 : Option Addr} {c1 : Nat} {l1 : List S41} {A2 : Option Addr} {c2 : Nat} {l2 : List S68} {A3 : Option Addr} {c3 : Nat} {l3 : List Int} {A4 : Option Addr} {c4 : Nat} {l4 : List Int} {A5 : Option Addr} {c5 : Nat} {l5 : List Int} {ever : Bool} {w0 : World} {g gi ci n : Nat} {xs : List Bool} {q : List Int} {W : World}
    (h : ConeSt a0 A1 c1 l1 A2 c2 l2 A3 c3 l3 A4 c4 l4 A5 c5 l5 ever w0 g gi ci n xs q W) : ConeSt a0 A1 c1 l1 A2 c2 l2 A3 c3 l3 A4 c4 l4 A5 c5 l5 ever w0 g gi ci n xs [] (W.setCell ⟨g, 7, none⟩ (.slice none 0 0)) := by
  obtain ⟨vq, hk, hq⟩ := h.st
  refine ⟨h.below.setCell (p := ⟨g, 7, none⟩) h.ge _, h.ge, h.len, ?_, .slice none 0 0, by simpa using blk_set hk 7 (.slice none 0 0), Kd.R_nil _ _ _ _ _⟩
  exact Kd.R_mono (Kd.R_far (p := ⟨g, 7, none⟩) (Kd.R_types h.is hk (by decide)) (fun _ h => h.2) _) (fun _ h => h.1)
set_option maxHeartbeats 4000000 in
set_option maxRecDepth 100000 in
theorem add141 (a0 : Int) (A1 : Option Addr) (c1 : Nat) (l1 : List S41) (A2 : Option Addr) (c2 : Nat) (l2 : List S68) (A3 : Option Addr) (c3 : Nat) (l3 : List Int) (A4 : Option Addr) (c4 : Nat) (l4 : List Int) (A5 : Option Addr) (c5 : Nat) (l5 : List Int) (ever : Bool) (w0 : World) (g gi ci n : Nat) (xs : List Bool) (q : List Int) (w : World) (x : Int) (hx : vOf x < (n : Int)) (hql : q.length ≤ 60000)
    (h : ConeSt a0 A1 c1 l1 A2 c2 l2 A3 c3 l3 A4 c4 l4 A5 c5 l5 ever w0 g gi ci n xs q w) :
    Calls Try.prog 141 #[.pointer (some ⟨g, 0, none⟩), .int .u32 x] w fun e w' => e = .returned (.tuple #[]) ∧ ConeSt a0 A1 c1 l1 A2 c2 l2 A3 c3 l3 A4 c4 l4 A5 c5 l5 ever w0 g gi ci n (addP (xs, q) x).1 (addP (xs, q) x).2 w' ∧ Others w w' := by
  have H := Aside0.mk h
  obtain ⟨hb, hge, hlen, his, vq, hk, hq⟩ := h
  have hu150 := Try.underlying150
  have hi6 : w.cell? ⟨g, 6, none⟩ = some (.slice (some ⟨gi, 0, none⟩) n ci) := (blk_cell hk 6).trans rfl
  have hi7 : w.cell? ⟨g, 7, none⟩ = some vq := (blk_cell hk 7).trans rfl
  unfold vOf at hx
  by_cases h0 : 0 < wrap64 (x / 2)
  · have h0b : decide (0 < wrap64 (x / 2)) = true := decide_eq_true h0
    obtain ⟨hc, hf⟩ := Kd.R_celln (enc := Value.bool) false his (wrap64 (x / 2)) (by omega) hx
    cases hv : rdOf false xs (wrap64 (x / 2)) with
    | true =>
      have R : Aside0 (addP (xs, q) x = (xs, q)) := ⟨by
        unfold addP vOf
        rw [if_neg]
        rintro ⟨_, h2⟩
        rw [show rdOf false xs (wrap64 (x / 2)) = xs.getD (wrap64 (x / 2)).toNat false from rfl] at hv
        rw [hv] at h2
        cases h2⟩
      rw [hv] at hc
      clear hk hq his hb hv
      go_enter Try.func141, Try.ntmps141
      go_wp2
      go_end0
      exact ⟨rfl, by rw [R.out]; exact H.out, Others.refl _⟩
    | false =>
      have R : Aside0 (addP (xs, q) x = (xs.set (wrap64 (x / 2)).toNat true, q ++ [wrap64 (x / 2)])) := ⟨by
        unfold addP vOf
        rw [if_pos]
        exact ⟨h0, hv⟩⟩
      rw [hv] at hc
      have HQ : Aside0 (Kd.R (Kd.int .i64) 3 (w.setCell ⟨gi, (wrap64 (x / 2)).toNat, none⟩ (.bool true)) w0.heap.size (fun _ => True) vq q) := ⟨by
        obtain ⟨inner, ho⟩ := Kd.R_own his
        obtain ⟨ci_, hci⟩ := own_typed ho gi (by simp [Value.ownBlock])
        exact Kd.R_mono (Kd.R_far (p := ⟨gi, (wrap64 (x / 2)).toNat, none⟩) (Kd.R_types hq hci (by decide)) (fun _ h => h.2) _) (fun _ h => h.1)⟩
      have HB : Aside0 (Below w0.heap.size w0 (w.setCell ⟨gi, (wrap64 (x / 2)).toNat, none⟩ (.bool true))) := ⟨hb.setCell (p := ⟨gi, _, none⟩) (H.out.gi_ge) _⟩
      have HK := Aside0.mk hk
      have HI := Aside0.mk his
      have HL := Aside0.mk hql
      have hi7' : (w.setCell ⟨gi, (wrap64 (x / 2)).toNat, none⟩ (.bool true)).cell? ⟨g, 7, none⟩ = some vq := by
        have hgi : g ≠ gi := by
          have := Kd.R_ne his hk (by decide)
          simpa [Value.ownBlock] using this
        exact (blk_cell (blk_far hk (p := ⟨gi, (wrap64 (x / 2)).toNat, none⟩) hgi (.bool true)) 7).trans rfl
      have HF : Aside0 (g ≠ gi) := ⟨by
        have := Kd.R_ne his hk (by decide)
        simpa [Value.ownBlock] using this⟩
      clear hk hq his hb hv hql hlen
      go_enter Try.func141, Try.ntmps141
      go_wp2_with ((with_reducible refine gate_builtin (b := .append) (xs := #[.tmp 30, .tmp 32]) rfl ?_); at_builtin; refine Kd.R_append (Kd.int .i64) (w0 := w0) w0.heap.size rfl (.tmp 30) (.tmp 32) 47 3 (.int .i64 0) 8 rfl Try.underlying47 xinfo3 rfl (by decide) (by omega) vq q (wrap64 (x / 2)) [.int .i64 (wrap64 (x / 2))] (fun _ => True) (fun _ => False) rfl (by first | (go_simp; done) | (go_simp; rfl)) ?aP (fun _ hk => hk.elim) ?aF ?aO ?aB ?aS ?aL ?_; (case aP => exact rfl); (case aB => exact HB.out); (case aF => exact (fun _ _ => trivial)); (case aO => exact HQ.out); (case aS => have := HB.out.size; exact this); (case aL => have := HL.out; omega); intro v1 w9 hR hbl hgr hat; obtain ⟨Av, cv, rfl⟩ := Kd.R_slice hR; have HA := Aside0.mk (ConeSt.added hge H.out.len HI.out HK.out HQ.out hR hbl hgr); have hi8 : w9.cell? ⟨g, 7, none⟩ = some vq := (blk_cell HA.out.2.1 7).trans rfl; have hf8 := blk_frozen HA.out.2.1 7; clear hR hbl hgr hat)
      go_end0
      exact ⟨rfl, by rw [R.out]; have h9 := HA.out.1; rw [List.length_append, List.length_singleton] at h9; exact h9, by have h9 := HA.out.2.2; rw [List.length_append, List.length_singleton] at h9; exact h9⟩
  · have h0b : decide (0 < wrap64 (x / 2)) = false := decide_eq_false h0
    have R : Aside0 (addP (xs, q) x = (xs, q)) := ⟨by
      unfold addP vOf
      rw [if_neg]
      rintro ⟨h2, _⟩
      exact h0 h2⟩
    clear hk hq his hb
    go_enter Try.func141, Try.ntmps141
    go_wp2
    go_end0
    exact ⟨rfl, by rw [R.out]; exact H.out, Others.refl _⟩
end Go.Proofs.Yteiiodlgdbiimaa.F
end
section
namespace Go.Proofs.Yteiiodlgdbiimaa.F
open Go.RowKit Go.Shelf Go.Proofs.YteiiodlgdbiimaaW.PrintWords Go.Proofs.YteiiodlgdbiimaaW.PrintLast Go.Proofs.YteiiodlgdbiimaaW.PrintMore
set_option linter.unusedVariables false
set_option linter.unusedSimpArgs false
def stepP (a0 : Int) (l1 : List S41) (l2 : List S68) (ever : Bool) (s : List Bool × List Int) (v : Int) : List Bool × List Int :=
  if 1 + a0 + (l1.length : Int) ≤ v then addP (addP s (rd_T68 l2 (v - (1 + a0 + (l1.length : Int)))).f0) (rd_T68 l2 (v - (1 + a0 + (l1.length : Int)))).f1
  else if a0 < v ∧ ever = true then addP s (rd_T41 l1 (v - 1 - a0)).f0 else s
def growP (a0 : Int) (l1 : List S41) (l2 : List S68) (ever : Bool) : Nat → List Bool × List Int → Nat → List Bool × List Int
  | 0, s, _ => s
  | k + 1, s, i => if i < s.2.length then growP a0 l1 l2 ever k (stepP a0 l1 l2 ever s (s.2.getD i 0)) (i + 1) else s
def addsP : List Int → List Bool × List Int → List Bool × List Int
  | [], s => s
  | x :: xs, s => addsP xs (addP s x)
structure Fine (a0 : Int) (l1 : List S41) (l2 : List S68) (n : Nat) : Prop where
  pos : 0 ≤ a0
  num : 1 + a0 + (l1.length : Int) + (l2.length : Int) = (n : Int)
  le : n ≤ 16385
  g : ∀ k, k < l2.length → vOf (rd_T68 l2 (k : Int)).f0 < (n : Int) ∧ vOf (rd_T68 l2 (k : Int)).f1 < (n : Int)
  l : ∀ k, k < l1.length → vOf (rd_T41 l1 (k : Int)).f0 < (n : Int)
structure Inv (n : Nat) (s : List Bool × List Int) : Prop where
  len : s.1.length = n
  q : ∀ v ∈ s.2, 0 < v ∧ v < (n : Int)
  cnt : s.2.length = s.1.count true
theorem Inv.le {n : Nat} {s : List Bool × List Int} (h : Inv n s) : s.2.length ≤ n := by
  rw [h.cnt, ← h.len]
  exact List.count_le_length
theorem count_set (xs : List Bool) (i : Nat) (h : i < xs.length) (hf : xs.getD i false = false) : (xs.set i true).count true = xs.count true + 1 := by
  induction xs generalizing i with
  | nil => simp at h
  | cons b xs ih =>
    cases i with
    | zero =>
      have : b = false := by simpa using hf
      subst this
      simp
    | succ i =>
      rw [List.set_cons_succ, List.count_cons, List.count_cons, ih i (by simpa using h) (by simpa using hf)]
      omega
theorem addP_len (s : List Bool × List Int) (x : Int) : s.2.length ≤ (addP s x).2.length := by
  unfold addP
  split
  · simp
  · exact Nat.le_refl _
theorem Inv.add {n : Nat} {s : List Bool × List Int} (h : Inv n s) (x : Int) (hx : vOf x < (n : Int)) : Inv n (addP s x) := by
  unfold addP
  split
  · rename_i hc
    refine ⟨by rw [List.length_set]; exact h.len, fun v hv => ?_, ?_⟩
    · rcases List.mem_append.1 hv with hv | hv
      · exact h.q v hv
      · rw [List.mem_singleton.1 hv]
        exact ⟨hc.1, hx⟩
    · rw [List.length_append, List.length_singleton, count_set _ _ (by rw [h.len]; omega) hc.2, h.cnt]
  · exact h
theorem Inv.step {a0 : Int} {l1 : List S41} {l2 : List S68} {ever : Bool} {n : Nat} {s : List Bool × List Int} (hf : Fine a0 l1 l2 n) (h : Inv n s) (v : Int) (hv : 0 < v ∧ v < (n : Int)) : Inv n (stepP a0 l1 l2 ever s v) := by
  have h0 := hf.pos
  have hn := hf.num
  unfold stepP
  split
  · rename_i hc
    have hg := hf.g (v - (1 + a0 + (l1.length : Int))).toNat (by omega)
    rw [Int.toNat_of_nonneg (by omega)] at hg
    exact (h.add _ hg.1).add _ hg.2
  · split
    · rename_i hc1 hc2
      have hl := hf.l (v - 1 - a0).toNat (by omega)
      rw [Int.toNat_of_nonneg (by omega)] at hl
      exact h.add _ hl
    · exact h
theorem Inv.start (n : Nat) : Inv n (List.replicate n false, []) := ⟨List.length_replicate, fun v hv => by simp at hv, by simp [List.count_replicate]⟩
end Go.Proofs.Yteiiodlgdbiimaa.F
end
section
namespace Go.Proofs.Yteiiodlgdbiimaa.F
open Go.RowKit Go.Shelf Go.Proofs.YteiiodlgdbiimaaW.PrintWords Go.Proofs.YteiiodlgdbiimaaW.PrintLast Go.Proofs.YteiiodlgdbiimaaW.PrintMore
set_option linter.unusedVariables false
set_option linter.unusedSimpArgs false
set_option maxHeartbeats 8000000 in
set_option maxRecDepth 100000 in
theorem grow142 (a0 : Int) (A1 : Option Addr) (c1 : Nat) (l1 : List S41) (A2 : Option Addr) (c2 : Nat) (l2 : List S68) (A3 : Option Addr) (c3 : Nat) (l3 : List Int) (A4 : Option Addr) (c4 : Nat) (l4 : List Int) (A5 : Option Addr) (c5 : Nat) (l5 : List Int) (ever : Bool) (w0 : World) (g gi ci n : Nat) (xs : List Bool) (q : List Int) (w : World) (hf : Fine a0 l1 l2 n) (hi : Inv n (xs, q))
    (hr1 : Kd.C k41 w0 A1 l1.length l1) (hr2 : Kd.C k68 w0 A2 l2.length l2)
    (h : ConeSt a0 A1 c1 l1 A2 c2 l2 A3 c3 l3 A4 c4 l4 A5 c5 l5 ever w0 g gi ci n xs q w) :
    Calls Try.prog 142 #[.pointer (some ⟨g, 0, none⟩)] w fun e w' => e = .returned (.tuple #[]) ∧ ConeSt a0 A1 c1 l1 A2 c2 l2 A3 c3 l3 A4 c4 l4 A5 c5 l5 ever w0 g gi ci n (growP a0 l1 l2 ever (n + 1) (xs, q) 0).1 [] w' := by
  have H := Aside0.mk h
  have HF := Aside0.mk hf
  have HI := Aside0.mk hi
  have H1 := Aside0.mk hr1
  have H2 := Aside0.mk hr2
  have hp := hf.pos
  have hn := hf.num
  have hle := hf.le
  obtain ⟨vq, hk, hq⟩ := h.st
  have z0 : w.cell? ⟨g, 0, none⟩ = some (.int .i64 a0) := (blk_cell hk 0).trans rfl; have z1 : w.cell? ⟨g, 1, none⟩ = some (.slice A1 l1.length c1) := (blk_cell hk 1).trans rfl; have z2 : w.cell? ⟨g, 2, none⟩ = some (.slice A2 l2.length c2) := (blk_cell hk 2).trans rfl; have z3 : w.cell? ⟨g, 3, none⟩ = some (.slice A3 l3.length c3) := (blk_cell hk 3).trans rfl; have z4 : w.cell? ⟨g, 4, none⟩ = some (.slice A4 l4.length c4) := (blk_cell hk 4).trans rfl; have z5 : w.cell? ⟨g, 5, none⟩ = some (.slice A5 l5.length c5) := (blk_cell hk 5).trans rfl; have z6 : w.cell? ⟨g, 6, none⟩ = some (.slice (some ⟨gi, 0, none⟩) n ci) := (blk_cell hk 6).trans rfl; have z7 : w.cell? ⟨g, 7, none⟩ = some (vq) := (blk_cell hk 7).trans rfl; have z8 : w.cell? ⟨g, 8, none⟩ = some (.bool ever) := (blk_cell hk 8).trans rfl; have f7 := blk_frozen hk 7
  clear h hf hi hr1 hr2 hk hq
  have hu150 := Try.underlying150
  have hu26 := Try.underlying26
  go_enter Try.func142, Try.ntmps142
  go_wp2
  go_quiet (fail)
  go_wp2
  clear z0 z1 z2 z3 z4 z5 z6 z7 z8 f7
  go_loopg [3] (n + 1) (fun gg v3 wr => ∃ (k : Nat) (ys : List Bool) (p : List Int), n + 1 - k ≤ gg ∧ v3 = .int .i64 k ∧ Aside0 (k ≤ p.length) ∧ Aside0 (ConeSt a0 A1 c1 l1 A2 c2 l2 A3 c3 l3 A4 c4 l4 A5 c5 l5 ever w0 g gi ci n ys p wr) ∧ Aside0 (Inv n (ys, p)) ∧ Aside0 (growP a0 l1 l2 ever (n + 1) (xs, q) 0 = growP a0 l1 l2 ever (n + 1 - k) (ys, p) k))
  case atStart => exact ⟨0, xs, q, by omega, rfl, ⟨Nat.zero_le _⟩, ⟨H.out.step (by repeat (first | exact Below.refl _ _ | apply below_drew1 | apply pw_below_drewN))⟩, HI, ⟨rfl⟩⟩
  case round =>
    clear H HI
    obtain ⟨k, ys, p, hg, rfl, HKP, H, HI, HG⟩ := hrel
    obtain ⟨vq, hk, hq⟩ := H.out.st
    obtain ⟨Aq, cq, rfl, hcq, hCq⟩ := Kd.R_reads hq
    have z0 : wr.cell? ⟨g, 0, none⟩ = some (.int .i64 a0) := (blk_cell hk 0).trans rfl
    have z1 : wr.cell? ⟨g, 1, none⟩ = some (.slice A1 l1.length c1) := (blk_cell hk 1).trans rfl
    have z2 : wr.cell? ⟨g, 2, none⟩ = some (.slice A2 l2.length c2) := (blk_cell hk 2).trans rfl
    have z3 : wr.cell? ⟨g, 3, none⟩ = some (.slice A3 l3.length c3) := (blk_cell hk 3).trans rfl
    have z4 : wr.cell? ⟨g, 4, none⟩ = some (.slice A4 l4.length c4) := (blk_cell hk 4).trans rfl
    have z5 : wr.cell? ⟨g, 5, none⟩ = some (.slice A5 l5.length c5) := (blk_cell hk 5).trans rfl
    have z6 : wr.cell? ⟨g, 6, none⟩ = some (.slice (some ⟨gi, 0, none⟩) n ci) := (blk_cell hk 6).trans rfl
    have z7 : wr.cell? ⟨g, 7, none⟩ = some (.slice Aq p.length cq) := (blk_cell hk 7).trans rfl
    have z8 : wr.cell? ⟨g, 8, none⟩ = some (.bool ever) := (blk_cell hk 8).trans rfl
    have f7 := blk_frozen hk 7
    have hpl : p.length ≤ n := HI.out.le
    have HKK := Aside0.mk hk
    have HQQ := Aside0.mk hq
    clear hk hq
    by_cases hlt : k < p.length
    · have hltz : (k : Int) < (p.length : Int) := by omega
      have hkn : k < 16385 := by omega
      obtain ⟨ad, e, xq⟩ := Kd.at_int hCq (k : Int) (by omega) hltz
      cases e
      have ek : (k : Int).toNat = k := by omega
      rw [ek] at xq
      clear ek
      have HV : Aside0 (0 < rd p k ∧ rd p k < (n : Int)) := ⟨HI.out.q _ (by simp [rd, List.getD_eq_getElem?_getD, List.getElem?_eq_getElem hlt])⟩
      have E : Aside0 (growP a0 l1 l2 ever (n + 1) (xs, q) 0 = growP a0 l1 l2 ever (n + 1 - (k + 1)) (stepP a0 l1 l2 ever (ys, p) (rd p k)) (k + 1)) := ⟨HG.out.trans (by
        obtain ⟨d, hd⟩ : ∃ d, n + 1 - k = d + 1 := ⟨n - k, by omega⟩
        rw [hd, growP, if_pos hlt, show n + 1 - (k + 1) = d by omega]
        rfl)⟩
      generalize rd p (k : Int) = v at xq HV E
      have hv0 := HV.out.1
      have hvn := HV.out.2
      clear HG hCq
      by_cases hc : 1 + a0 + (l1.length : Int) ≤ v
      · have hcb : decide (1 + a0 + (l1.length : Int) ≤ v) = true := decide_eq_true hc
        have hd0 : 0 ≤ v - (1 + a0 + (l1.length : Int)) := by omega
        have hd1 : v - (1 + a0 + (l1.length : Int)) < (l2.length : Int) := by omega
        obtain ⟨ad2, e, x0, x1⟩ := at_T68 (Kd.C_below H2.out H.out.below) (v - (1 + a0 + (l1.length : Int))) hd0 hd1
        cases e
        have hgs := HF.out.g (v - (1 + a0 + (l1.length : Int))).toNat (by omega)
        rw [Int.toNat_of_nonneg hd0] at hgs
        have E : Aside0 (growP a0 l1 l2 ever (n + 1) (xs, q) 0 = growP a0 l1 l2 ever (n + 1 - (k + 1)) (addP (addP (ys, p) (rd_T68 l2 (v - (1 + a0 + (l1.length : Int)))).f0) (rd_T68 l2 (v - (1 + a0 + (l1.length : Int)))).f1) (k + 1)) := ⟨E.out.trans (by unfold stepP; rw [if_pos hc])⟩
        generalize rd_T68 l2 (v - (1 + a0 + (l1.length : Int))) = y at x0 x1 hgs E
        have HGS := Aside0.mk hgs
        have HLE := Aside0.mk (show p.length ≤ 60000 by omega)
        have hxx := HI.out.add y.f0 hgs.1
        have HI2 := Aside0.mk hxx
        have HI3 := Aside0.mk (hxx.add y.f1 hgs.2)
        clear hgs hxx
        go_wp2_with ((with_reducible refine gate_dst (N := 5) rfl ?_); (try (refine gate_guard (by rfl) ?_; dsimp only)); refine box_event ?hg (N := 5) ?hd (cs := #[.int .u32 0, .int .u32 0]) (t := 68) ?hr ?_; (case hd => rfl); (case hg => rfl); (case hr => first | (go_simp; done) | (go_simp; rfl)); intro g7 hg_ w7 bk7 hb7; have ge7 := Aside0.mk (Nat.le_of_eq hg_.symm); clear hg_; have y0 : w7.cell? ⟨g7, 0, none⟩ = some (.int .u32 0) := (blk_cell bk7 0).trans rfl; have y1 : w7.cell? ⟨g7, 1, none⟩ = some (.int .u32 0) := (blk_cell bk7 1).trans rfl; have f7_0 := blk_frozen bk7 0; have f7_1 := blk_frozen bk7 1; have HC1 := Aside0.mk (And.intro (H.out.step ((hb7.setCell (p := ⟨g7, 0, none⟩) ge7.out (.int .u32 y.f0)).setCell (p := ⟨g7, 1, none⟩) ge7.out (.int .u32 y.f1))) (show ((w7.setCell ⟨g7, 0, none⟩ (.int .u32 y.f0)).setCell ⟨g7, 1, none⟩ (.int .u32 y.f1)).heap[g7]? = some (.cells #[.int .u32 y.f0, .int .u32 y.f1] 68 (0, 0)) from by simpa using blk_set (blk_set bk7 0 (.int .u32 y.f0)) 1 (.int .u32 y.f1))))
        refine (add141 a0 A1 c1 l1 (some ad2) c2 l2 A3 c3 l3 A4 c4 l4 A5 c5 l5 ever w0 g gi ci n ys p _ y.f0 HGS.out.1 HLE.out (HC1.out.1)).mono ?_
        rintro e w8 ⟨rfl, hs8, ho8⟩
        have HC8 := Aside0.mk hs8
        have hk8 := ho8 g7 _ _ HC1.out.2 (by decide) (by decide) (by decide)
        have y8_0 : w8.cell? ⟨g7, 0, none⟩ = some (.int .u32 y.f0) := (blk_cell hk8 0).trans rfl
        have y8_1 : w8.cell? ⟨g7, 1, none⟩ = some (.int .u32 y.f1) := (blk_cell hk8 1).trans rfl
        clear hs8 ho8 hk8
        go_wp2_with fail
        refine (add141 a0 A1 c1 l1 (some ad2) c2 l2 A3 c3 l3 A4 c4 l4 A5 c5 l5 ever w0 g gi ci n _ _ _ y.f1 HGS.out.2 (Nat.le_trans (HI2.out.le) (by omega)) HC8.out).mono ?_
        rintro e w9 ⟨rfl, hs9, _⟩
        have HC9 := Aside0.mk hs9
        clear hs9
        go_wp2
        go_roundg (n + 1 - (k + 1))
        case measure => omega
        case rel => exact ⟨k + 1, _, _, by omega, by go_num, ⟨by have h1 := addP_len (ys, p) y.f0; have h2 := addP_len (addP (ys, p) y.f0) y.f1; show k + 1 ≤ (addP (addP (ys, p) y.f0) y.f1).2.length; simp only at h1; omega⟩, HC9, HI3, E⟩
      · have hcb : decide (1 + a0 + (l1.length : Int) ≤ v) = false := decide_eq_false hc
        by_cases hd : a0 < v
        · have hdb : decide (a0 < v) = true := decide_eq_true hd
          cases ever with
          | true =>
            have hd0 : 0 ≤ v - 1 - a0 := by omega
            have hd1 : v - 1 - a0 < (l1.length : Int) := by omega
            obtain ⟨ad3, e, x0, x1⟩ := at_T41 (Kd.C_below H1.out H.out.below) (v - 1 - a0) hd0 hd1
            cases e
            have hgs := HF.out.l (v - 1 - a0).toNat (by omega)
            rw [Int.toNat_of_nonneg hd0] at hgs
            have E : Aside0 (growP a0 l1 l2 true (n + 1) (xs, q) 0 = growP a0 l1 l2 true (n + 1 - (k + 1)) (addP (ys, p) (rd_T41 l1 (v - 1 - a0)).f0) (k + 1)) := ⟨E.out.trans (by unfold stepP; rw [if_neg hc, if_pos ⟨hd, rfl⟩])⟩
            generalize rd_T41 l1 (v - 1 - a0) = y at x0 x1 hgs E
            have HGS := Aside0.mk hgs
            have HLE := Aside0.mk (show p.length ≤ 60000 by omega)
            have HI2 := Aside0.mk (HI.out.add y.f0 hgs)
            clear hgs
            go_wp2_with fail
            have es1 : IntKind.i64.wrap (v - 1) = v - 1 := IntWalk.i64_in _ (by omega)
            have es2 : IntKind.i64.wrap (v - 1 - a0) = v - 1 - a0 := IntWalk.i64_in _ (by omega)
            have es3 : a0 ≤ v - 1 := by omega
            go_still_tail 17, (by kernel_rfl)
            clear es1 es2 es3
            change wpList _ _ _ _ _ wr.drew
            go_wp2_with fail
            refine (add141 a0 (some ad3) c1 l1 A2 c2 l2 A3 c3 l3 A4 c4 l4 A5 c5 l5 true w0 g gi ci n ys p _ y.f0 HGS.out HLE.out (H.out.step (below_drew1 (Below.refl _ _)))).mono ?_
            rintro e w8 ⟨rfl, hs8, ho8⟩
            have HC8 := Aside0.mk hs8
            clear hs8 ho8
            go_wp2
            go_roundg (n + 1 - (k + 1))
            case measure => omega
            case rel => exact ⟨k + 1, _, _, by omega, by go_num, ⟨by have h1 := addP_len (ys, p) y.f0; simp only at h1; omega⟩, HC8, HI2, E⟩
          | false =>
            have E : Aside0 (growP a0 l1 l2 false (n + 1) (xs, q) 0 = growP a0 l1 l2 false (n + 1 - (k + 1)) (ys, p) (k + 1)) := ⟨E.out.trans (by unfold stepP; rw [if_neg hc, if_neg (fun h => by simp at h)])⟩
            go_wp2
            go_roundg (n + 1 - (k + 1))
            case measure => omega
            case rel => exact ⟨k + 1, _, _, by omega, by go_num, ⟨by omega⟩, H, HI, E⟩
        · have hdb : decide (a0 < v) = false := decide_eq_false hd
          have E : Aside0 (growP a0 l1 l2 ever (n + 1) (xs, q) 0 = growP a0 l1 l2 ever (n + 1 - (k + 1)) (ys, p) (k + 1)) := ⟨E.out.trans (by unfold stepP; rw [if_neg hc, if_neg (fun h => hd h.1)])⟩
          go_wp2
          go_roundg (n + 1 - (k + 1))
          case measure => omega
          case rel => exact ⟨k + 1, _, _, by omega, by go_num, ⟨by omega⟩, H, HI, E⟩
    · have hltz : ¬ (k : Int) < (p.length : Int) := by omega
      have E : Aside0 ((growP a0 l1 l2 ever (n + 1) (xs, q) 0).1 = ys) := ⟨by
        rw [HG.out]
        obtain ⟨d, hd⟩ : ∃ d, n + 1 - k = d + 1 := ⟨n - k, by have := HKP.out; omega⟩
        rw [hd, growP, if_neg hlt]⟩
      have hle : p.length ≤ k := by omega
      clear hlt
      go_wp2
      go_end0
      exact ⟨rfl, by rw [E.out]; exact H.out.cleared⟩
end Go.Proofs.Yteiiodlgdbiimaa.F
end
section
namespace Go.Proofs.Yteiiodlgdbiimaa.F
open Go.RowKit Go.Shelf Go.Proofs.YteiiodlgdbiimaaW.PrintWords Go.Proofs.YteiiodlgdbiimaaW.PrintLast Go.Proofs.YteiiodlgdbiimaaW.PrintMore
set_option linter.unusedVariables false
set_option linter.unusedSimpArgs false
def u32s (l : List Int) : Bool := l.all fun x => decide (0 ≤ x) && decide (x < 4294967296)
theorem u32s_mem {l : List Int} (h : u32s l = true) {x : Int} (hx : x ∈ l) : 0 ≤ x ∧ x < 4294967296 := by
  have := List.all_eq_true.1 h x hx
  simpa using this
def okIn (l1 : List S41) (l2 : List S68) : Bool := decide (l1.length ≤ 1099511627776) && decide (l2.length ≤ 1099511627776) && u32s (l1.map (·.f0)) && u32s (l2.map (·.f0)) && u32s (l2.map (·.f1))
theorem wrap64_id {x : Int} (h0 : -9223372036854775808 ≤ x) (h1 : x < 9223372036854775808) : wrap64 x = x := by unfold wrap64; omega
theorem u32_id {x : Int} (h0 : 0 ≤ x) (h1 : x < 4294967296) : IntKind.u32.wrap x = x := by
  simp [IntKind.wrap, IntKind.bits, IntKind.signed]
  omega
theorem vOf_u32 {x : Int} (h0 : 0 ≤ x) (h1 : x < 4294967296) : vOf x = x / 2 := by unfold vOf; rw [wrap64_id (by omega) (by omega)]
theorem gatesOk_at : ∀ (l : List S68) (o : Int), 0 ≤ o → o + (l.length : Int) < 4294967296 → gatesOk o l = true → ∀ k (h : k < l.length), l[k].f0 / 2 < o + 1 + (k : Int) ∧ l[k].f1 ≤ l[k].f0
  | [], o, _, _, _, k, h => by simp at h
  | x :: l, o, h0, h1, hg, k, h => by
    simp only [gatesOk, Bool.and_eq_true, Bool.not_eq_true', decide_eq_false_iff_not] at hg
    rw [List.length_cons] at h1
    rw [u32_id (by omega) (by omega)] at hg
    obtain ⟨⟨ha, hb⟩, hc⟩ := hg
    cases k with
    | zero => simp only [List.getElem_cons_zero]; omega
    | succ k =>
      have := gatesOk_at l (o + 1) (by omega) (by omega) hc k (by simpa using h)
      simp only [List.getElem_cons_succ]
      omega
structure Valid (a0 : Int) (l1 : List S41) (l2 : List S68) (l3 l4 l5 : List Int) : Prop where
  pos : 0 ≤ a0
  le : a0 + (l1.length : Int) + (l2.length : Int) ≤ 16384
  next : ∀ k (h : k < l1.length), 0 ≤ l1[k].f0 ∧ l1[k].f0 / 2 ≤ a0 + (l1.length : Int) + (l2.length : Int)
  reset : ∀ k (h : k < l1.length), l1[k].f1 ≤ 2
  gate : ∀ k (h : k < l2.length), 0 ≤ l2[k].f1 ∧ l2[k].f1 ≤ l2[k].f0 ∧ l2[k].f0 / 2 < a0 + (l1.length : Int) + 1 + (k : Int)
  outs : l3.length ≤ 1024 ∧ ∀ x ∈ l3, wrap64 (x / 2) ≤ a0 + (l1.length : Int) + (l2.length : Int)
  bads : l4.length ≤ 1024 ∧ ∀ x ∈ l4, wrap64 (x / 2) ≤ a0 + (l1.length : Int) + (l2.length : Int)
  cons : l5.length ≤ 1024 ∧ ∀ x ∈ l5, wrap64 (x / 2) ≤ a0 + (l1.length : Int) + (l2.length : Int)
theorem varsW_id {a0 : Int} {n m : Nat} (h0 : -9223372036854775808 ≤ a0) (h1 : a0 < 4611686018427387904) (hn : n ≤ 1099511627776) (hm : m ≤ 1099511627776) : varsW a0 n m = a0 + (n : Int) + (m : Int) := by
  unfold varsW
  rw [wrap64_id (x := a0 + (n : Int)) (by omega) (by omega), wrap64_id (by omega) (by omega)]
theorem listOk_iff {V : Int} {l : List Int} : listOk V l = true ↔ l.length ≤ 1024 ∧ ∀ x ∈ l, wrap64 (x / 2) ≤ V := by
  unfold listOk beyW
  simp only [Bool.and_eq_true, Bool.not_eq_true', decide_eq_false_iff_not, List.any_eq_false, decide_eq_true_eq]
  constructor
  · rintro ⟨h, k⟩
    exact ⟨by omega, fun x hx => by have := k x hx; omega⟩
  · rintro ⟨h, k⟩
    exact ⟨by omega, fun x hx => by have := k x hx; omega⟩
theorem valid_of_may {a0 : Int} {l1 : List S41} {l2 : List S68} {l3 l4 l5 : List Int} (hk : okIn l1 l2 = true) (h : mayB a0 l1 l2 l3 l4 l5 = true) : Valid a0 l1 l2 l3 l4 l5 ∧ varsW a0 l1.length l2.length = a0 + (l1.length : Int) + (l2.length : Int) := by
  simp only [okIn, Bool.and_eq_true, decide_eq_true_eq] at hk
  obtain ⟨⟨⟨⟨hn, hm⟩, h10⟩, h20⟩, h21⟩ := hk
  simp only [mayB, Bool.and_eq_true, Bool.not_eq_true', decide_eq_false_iff_not] at h
  obtain ⟨⟨⟨⟨⟨⟨⟨ha, hb⟩, hc⟩, hd⟩, he⟩, hf⟩, hg⟩, hi⟩ := h
  have hV := varsW_id (a0 := a0) (n := l1.length) (m := l2.length) (by omega) (by omega) hn hm
  rw [hV] at hc hd he hf hg
  rw [wrap64_id (by omega) (by omega), u32_id (by omega) (by omega)] at hi
  refine ⟨⟨by omega, by omega, fun k h => ?_, fun k h => ?_, fun k h => ?_, listOk_iff.1 hd, listOk_iff.1 he, listOk_iff.1 hf⟩, hV⟩
  · have h1 := List.all_eq_true.1 hg l1[k] (List.getElem_mem h)
    have h2 := u32s_mem h10 (List.mem_map_of_mem (List.getElem_mem h))
    simp only [latchOk, beyW, Bool.and_eq_true, Bool.not_eq_true', decide_eq_false_iff_not] at h1
    rw [wrap64_id (by omega) (by omega)] at h1
    omega
  · have h1 := List.all_eq_true.1 hg l1[k] (List.getElem_mem h)
    simp only [latchOk, beyW, Bool.and_eq_true, Bool.not_eq_true', decide_eq_false_iff_not] at h1
    omega
  · have h1 := gatesOk_at l2 _ (by omega) (by omega) hi k h
    have h2 := u32s_mem h21 (List.mem_map_of_mem (List.getElem_mem h))
    exact ⟨h2.1, h1.2, by omega⟩
theorem Valid.fine {a0 : Int} {l1 : List S41} {l2 : List S68} {l3 l4 l5 : List Int} (hk : okIn l1 l2 = true) (h : Valid a0 l1 l2 l3 l4 l5) : Fine a0 l1 l2 (a0 + (l1.length : Int) + (l2.length : Int) + 1).toNat := by
  simp only [okIn, Bool.and_eq_true, decide_eq_true_eq] at hk
  obtain ⟨⟨⟨⟨hn, hm⟩, h10⟩, h20⟩, h21⟩ := hk
  have h0 := h.pos
  have h1 := h.le
  refine ⟨h0, by omega, by omega, fun k hk => ?_, fun k hk => ?_⟩
  · have e : rd_T68 l2 (k : Int) = l2[k] := by simp [rd_T68, List.getD_eq_getElem?_getD, List.getElem?_eq_getElem hk]
    rw [e]
    have hg := h.gate k hk
    have h2 := u32s_mem h20 (List.mem_map_of_mem (List.getElem_mem hk))
    have h3 := u32s_mem h21 (List.mem_map_of_mem (List.getElem_mem hk))
    rw [vOf_u32 h2.1 h2.2, vOf_u32 h3.1 h3.2]
    omega
  · have e : rd_T41 l1 (k : Int) = l1[k] := by simp [rd_T41, List.getD_eq_getElem?_getD, List.getElem?_eq_getElem hk]
    rw [e]
    have hg := h.next k hk
    have h2 := u32s_mem h10 (List.mem_map_of_mem (List.getElem_mem hk))
    rw [vOf_u32 h2.1 h2.2]
    omega
end Go.Proofs.Yteiiodlgdbiimaa.F
end
section
namespace Go.Proofs.Yteiiodlgdbiimaa.F
open Go.RowKit Go.Shelf Go.Proofs.YteiiodlgdbiimaaW.PrintWords Go.Proofs.YteiiodlgdbiimaaW.PrintLast Go.Proofs.YteiiodlgdbiimaaW.PrintMore
set_option linter.unusedVariables false
set_option linter.unusedSimpArgs false
set_option maxHeartbeats 4000000 in
theorem of140 (V x : Int) (g : Nat) (w : World) (hb : w.heap[g]? = some (.cells #[.int .i64 V] 3 (0, 0))) :
    Calls Try.prog 140 #[.int .u32 x, .pointer (some ⟨g, 0, none⟩)] w fun e w' => e = .returned (.bool (beyW V x)) ∧ Below w.heap.size w w' := by
  have h0 : w.cell? ⟨g, 0, none⟩ = some (.int .i64 V) := (blk_cell hb 0).trans rfl
  clear hb
  go_enter Try.func140, Try.ntmps140
  go_wp2
  go_ret
  exact ⟨rfl, Below.refl _ _⟩
theorem any_range (p : Int → Bool) (l : List Int) : l.any p = (List.range l.length).any (fun j => p (l.getD j 0)) := by
  rw [Bool.eq_iff_iff, List.any_eq_true, List.any_eq_true]
  constructor
  · rintro ⟨x, hx, hp⟩
    obtain ⟨j, hj, rfl⟩ := List.mem_iff_getElem.1 hx
    exact ⟨j, List.mem_range.2 hj, by simpa [List.getD_eq_getElem?_getD, List.getElem?_eq_getElem hj] using hp⟩
  · rintro ⟨j, hj, hp⟩
    have hj' := List.mem_range.1 hj
    exact ⟨l[j], List.getElem_mem hj', by simpa [List.getD_eq_getElem?_getD, List.getElem?_eq_getElem hj'] using hp⟩
theorem ofAny (V : Int) (g : Nat) (W : World) (hb : W.heap[g]? = some (.cells #[.int .i64 V] 3 (0, 0))) (A : Option Addr) (c : Nat) (l : List Int) (hl : Kd.C (Kd.int .u32) W A l.length l) :
    Calls Try.prog 139 #[.slice A l.length c, .func (.func 140) #[] #[.pointer (some ⟨g, 0, none⟩)]] W fun e w' => e = .returned (.bool (l.any (beyW V))) ∧ Below W.heap.size W w' := by
  rw [any_range]
  refine contains177 140 #[.pointer (some ⟨g, 0, none⟩)] (enters_of Try.func140 (by kernel_rfl) rfl) (fun j => .int .u32 (l.getD j 0)) _ A l.length c W hl.2.1 (fun j hj => ?_) (fun j hj W' hb' => ?_)
  · obtain ⟨ad, e, hx⟩ := Kd.at_int hl (j : Int) (by omega) (by omega)
    exact ⟨ad, e, by simpa [rd] using hx⟩
  · exact of140 V _ g W' (blk_below hb hb')
def coneOf (a0 : Int) (l1 : List S41) (l2 : List S68) (lits : List Int) (ever : Bool) : List Bool :=
  (growP a0 l1 l2 ever ((a0 + (l1.length : Int) + (l2.length : Int) + 1).toNat + 1) (addsP lits (List.replicate (a0 + (l1.length : Int) + (l2.length : Int) + 1).toNat false, [])) 0).1
theorem reps_bools (m : Nat) : (madeCells #[Value.bool false] m).toList = encs Value.bool (List.replicate m false) := by
  apply List.ext_getElem
  · simp [encs, size_madeCells]
  · intro i h1 h2
    simp [encs, madeCells, Nat.mod_one]
theorem ConeSt.new {a0 : Int} {A1 : Option Addr} {c1 : Nat} {l1 : List S41} {A2 : Option Addr} {c2 : Nat} {l2 : List S68} {A3 : Option Addr} {c3 : Nat} {l3 : List Int} {A4 : Option Addr} {c4 : Nat} {l4 : List Int} {A5 : Option Addr} {c5 : Nat} {l5 : List Int} (ever : Bool) (w0 W : World) (n : Nat) (hn : n ≤ 1000000) (hB : Below w0.heap.size w0 W) :
    ConeSt a0 A1 c1 l1 A2 c2 l2 A3 c3 l3 A4 c4 l4 A5 c5 l5 ever w0 (W.heap.size + 1) W.heap.size n n (List.replicate n false) [] ((W.alloc (.cells (madeCells #[.bool false] n) 4)).alloc (.cells #[.int .i64 a0, .slice A1 l1.length c1, .slice A2 l2.length c2, .slice A3 l3.length c3, .slice A4 l4.length c4, .slice A5 l5.length c5, .slice (some ⟨W.heap.size, 0, none⟩) n n, .slice none 0 0, .bool ever] 150)) := by
  have ho : (W.alloc (.cells (madeCells #[.bool false] n) 4)).ownsRow w0.heap.size 4 1 (.slice (some ⟨W.heap.size, 0, none⟩) n n) n (encs Value.bool (List.replicate n false)) := by
    rw [← reps_bools]
    exact World.ownsRow_lit (base := w0.heap.size) (e := 4) (size := 1) W (madeCells #[.bool false] n) n hB.size (by simp only [maxLen]; omega) (by simp [size_madeCells])
  have hR : Kd.R Kd.bool 4 (W.alloc (.cells (madeCells #[.bool false] n) 4)) w0.heap.size (fun _ => True) (.slice (some ⟨W.heap.size, 0, none⟩) n n) (List.replicate n false) :=
    Kd.R_of_own (enc := Value.bool) (h1 := fun _ => rfl) (by rw [List.length_replicate]; exact ho) (fun _ _ => trivial)
  have hsz : (W.alloc (.cells (madeCells #[.bool false] n) 4)).heap.size = W.heap.size + 1 := by simp
  refine ⟨(hB.alloc hB.size _).alloc (by rw [hsz]; have := hB.size; omega) _, by have := hB.size; omega, List.length_replicate, Kd.R_below hR (below_alloc (Below.refl _ _) _), .slice none 0 0, ?_, Kd.R_nil _ _ _ _ _⟩
  rw [← hsz]
  exact blk_new _ _
def cone_of.f (a0_0 : Int) (l0_1 : List (S41)) (l0_2 : List (S68)) (l0_3 : List Int) (l0_4 : List Int) (l0_5 : List Int) (l1 : List Int) (a2 : Bool) : Option (List Bool × Int) :=
  if okIn l0_1 l0_2 = true ∧ u32s l1 = true then
    if mayB a0_0 l0_1 l0_2 l0_3 l0_4 l0_5 = true ∧ l1.any (beyW (varsW a0_0 l0_1.length l0_2.length)) = false then some (coneOf a0_0 l0_1 l0_2 l1 a2, 0) else some ([], 2)
  else none
set_option maxHeartbeats 8000000 in
set_option maxRecDepth 100000 in
theorem cone_of.calls (a0 : Int) (A1 : Option Addr) (c1 : Nat) (l1 : List S41) (A2 : Option Addr) (c2 : Nat) (l2 : List S68) (A3 : Option Addr) (c3 : Nat) (l3 : List Int) (A4 : Option Addr) (c4 : Nat) (l4 : List Int) (A5 : Option Addr) (c5 : Nat) (l5 : List Int) (AL : Option Addr) (cL : Nat) (ls : List Int) (ever : Bool) (r1 : List Bool) (r2 : Int) (w : World) (hr1 : Kd.C k41 w A1 l1.length l1) (hc1 : l1.length ≤ c1) (hr2 : Kd.C k68 w A2 l2.length l2) (hc2 : l2.length ≤ c2) (hr3 : Kd.C (Kd.int .u32) w A3 l3.length l3) (hc3 : l3.length ≤ c3) (hr4 : Kd.C (Kd.int .u32) w A4 l4.length l4) (hc4 : l4.length ≤ c4) (hr5 : Kd.C (Kd.int .u32) w A5 l5.length l5) (hc5 : l5.length ≤ c5) (hrL : Kd.C (Kd.int .u32) w AL ls.length ls) (hcL : ls.length ≤ cL)
    (h : cone_of.f a0 l1 l2 l3 l4 l5 ls ever = some (r1, r2)) :
    Calls Try.prog 90 #[.agg #[.int .i64 a0, .slice A1 l1.length c1, .slice A2 l2.length c2, .slice A3 l3.length c3, .slice A4 l4.length c4, .slice A5 l5.length c5], .slice AL ls.length cL, .bool ever] w fun e w' => ∃ v0_ : Value, e = .returned (.tuple #[v0_, .int .i64 r2]) ∧ Kd.R Kd.bool 4 w' w.heap.size (fun _ => True) v0_ r1 ∧ Below w.heap.size w w' := by
  have hu26 := Try.underlying26
  have hu150 := Try.underlying150
  have HMAY := Aside0.mk (fun W (h : MayAt a0 A1 c1 l1 A2 c2 l2 A3 c3 l3 A4 c4 l4 A5 c5 l5 w.heap.size w W) => norm_May.calls a0 A1 c1 l1 A2 c2 l2 A3 c3 l3 A4 c4 l4 A5 c5 l5 _ W h.h1 hc1 h.h2 hc2 h.h3 hc3 h.h4 hc4 h.h5 hc5 rfl)
  have HVARS := Aside0.mk (fun W (h : MayAt a0 A1 c1 l1 A2 c2 l2 A3 c3 l3 A4 c4 l4 A5 c5 l5 w.heap.size w W) => norm_Vars.calls a0 A1 c1 l1 A2 c2 l2 A3 c3 l3 A4 c4 l4 A5 c5 l5 (if mayB a0 l1 l2 l3 l4 l5 = true then varsW a0 l1.length l2.length else 0) W h.h1 hc1 h.h2 hc2 h.h3 hc3 h.h4 hc4 h.h5 hc5 (by
    simp only [norm_Vars.f, norm_May.f, norm_vars.f, Option.bind_some]
    split <;> rfl))
  have HL := Aside0.mk hrL
  have H0 := Aside0.mk (fun W (hb : Below w.heap.size w W) (hk : W.heap[w.heap.size]? = some (.cells #[.int .i64 a0, .slice A1 l1.length c1, .slice A2 l2.length c2, .slice A3 l3.length c3, .slice A4 l4.length c4, .slice A5 l5.length c5] 26 (0, 0))) => (⟨hb, hk, Kd.C_below hr1 hb, Kd.C_below hr2 hb, Kd.C_below hr3 hb, Kd.C_below hr4 hb, Kd.C_below hr5 hb⟩ : MayAt a0 A1 c1 l1 A2 c2 l2 A3 c3 l3 A4 c4 l4 A5 c5 l5 w.heap.size w W))
  have HRR := Aside0.mk (And.intro hr1 hr2)
  clear hr1 hr2 hr3 hr4 hr5 hrL
  unfold cone_of.f at h
  split at h
  case isFalse => cases h
  case isTrue hok =>
  obtain ⟨hok, hul⟩ := hok
  cases hm : mayB a0 l1 l2 l3 l4 l5 with
  | false =>
    rw [hm] at h HMAY HVARS
    rw [if_neg (by simp)] at HVARS
    rw [if_neg (by simp)] at h
    obtain ⟨rfl, rfl⟩ := Prod.mk.inj (Option.some.inj h)
    clear h hm hok hul HRR HL
    go_enter Try.func90, Try.ntmps90
    go_wp2_with (first | ((with_reducible refine gate_dst (N := 3) rfl ?_); (try (refine gate_guard (by rfl) ?_; dsimp only)); refine box_event ?hg (N := 3) ?hd (cs := #[.int .i64 a0, .slice A1 l1.length c1, .slice A2 l2.length c2, .slice A3 l3.length c3, .slice A4 l4.length c4, .slice A5 l5.length c5]) (t := 26) ?hr ?_; (case hd => rfl); (case hg => rfl); (case hr => first | (go_simp; done) | (go_simp; rfl)); intro g hg_ w1 BK HB; subst hg_; have z0 : w1.cell? ⟨w.heap.size, 0, none⟩ = some (.int .i64 a0) := (blk_cell BK 0).trans rfl; have z1 : w1.cell? ⟨w.heap.size, 1, none⟩ = some (.slice A1 l1.length c1) := (blk_cell BK 1).trans rfl; have z2 : w1.cell? ⟨w.heap.size, 2, none⟩ = some (.slice A2 l2.length c2) := (blk_cell BK 2).trans rfl; have z3 : w1.cell? ⟨w.heap.size, 3, none⟩ = some (.slice A3 l3.length c3) := (blk_cell BK 3).trans rfl; have z4 : w1.cell? ⟨w.heap.size, 4, none⟩ = some (.slice A4 l4.length c4) := (blk_cell BK 4).trans rfl; have z5 : w1.cell? ⟨w.heap.size, 5, none⟩ = some (.slice A5 l5.length c5) := (blk_cell BK 5).trans rfl; have HM := Aside0.mk (H0.out _ HB BK)) | (go_at_call 101; refine (HVARS.out _ HM.out).mono ?_; rintro e w2 ⟨rfl, hb2⟩; have HM2 := Aside0.mk (HM.out.step hb2); clear z0 z1 z2 z3 z4 z5 BK HB hb2) | ((with_reducible refine gate_dst (N := 8) rfl ?_); (try (refine gate_guard (by rfl) ?_; dsimp only)); refine box_event ?hg (N := 8) ?hd (cs := #[.int .i64 0]) (t := 3) ?hr ?_; (case hd => rfl); (case hg => rfl); (case hr => first | (go_simp; done) | (go_simp; rfl)); intro g8 hg_ w3 bk3 hb3; have ge8 := Aside0.mk (Nat.le_of_eq hg_.symm); clear hg_; have y8 : w3.cell? ⟨g8, 0, none⟩ = some (.int .i64 0) := (blk_cell bk3 0).trans rfl; have f8 := blk_frozen bk3 0; have BK8 := Aside0.mk (show (w3.setCell ⟨g8, 0, none⟩ (.int .i64 0)).heap[g8]? = some (.cells #[.int .i64 0] 3 (0, 0)) from by simpa using blk_set bk3 0 (.int .i64 0)); have HM3 := Aside0.mk (HM2.out.step (hb3.setCell (p := ⟨g8, 0, none⟩) ge8.out (.int .i64 0))); have z0 : (w3.setCell ⟨g8, 0, none⟩ (.int .i64 _)).cell? ⟨w.heap.size, 0, none⟩ = some (.int .i64 a0) := (blk_cell HM3.out.blk 0).trans rfl; have z1 : (w3.setCell ⟨g8, 0, none⟩ (.int .i64 _)).cell? ⟨w.heap.size, 1, none⟩ = some (.slice A1 l1.length c1) := (blk_cell HM3.out.blk 1).trans rfl; have z2 : (w3.setCell ⟨g8, 0, none⟩ (.int .i64 _)).cell? ⟨w.heap.size, 2, none⟩ = some (.slice A2 l2.length c2) := (blk_cell HM3.out.blk 2).trans rfl; have z3 : (w3.setCell ⟨g8, 0, none⟩ (.int .i64 _)).cell? ⟨w.heap.size, 3, none⟩ = some (.slice A3 l3.length c3) := (blk_cell HM3.out.blk 3).trans rfl; have z4 : (w3.setCell ⟨g8, 0, none⟩ (.int .i64 _)).cell? ⟨w.heap.size, 4, none⟩ = some (.slice A4 l4.length c4) := (blk_cell HM3.out.blk 4).trans rfl; have z5 : (w3.setCell ⟨g8, 0, none⟩ (.int .i64 _)).cell? ⟨w.heap.size, 5, none⟩ = some (.slice A5 l5.length c5) := (blk_cell HM3.out.blk 5).trans rfl) | (go_at_call 92; refine (HMAY.out _ HM3.out).mono ?_; rintro e w4 ⟨rfl, hb4⟩; have HM4 := Aside0.mk (HM3.out.step hb4); have BK84 := Aside0.mk (blk_below BK8.out hb4)))
    go_ret2
    exact ⟨_, rfl, Kd.R_nil _ _ _ _ _, HM4.out.below⟩
  | true =>
    rw [hm] at h HMAY HVARS
    rw [if_pos rfl] at HVARS
    obtain ⟨HVA, hV⟩ := valid_of_may hok hm
    rw [hV] at h HVARS
    generalize hVV : a0 + (l1.length : Int) + (l2.length : Int) = V at h HVARS
    cases ha : ls.any (beyW V) with
    | true =>
      rw [ha] at h
      rw [if_neg (by simp)] at h
      obtain ⟨rfl, rfl⟩ := Prod.mk.inj (Option.some.inj h)
      have HA := Aside0.mk (fun (g : Nat) (W : World) hb hl => by have := ofAny V g W hb AL cL ls hl; rw [ha] at this; exact this)
      clear h hm hok hul HRR ha hV hVV HVA
      go_enter Try.func90, Try.ntmps90
      go_wp2_with (first | ((with_reducible refine gate_dst (N := 3) rfl ?_); (try (refine gate_guard (by rfl) ?_; dsimp only)); refine box_event ?hg (N := 3) ?hd (cs := #[.int .i64 a0, .slice A1 l1.length c1, .slice A2 l2.length c2, .slice A3 l3.length c3, .slice A4 l4.length c4, .slice A5 l5.length c5]) (t := 26) ?hr ?_; (case hd => rfl); (case hg => rfl); (case hr => first | (go_simp; done) | (go_simp; rfl)); intro g hg_ w1 BK HB; subst hg_; have z0 : w1.cell? ⟨w.heap.size, 0, none⟩ = some (.int .i64 a0) := (blk_cell BK 0).trans rfl; have z1 : w1.cell? ⟨w.heap.size, 1, none⟩ = some (.slice A1 l1.length c1) := (blk_cell BK 1).trans rfl; have z2 : w1.cell? ⟨w.heap.size, 2, none⟩ = some (.slice A2 l2.length c2) := (blk_cell BK 2).trans rfl; have z3 : w1.cell? ⟨w.heap.size, 3, none⟩ = some (.slice A3 l3.length c3) := (blk_cell BK 3).trans rfl; have z4 : w1.cell? ⟨w.heap.size, 4, none⟩ = some (.slice A4 l4.length c4) := (blk_cell BK 4).trans rfl; have z5 : w1.cell? ⟨w.heap.size, 5, none⟩ = some (.slice A5 l5.length c5) := (blk_cell BK 5).trans rfl; have HM := Aside0.mk (H0.out _ HB BK)) | (go_at_call 101; refine (HVARS.out _ HM.out).mono ?_; rintro e w2 ⟨rfl, hb2⟩; have HM2 := Aside0.mk (HM.out.step hb2); clear z0 z1 z2 z3 z4 z5 BK HB hb2) | ((with_reducible refine gate_dst (N := 8) rfl ?_); (try (refine gate_guard (by rfl) ?_; dsimp only)); refine box_event ?hg (N := 8) ?hd (cs := #[.int .i64 0]) (t := 3) ?hr ?_; (case hd => rfl); (case hg => rfl); (case hr => first | (go_simp; done) | (go_simp; rfl)); intro g8 hg_ w3 bk3 hb3; have ge8 := Aside0.mk (Nat.le_of_eq hg_.symm); clear hg_; have y8 : w3.cell? ⟨g8, 0, none⟩ = some (.int .i64 0) := (blk_cell bk3 0).trans rfl; have f8 := blk_frozen bk3 0; have BK8 := Aside0.mk (show (w3.setCell ⟨g8, 0, none⟩ (.int .i64 V)).heap[g8]? = some (.cells #[.int .i64 V] 3 (0, 0)) from by simpa using blk_set bk3 0 (.int .i64 V)); have HM3 := Aside0.mk (HM2.out.step (hb3.setCell (p := ⟨g8, 0, none⟩) ge8.out (.int .i64 V))); have z0 : (w3.setCell ⟨g8, 0, none⟩ (.int .i64 _)).cell? ⟨w.heap.size, 0, none⟩ = some (.int .i64 a0) := (blk_cell HM3.out.blk 0).trans rfl; have z1 : (w3.setCell ⟨g8, 0, none⟩ (.int .i64 _)).cell? ⟨w.heap.size, 1, none⟩ = some (.slice A1 l1.length c1) := (blk_cell HM3.out.blk 1).trans rfl; have z2 : (w3.setCell ⟨g8, 0, none⟩ (.int .i64 _)).cell? ⟨w.heap.size, 2, none⟩ = some (.slice A2 l2.length c2) := (blk_cell HM3.out.blk 2).trans rfl; have z3 : (w3.setCell ⟨g8, 0, none⟩ (.int .i64 _)).cell? ⟨w.heap.size, 3, none⟩ = some (.slice A3 l3.length c3) := (blk_cell HM3.out.blk 3).trans rfl; have z4 : (w3.setCell ⟨g8, 0, none⟩ (.int .i64 _)).cell? ⟨w.heap.size, 4, none⟩ = some (.slice A4 l4.length c4) := (blk_cell HM3.out.blk 4).trans rfl; have z5 : (w3.setCell ⟨g8, 0, none⟩ (.int .i64 _)).cell? ⟨w.heap.size, 5, none⟩ = some (.slice A5 l5.length c5) := (blk_cell HM3.out.blk 5).trans rfl) | (go_at_call 92; refine (HMAY.out _ HM3.out).mono ?_; rintro e w4 ⟨rfl, hb4⟩; have HM4 := Aside0.mk (HM3.out.step hb4); have BK84 := Aside0.mk (blk_below BK8.out hb4)) | (go_at_call 139; refine (HA.out g8 _ BK84.out (Kd.C_below HL.out HM4.out.below)).mono ?_; rintro e w5 ⟨rfl, hb5⟩))
      go_ret2
      exact ⟨_, rfl, Kd.R_nil _ _ _ _ _, below_step HM4.out.below hb5⟩
    | false =>
      rw [ha] at h
      rw [if_pos ⟨rfl, rfl⟩] at h
      obtain ⟨rfl, rfl⟩ := Prod.mk.inj (Option.some.inj h)
      have HA := Aside0.mk (fun (g : Nat) (W : World) hb hl => by have := ofAny V g W hb AL cL ls hl; rw [ha] at this; exact this)
      obtain ⟨m, rfl⟩ := Int.eq_ofNat_of_zero_le (show 0 ≤ V by have := HVA.pos; omega)
      have HF := Aside0.mk (HVA.fine hok)
      have HVB := Aside0.mk HVA
      have hm16 : m ≤ 16384 := by have := HVA.le; omega
      have HLB : Aside0 (∀ x ∈ ls, vOf x < ((m + 1 : Nat) : Int)) := ⟨fun x hx => by
        have h1 := List.any_eq_false.1 ha x hx
        simp only [beyW, decide_eq_true_eq] at h1
        unfold vOf
        omega⟩
      have HVV := Aside0.mk hVV
      clear h hm hok hul ha hV hVV HVA
      have hmk : ∀ W : World, (Instr.makeSlice 33 (.int .i64 ((m : Int) + 1)) (.int .i64 ((m : Int) + 1))).run Try.prog W = .ok (.slice (some ⟨W.heap.size, 0, none⟩) (m + 1) (m + 1)) (W.alloc (.cells (madeCells #[.bool false] (m + 1)) 4)) := fun W => by
        have e := run_make_row' (P := Try.prog) 33 4 (.bool false) 1 Try.underlying33 xinfo4 rfl .i64 .i64 (m + 1) (by omega) (by omega) W
        simpa using e
      have es : IntKind.i64.wrap ((m : Int) + 1) = (m : Int) + 1 := IntWalk.i64_in _ (by omega)
      go_enter Try.func90, Try.ntmps90
      go_wp2_with (first | ((with_reducible refine gate_dst (N := 3) rfl ?_); (try (refine gate_guard (by rfl) ?_; dsimp only)); refine box_event ?hg (N := 3) ?hd (cs := #[.int .i64 a0, .slice A1 l1.length c1, .slice A2 l2.length c2, .slice A3 l3.length c3, .slice A4 l4.length c4, .slice A5 l5.length c5]) (t := 26) ?hr ?_; (case hd => rfl); (case hg => rfl); (case hr => first | (go_simp; done) | (go_simp; rfl)); intro g hg_ w1 BK HB; subst hg_; have z0 : w1.cell? ⟨w.heap.size, 0, none⟩ = some (.int .i64 a0) := (blk_cell BK 0).trans rfl; have z1 : w1.cell? ⟨w.heap.size, 1, none⟩ = some (.slice A1 l1.length c1) := (blk_cell BK 1).trans rfl; have z2 : w1.cell? ⟨w.heap.size, 2, none⟩ = some (.slice A2 l2.length c2) := (blk_cell BK 2).trans rfl; have z3 : w1.cell? ⟨w.heap.size, 3, none⟩ = some (.slice A3 l3.length c3) := (blk_cell BK 3).trans rfl; have z4 : w1.cell? ⟨w.heap.size, 4, none⟩ = some (.slice A4 l4.length c4) := (blk_cell BK 4).trans rfl; have z5 : w1.cell? ⟨w.heap.size, 5, none⟩ = some (.slice A5 l5.length c5) := (blk_cell BK 5).trans rfl; have HM := Aside0.mk (H0.out _ HB BK)) | (go_at_call 101; refine (HVARS.out _ HM.out).mono ?_; rintro e w2 ⟨rfl, hb2⟩; have HM2 := Aside0.mk (HM.out.step hb2); clear z0 z1 z2 z3 z4 z5 BK HB hb2) | ((with_reducible refine gate_dst (N := 8) rfl ?_); (try (refine gate_guard (by rfl) ?_; dsimp only)); refine box_event ?hg (N := 8) ?hd (cs := #[.int .i64 0]) (t := 3) ?hr ?_; (case hd => rfl); (case hg => rfl); (case hr => first | (go_simp; done) | (go_simp; rfl)); intro g8 hg_ w3 bk3 hb3; have ge8 := Aside0.mk (Nat.le_of_eq hg_.symm); clear hg_; have y8 : w3.cell? ⟨g8, 0, none⟩ = some (.int .i64 0) := (blk_cell bk3 0).trans rfl; have f8 := blk_frozen bk3 0; have BK8 := Aside0.mk (show (w3.setCell ⟨g8, 0, none⟩ (.int .i64 m)).heap[g8]? = some (.cells #[.int .i64 m] 3 (0, 0)) from by simpa using blk_set bk3 0 (.int .i64 m)); have HM3 := Aside0.mk (HM2.out.step (hb3.setCell (p := ⟨g8, 0, none⟩) ge8.out (.int .i64 m))); have z0 : (w3.setCell ⟨g8, 0, none⟩ (.int .i64 _)).cell? ⟨w.heap.size, 0, none⟩ = some (.int .i64 a0) := (blk_cell HM3.out.blk 0).trans rfl; have z1 : (w3.setCell ⟨g8, 0, none⟩ (.int .i64 _)).cell? ⟨w.heap.size, 1, none⟩ = some (.slice A1 l1.length c1) := (blk_cell HM3.out.blk 1).trans rfl; have z2 : (w3.setCell ⟨g8, 0, none⟩ (.int .i64 _)).cell? ⟨w.heap.size, 2, none⟩ = some (.slice A2 l2.length c2) := (blk_cell HM3.out.blk 2).trans rfl; have z3 : (w3.setCell ⟨g8, 0, none⟩ (.int .i64 _)).cell? ⟨w.heap.size, 3, none⟩ = some (.slice A3 l3.length c3) := (blk_cell HM3.out.blk 3).trans rfl; have z4 : (w3.setCell ⟨g8, 0, none⟩ (.int .i64 _)).cell? ⟨w.heap.size, 4, none⟩ = some (.slice A4 l4.length c4) := (blk_cell HM3.out.blk 4).trans rfl; have z5 : (w3.setCell ⟨g8, 0, none⟩ (.int .i64 _)).cell? ⟨w.heap.size, 5, none⟩ = some (.slice A5 l5.length c5) := (blk_cell HM3.out.blk 5).trans rfl) | (go_at_call 92; refine (HMAY.out _ HM3.out).mono ?_; rintro e w4 ⟨rfl, hb4⟩; have HM4 := Aside0.mk (HM3.out.step hb4); have BK84 := Aside0.mk (blk_below BK8.out hb4)) | (go_at_call 139; refine (HA.out g8 _ BK84.out (Kd.C_below HL.out HM4.out.below)).mono ?_; rintro e w5 ⟨rfl, hb5⟩; have HM5 := Aside0.mk (HM4.out.step hb5); have BK85 := Aside0.mk (blk_below BK84.out hb5); clear z0 z1 z2 z3 z4 z5 hb5 y8 f8; have z0 : w5.cell? ⟨w.heap.size, 0, none⟩ = some (.int .i64 a0) := (blk_cell HM5.out.blk 0).trans rfl; have z1 : w5.cell? ⟨w.heap.size, 1, none⟩ = some (.slice A1 l1.length c1) := (blk_cell HM5.out.blk 1).trans rfl; have z2 : w5.cell? ⟨w.heap.size, 2, none⟩ = some (.slice A2 l2.length c2) := (blk_cell HM5.out.blk 2).trans rfl; have z3 : w5.cell? ⟨w.heap.size, 3, none⟩ = some (.slice A3 l3.length c3) := (blk_cell HM5.out.blk 3).trans rfl; have z4 : w5.cell? ⟨w.heap.size, 4, none⟩ = some (.slice A4 l4.length c4) := (blk_cell HM5.out.blk 4).trans rfl; have z5 : w5.cell? ⟨w.heap.size, 5, none⟩ = some (.slice A5 l5.length c5) := (blk_cell HM5.out.blk 5).trans rfl; have y8 : w5.cell? ⟨g8, 0, none⟩ = some (.int .i64 m) := (blk_cell BK85.out 0).trans rfl))
      have zz0 : (w5.alloc (.cells (madeCells #[.bool false] (m + 1)) 4)).cell? ⟨w.heap.size, 0, none⟩ = some (.int .i64 a0) := pw_cell_below (below_alloc (Below.refl _ _) _) z0
      have zz1 : (w5.alloc (.cells (madeCells #[.bool false] (m + 1)) 4)).cell? ⟨w.heap.size, 1, none⟩ = some (.slice A1 l1.length c1) := pw_cell_below (below_alloc (Below.refl _ _) _) z1
      have zz2 : (w5.alloc (.cells (madeCells #[.bool false] (m + 1)) 4)).cell? ⟨w.heap.size, 2, none⟩ = some (.slice A2 l2.length c2) := pw_cell_below (below_alloc (Below.refl _ _) _) z2
      have zz3 : (w5.alloc (.cells (madeCells #[.bool false] (m + 1)) 4)).cell? ⟨w.heap.size, 3, none⟩ = some (.slice A3 l3.length c3) := pw_cell_below (below_alloc (Below.refl _ _) _) z3
      have zz4 : (w5.alloc (.cells (madeCells #[.bool false] (m + 1)) 4)).cell? ⟨w.heap.size, 4, none⟩ = some (.slice A4 l4.length c4) := pw_cell_below (below_alloc (Below.refl _ _) _) z4
      have zz5 : (w5.alloc (.cells (madeCells #[.bool false] (m + 1)) 4)).cell? ⟨w.heap.size, 5, none⟩ = some (.slice A5 l5.length c5) := pw_cell_below (below_alloc (Below.refl _ _) _) z5
      have yy8 : (w5.alloc (.cells (madeCells #[.bool false] (m + 1)) 4)).cell? ⟨g8, 0, none⟩ = some (.int .i64 m) := pw_cell_below (below_alloc (Below.refl _ _) _) y8
      go_region
      clear zz0 zz1 zz2 zz3 zz4 zz5 yy8 z0 z1 z2 z3 z4 z5 y8 es hmk
      go_wp2
      have HN := Aside0.mk (ConeSt.new (a0 := a0) (A1 := A1) (c1 := c1) (l1 := l1) (A2 := A2) (c2 := c2) (l2 := l2) (A3 := A3) (c3 := c3) (l3 := l3) (A4 := A4) (c4 := c4) (l4 := l4) (A5 := A5) (c5 := c5) (l5 := l5) ever w w5 (m + 1) (by omega) HM5.out.below)
      have hnn : (a0 + (l1.length : Int) + (l2.length : Int) + 1).toNat = m + 1 := by have := HVV.out; omega
      have HFN := Aside0.mk (show Fine a0 l1 l2 (m + 1) from by rw [← hnn]; exact HF.out)
      have HRES := Aside0.mk (show coneOf a0 l1 l2 ls ever = (growP a0 l1 l2 ever (m + 1 + 1) (addsP ls (List.replicate (m + 1) false, [])) 0).1 from by unfold coneOf; rw [hnn])
      clear hnn HF BK8 BK84 BK85 HM HM2 HM3 HM4
      go_loopg [31] ls.length (fun gg v31 wr => ∃ (k : Nat) (ys : List Bool) (p : List Int), ls.length - k ≤ gg ∧ v31 = .int .i64 k ∧ Aside0 (k ≤ ls.length) ∧ Aside0 (ConeSt a0 A1 c1 l1 A2 c2 l2 A3 c3 l3 A4 c4 l4 A5 c5 l5 ever w (w5.heap.size + 1) w5.heap.size (m + 1) (m + 1) ys p wr) ∧ Aside0 (Inv (m + 1) (ys, p)) ∧ Aside0 (addsP ls (List.replicate (m + 1) false, []) = addsP (ls.drop k) (ys, p)))
      case atStart => exact ⟨0, _, _, by omega, rfl, ⟨Nat.zero_le _⟩, ⟨HN.out.step (by repeat (first | exact Below.refl _ _ | apply below_drew1 | apply pw_below_drewN))⟩, ⟨Inv.start _⟩, ⟨rfl⟩⟩
      case round =>
        clear HN
        obtain ⟨k, ys, p, hg, rfl, HKP, HS, HI, HG⟩ := hrel
        have hln := HL.out.2.1
        by_cases hlt : k < ls.length
        · have hltz : (k : Int) < (ls.length : Int) := by omega
          obtain ⟨ad, e, xq⟩ := Kd.at_int (Kd.C_below HL.out HS.out.below) (k : Int) (by omega) hltz
          cases e
          have ek : (k : Int).toNat = k := by omega
          rw [ek] at xq
          clear ek
          have hx : vOf (rd ls k) < ((m + 1 : Nat) : Int) := HLB.out _ (by simp [rd, List.getD_eq_getElem?_getD, List.getElem?_eq_getElem hlt])
          have E : Aside0 (addsP ls (List.replicate (m + 1) false, []) = addsP (ls.drop (k + 1)) (addP (ys, p) (rd ls k))) := ⟨HG.out.trans (by rw [List.drop_eq_getElem_cons hlt, addsP]; simp [rd, List.getD_eq_getElem?_getD, List.getElem?_eq_getElem hlt])⟩
          generalize rd ls (k : Int) = x at xq hx E
          have HX := Aside0.mk hx
          have HLE := Aside0.mk (show p.length ≤ 60000 by have : p.length ≤ m + 1 := HI.out.le; omega)
          have HI2 := Aside0.mk (HI.out.add x hx)
          clear hx HG
          go_wp2_with fail
          refine (add141 a0 A1 c1 l1 A2 c2 l2 A3 c3 l3 A4 c4 l4 A5 c5 l5 ever w (w5.heap.size + 1) w5.heap.size (m + 1) (m + 1) ys p _ x HX.out HLE.out HS.out).mono ?_
          rintro e w8 ⟨rfl, hs8, ho8⟩
          have HC8 := Aside0.mk hs8
          clear hs8 ho8
          go_wp2
          go_roundg (ls.length - (k + 1))
          case measure => omega
          case rel => exact ⟨k + 1, _, _, by omega, by go_num, ⟨by omega⟩, HC8, HI2, E⟩
        · have hltz : ¬ (k : Int) < (ls.length : Int) := by omega
          have E : Aside0 (addsP ls (List.replicate (m + 1) false, []) = (ys, p)) := ⟨HG.out.trans (by rw [List.drop_eq_nil_of_le (by omega)]; rfl)⟩
          go_wp2_with fail
          refine (grow142 a0 A1 c1 l1 A2 c2 l2 A3 c3 l3 A4 c4 l4 A5 c5 l5 ever w (w5.heap.size + 1) w5.heap.size (m + 1) (m + 1) ys p _ HFN.out HI.out HRR.out.1 HRR.out.2 HS.out).mono ?_
          rintro e w8 ⟨rfl, hs8⟩
          obtain ⟨vq, hk, hq⟩ := hs8.st
          have z6 : w8.cell? ⟨w5.heap.size + 1, 6, none⟩ = some (.slice (some ⟨w5.heap.size, 0, none⟩) (m + 1) (m + 1)) := (blk_cell hk 6).trans rfl
          have HC8 := Aside0.mk hs8
          clear hs8 hk hq
          go_wp2
          go_ret2
          exact ⟨_, rfl, by rw [HRES.out, E.out]; exact HC8.out.is, HC8.out.below⟩
end Go.Proofs.Yteiiodlgdbiimaa.F
end
section
namespace Go.Proofs.Yteiiodlgdbiimaa.F
open Go.RowKit Go.Shelf Go.Proofs.YteiiodlgdbiimaaW.PrintWords Go.Proofs.YteiiodlgdbiimaaW.PrintLast Go.Proofs.YteiiodlgdbiimaaW.PrintMore
set_option linter.unusedVariables false
set_option linter.unusedSimpArgs false
inductive Lay (vals : Nat → List Bool) : List Nat → (Nat → List Bool) → Prop
  | nil : Lay vals [] (fun _ => [])
  | snoc {ps : List Nat} {rows : Nat → List Bool} (p : Nat) : Lay vals ps rows → Lay vals (ps ++ [p]) (fun j => if j = p then vals ps.length else rows j)
theorem Lay.inv {vals : Nat → List Bool} {ps : List Nat} {p : Nat} {rows : Nat → List Bool} (h : Lay vals (ps ++ [p]) rows) : ∃ r0, Lay vals ps r0 ∧ rows = fun j => if j = p then vals ps.length else r0 j := by
  generalize e : ps ++ [p] = q at h
  cases h with
  | nil => simp at e
  | snoc p' h' =>
    obtain ⟨rfl, e2⟩ := List.append_inj' e rfl
    cases e2
    exact ⟨_, h', rfl⟩
theorem Lay.at_ {vals : Nat → List Bool} {n : Nat} : ∀ (k : Nat) (rows : Nat → List Bool), k ≤ n → Lay vals (backPlaces n k) rows → ∀ j, n - k ≤ j → j < n → rows j = vals (n - 1 - j)
  | 0, rows, hk, h, j, hj, hn => by omega
  | k + 1, rows, hk, h, j, hj, hn => by
    rw [backPlaces_succ] at h
    obtain ⟨r0, h0, rfl⟩ := h.inv
    rw [backPlaces_length]
    by_cases e : j = n - 1 - k
    · simp only [e, if_true]
      congr 1
      omega
    · simp only [e, if_false]
      exact Lay.at_ k r0 (by omega) h0 j (by omega) hn
def nextsTo (a0 : Int) (row : List Bool) (l1 : List S41) : Nat → List Int
  | 0 => []
  | k + 1 => if rdOf false row (1 + a0 + (k : Int)) = true then nextsTo a0 row l1 k ++ [(rd_T41 l1 (k : Int)).f0] else nextsTo a0 row l1 k
def litsAt (a0 : Int) (l1 : List S41) (l2 : List S68) (l4 l5 : List Int) (bad : Int) : Nat → List Int
  | 0 => [rd l4 bad]
  | k + 1 => nextsTo a0 (coneOf a0 l1 l2 (litsAt a0 l1 l2 l4 l5 bad k ++ l5) false) l1 l1.length
def rowAt (a0 : Int) (l1 : List S41) (l2 : List S68) (l4 l5 : List Int) (bad : Int) (k : Nat) : List Bool := coneOf a0 l1 l2 (litsAt a0 l1 l2 l4 l5 bad k ++ l5) false
def cone_Frames.f (a0_0 : Int) (l0_1 : List (S41)) (l0_2 : List (S68)) (l0_3 : List Int) (l0_4 : List Int) (l0_5 : List Int) (a1 : Int) (a2 : Int) : Option ((List (List Bool)) × Int) :=
  if okIn l0_1 l0_2 = true ∧ u32s l0_4 = true ∧ u32s l0_5 = true then
    if mayB a0_0 l0_1 l0_2 l0_3 l0_4 l0_5 = true ∧ 0 ≤ a1 ∧ a1 < l0_4.length ∧ 1 ≤ a2 ∧ a2 ≤ 256 then some ((List.range a2.toNat).map (fun j => rowAt a0_0 l0_1 l0_2 l0_4 l0_5 a1 (a2.toNat - 1 - j)), 0) else some ([], 2)
  else none
structure FrSt (a0 : Int) (A1 : Option Addr) (c1 : Nat) (l1 : List S41) (A2 : Option Addr) (c2 : Nat) (l2 : List S68) (A3 : Option Addr) (c3 : Nat) (l3 : List Int) (A4 : Option Addr) (c4 : Nat) (l4 : List Int) (A5 : Option Addr) (c5 : Nat) (l5 : List Int) (w0 : World) (b8 b9 g n : Nat) (v9 : Value) (rows : Nat → List Bool) (W : World) : Prop where
  below : Below w0.heap.size w0 W
  k3 : W.heap[w0.heap.size]? = some (.cells #[.int .i64 a0, .slice A1 l1.length c1, .slice A2 l2.length c2, .slice A3 l3.length c3, .slice A4 l4.length c4, .slice A5 l5.length c5] 26 (0, 0))
  h8 : w0.heap.size ≤ b8
  h9 : w0.heap.size ≤ b9
  hg : w0.heap.size ≤ g
  k8 : W.heap[b8]? = some (.cells #[.slice (some ⟨g, 0, none⟩) n n] 43 (0, 0))
  k9 : W.heap[b9]? = some (.cells #[v9] 24 (0, 0))
  kg : ∃ (f : Nat → Nat) (arr : Array Value), W.heap[g]? = some (.cells arr 33 (0, 0)) ∧ arr.size = n ∧ ∀ j, j < n → ∃ v, arr[j]? = some v ∧ Kd.R Kd.bool 4 W w0.heap.size (fun k => f k = j) v (rows j)
section
variable {P : Program} {ops : Array Oper} {o : Oper} {a : Act} {Q : Exit → Act → World → Prop} {Kc : Act → World → Prop}
theorem skip_step {W w1 : World} (hw : Region.wanted o (yielded ops a.tmps) = true) (hN : o.dst = none) (hrun : (execOp a.eval o).run P W = .ok .skip w1) (h : Kc a w1) : if Region.wanted o (yielded ops a.tmps) = true then Oper.wp P o a W Kc Q else Kc (a.put none undef) W := by
  rw [if_pos hw]
  unfold Oper.wp
  rw [hrun]
  show Kc (a.put o.dst undef) w1
  rw [hN]
  exact h
end
section
variable {P : Program} {ops : Array Oper} {rest : List Oper} {o : Oper} {a : Act} {Q : Exit → Act → World → Prop} {m : Nat}
end
section
variable {a0 : Int} {A1 : Option Addr} {c1 : Nat} {l1 : List S41} {A2 : Option Addr} {c2 : Nat} {l2 : List S68} {A3 : Option Addr} {c3 : Nat} {l3 : List Int} {A4 : Option Addr} {c4 : Nat} {l4 : List Int} {A5 : Option Addr} {c5 : Nat} {l5 : List Int} {w0 : World} {b8 b9 g n : Nat} {v9 : Value} {rows : Nat → List Bool} {W W' : World}
theorem FrSt.step (h : FrSt a0 A1 c1 l1 A2 c2 l2 A3 c3 l3 A4 c4 l4 A5 c5 l5 w0 b8 b9 g n v9 rows W) (hb : Below W.heap.size W W') : FrSt a0 A1 c1 l1 A2 c2 l2 A3 c3 l3 A4 c4 l4 A5 c5 l5 w0 b8 b9 g n v9 rows W' := by
  obtain ⟨f, arr, k, hs, hr⟩ := h.kg
  exact ⟨below_step h.below hb, blk_below h.k3 hb, h.h8, h.h9, h.hg, blk_below h.k8 hb, blk_below h.k9 hb, f, arr, blk_below k hb, hs, fun j hj => by obtain ⟨v, e, hR⟩ := hr j hj; exact ⟨v, e, Kd.R_below hR hb⟩⟩
theorem blk_row {b : Nat} {cs : Array Value} {t : TypeId} {row : Option Nat} (h : W.heap[b]? = some (.cells cs t (0, 0))) (hg : W.grownBy W' row) (hr : ∀ r, row = some r → ∃ o : Obj, W.heap[r]? = some o ∧ o.isCells = false) : W'.heap[b]? = some (.cells cs t (0, 0)) :=
  (hg.block b (blk_lt h) (fun e => by obtain ⟨o, ho, hc⟩ := hr b e.symm; rw [h] at ho; cases ho; cases hc)).trans h
theorem R_row {α : Type} {d : Kd α} {e base : Nat} {ok : Nat → Prop} {v : Value} {xs : List α} {row : Option Nat} (h : d.R e W base ok v xs) (hg : W.grownBy W' row) (hr : ∀ r, row = some r → ∃ o : Obj, W.heap[r]? = some o ∧ o.isCells = false) : d.R e W' base ok v xs :=
  Kd.R_mono (Kd.R_grown (Kd.R_bound h) hg (fun k hk e => by
    obtain ⟨_, _, _, q, _, cells, hc⟩ := hk
    obtain ⟨o, ho, hn⟩ := hr k e.symm
    rw [hc] at ho
    cases ho
    cases hn)) (fun _ hk => hk.1)
theorem FrSt.grown (h : FrSt a0 A1 c1 l1 A2 c2 l2 A3 c3 l3 A4 c4 l4 A5 c5 l5 w0 b8 b9 g n v9 rows W) {row : Option Nat} (hg : W.grownBy W' row) (hr : ∀ r, row = some r → w0.heap.size ≤ r ∧ ∃ o : Obj, W.heap[r]? = some o ∧ o.isCells = false) : FrSt a0 A1 c1 l1 A2 c2 l2 A3 c3 l3 A4 c4 l4 A5 c5 l5 w0 b8 b9 g n v9 rows W' := by
  have hr2 := fun r e => (hr r e).2
  obtain ⟨f, arr, k, hs, hR⟩ := h.kg
  exact ⟨h.below.grown hg h.below.size (fun r e => (hr r e).1), blk_row h.k3 hg hr2, h.h8, h.h9, h.hg, blk_row h.k8 hg hr2, blk_row h.k9 hg hr2, f, arr, blk_row k hg hr2, hs, fun j hj => by obtain ⟨v, e, hv⟩ := hR j hj; exact ⟨v, e, R_row hv hg hr2⟩⟩
theorem FrSt.appended (h : FrSt a0 A1 c1 l1 A2 c2 l2 A3 c3 l3 A4 c4 l4 A5 c5 l5 w0 b8 b9 g n v9 rows W) {xs : List Int} (hR : Kd.R (Kd.int .u32) 39 W w0.heap.size (fun _ => True) v9 xs) (hB : Below w0.heap.size w0 W') (hg : W.grownBy W' v9.ownBlock) : FrSt a0 A1 c1 l1 A2 c2 l2 A3 c3 l3 A4 c4 l4 A5 c5 l5 w0 b8 b9 g n v9 rows W' := by
  obtain ⟨f, arr, k, hs, hr⟩ := h.kg
  exact ⟨hB, blk_grown h.k3 hg (Kd.R_ne hR h.k3 (by decide)), h.h8, h.h9, h.hg, blk_grown h.k8 hg (Kd.R_ne hR h.k8 (by decide)), blk_grown h.k9 hg (Kd.R_ne hR h.k9 (by decide)), f, arr, blk_grown k hg (Kd.R_ne hR k (by decide)), hs, fun j hj => by obtain ⟨v, e, hv⟩ := hr j hj; exact ⟨v, e, Kd.R_over hv hR (by decide) hg⟩⟩
def RowsLt (g n B : Nat) (W : World) : Prop := ∀ arr : Array Value, W.heap[g]? = some (.cells arr 33 (0, 0)) → ∀ j v q, j < n → arr[j]? = some v → v.ownBlock = some q → q < B
theorem RowsLt.below {B : Nat} (h : RowsLt g n B W) {arr : Array Value} (k : W.heap[g]? = some (.cells arr 33 (0, 0))) (hb : Below W.heap.size W W') : RowsLt g n B W' := by
  intro arr' k' j v q hj e hq
  rw [blk_below k hb] at k'
  cases k'
  exact h arr k j v q hj e hq
theorem FrSt.reads (h : FrSt a0 A1 c1 l1 A2 c2 l2 A3 c3 l3 A4 c4 l4 A5 c5 l5 w0 b8 b9 g n v9 rows W) (rs : List (List Bool)) (hl : rs.length = n) (hn : n ≤ 256) (hr : ∀ j (hj : j < rs.length), rows j = rs[j]) : Kd.C (Kd.slice 4 Kd.bool) W (some ⟨g, 0, none⟩) rs.length rs := by
  refine ⟨rfl, by omega, fun _ => ⟨_, rfl, fun j p hj => ?_⟩⟩
  obtain ⟨hj', rfl⟩ := List.getElem?_eq_some_iff.1 hj
  obtain ⟨f, arr, k, hs, hR⟩ := h.kg
  obtain ⟨v, e, hv⟩ := hR j (by omega)
  rw [hr j hj'] at hv
  obtain ⟨A, c, rfl, hc, hC⟩ := Kd.R_reads hv
  refine ⟨[_], rfl, ⟨A, c, rfl, hc, hC⟩, fun i u hu => ?_⟩
  cases i with
  | zero =>
    have : Value.slice A rs[j].length c = u := by simpa using hu
    subst this
    have e1 : (⟨g, 0, none⟩ : Addr).add (j * (Kd.slice 4 Kd.bool).sz + 0) = ⟨g, j, none⟩ := by
      have : (Kd.slice 4 Kd.bool).sz = 1 := rfl
      rw [this]
      cases j <;> simp [Addr.add]
    rw [e1]
    exact (blk_cell k j).trans e
  | succ i => simp at hu
end
end Go.Proofs.Yteiiodlgdbiimaa.F
end
section
namespace Go.Proofs.Yteiiodlgdbiimaa.F
open Go.RowKit Go.Shelf Go.ChangeMaps Go.MapKept Go.Proofs.YteiiodlgdbiimaaW.PrintWords Go.Proofs.YteiiodlgdbiimaaW.PrintLast Go.Proofs.YteiiodlgdbiimaaW.PrintMore
set_option linter.unusedVariables false
set_option linter.unusedSimpArgs false
theorem laid68 : laidOutB Try.prog = true := by kernel_rfl
theorem klaw68 : WideMaps.KeyLaw Try.prog 68 := deep_law_gate laid68 (of_decide_eq_true (by kernel_rfl)) (of_decide_eq_true (by kernel_rfl)) (by kernel_rfl) (by kernel_rfl)
def keyG (a b : Int) : Value := .agg #[.int .u32 a, .int .u32 b]
theorem wf_u32_mk {x : Int} (h : 0 ≤ x ∧ x < 4294967296) : (Lit.int .u32 x).wf = true := by
  simp only [Lit.wf, Bool.and_eq_true, decide_eq_true_eq]
  rw [show IntKind.u32.min = 0 from by decide, show IntKind.u32.max = 4294967295 from by decide]
  omega
theorem key_isG {a b : Int} (ha : 0 ≤ a ∧ a < 4294967296) (hb : 0 ≤ b ∧ b < 4294967296) : ∃ l, keyOf Try.prog 68 (keyG a b) = some l := by
  obtain ⟨m, hm⟩ : ∃ m, Try.prog.types.size = m + 1 := ⟨Try.prog.types.size - 1, by have : 0 < Try.prog.types.size := of_decide_eq_true (by kernel_rfl); omega⟩
  have e1 : Try.prog.keyType 68 = true := by kernel_rfl
  have e2 : (keyG a b).formed Try.prog 68 = true := by kernel_rfl
  have e3 : ∃ ls, Try.prog.keyLits (Try.prog.types.size + 1) 68 (keyG a b).cells.toList = some ls := by
    rw [hm]
    have c68 : Try.prog.cellsOf 68 = 2 := by kernel_rfl
    have c39 : Try.prog.cellsOf 39 = 1 := by kernel_rfl
    simp [Program.keyLits, keyG, Value.cells, Try.underlying68, Try.underlying39, c68, c39, wf_u32_mk ha, wf_u32_mk hb]
  obtain ⟨ls, e3⟩ := e3
  unfold keyOf
  rw [Try.underlying68]
  simp only [e1, e2, e3, Bool.and_self, if_true, Option.map_some]
  exact ⟨_, rfl⟩
def Gate32 (g : S68) : Prop := (0 ≤ g.f0 ∧ g.f0 < 4294967296) ∧ (0 ≤ g.f1 ∧ g.f1 < 4294967296)
def entG (first : Int) (gs : List S68) : List MapEntry := gs.zipIdx.map fun p => { key := keyG p.1.f0 p.1.f1, val := .int .u32 (2 * (first + (p.2 : Int))), born := p.2 }
theorem entG_snoc (first : Int) (gs : List S68) (g : S68) : entG first (gs ++ [g]) = entG first gs ++ [{ key := keyG g.f0 g.f1, val := .int .u32 (2 * (first + (gs.length : Int))), born := gs.length }] := by
  simp [entG, List.zipIdx_append]
theorem entG_len (first : Int) (gs : List S68) : (entG first gs).length = gs.length := by simp [entG]
theorem entG_at {first : Int} {gs : List S68} {j : Nat} {e : MapEntry} (h : (entG first gs)[j]? = some e) : ∃ g, gs[j]? = some g ∧ e = { key := keyG g.f0 g.f1, val := .int .u32 (2 * (first + (j : Int))), born := j } := by
  simp only [entG, List.getElem?_map, List.getElem?_zipIdx] at h
  cases hg : gs[j]? with
  | none => rw [hg] at h; cases h
  | some g =>
    rw [hg] at h
    simp only [Option.map_some, Nat.zero_add, Option.some.injEq] at h
    exact ⟨g, rfl, h.symm⟩
theorem entG_mem {first : Int} {gs : List S68} {g : S68} {j : Nat} (h : gs[j]? = some g) : ({ key := keyG g.f0 g.f1, val := .int .u32 (2 * (first + (j : Int))), born := j } : MapEntry) ∈ entG first gs := by
  refine List.mem_of_getElem? (i := j) ?_
  simp [entG, List.getElem?_zipIdx, h]
def idxG : List S68 → Int → Int → Option Nat
  | [], _, _ => none
  | g :: r, a, b => if g.f0 = a ∧ g.f1 = b then some 0 else (idxG r a b).map (· + 1)
theorem idxG_none {a b : Int} : ∀ gs : List S68, idxG gs a b = none → ∀ g ∈ gs, ¬ (g.f0 = a ∧ g.f1 = b)
  | [], _, g, hg => by cases hg
  | x :: r, h, g, hg => by
    unfold idxG at h
    split at h
    · cases h
    · rename_i hc
      rcases List.mem_cons.1 hg with rfl | hg
      · exact hc
      · exact idxG_none r (by simpa using h) g hg
theorem idxG_some {a b : Int} : ∀ (gs : List S68) (j : Nat), idxG gs a b = some j → (∃ g, gs[j]? = some g ∧ g.f0 = a ∧ g.f1 = b) ∧ ∀ i, i < j → ∀ g, gs[i]? = some g → ¬ (g.f0 = a ∧ g.f1 = b)
  | [], j, h => by cases h
  | x :: r, j, h => by
    unfold idxG at h
    split at h
    · rename_i hc
      cases h
      exact ⟨⟨x, rfl, hc⟩, fun i hi => by omega⟩
    · rename_i hc
      obtain ⟨k, hk, rfl⟩ := Option.map_eq_some_iff.1 h
      obtain ⟨h1, h2⟩ := idxG_some r k hk
      refine ⟨by simpa using h1, fun i hi g hg => ?_⟩
      cases i with
      | zero =>
        cases hg
        exact hc
      | succ i => exact h2 i (by omega) g (by simpa using hg)
def Apart68 (gs : List S68) : Prop := ∀ (i j : Nat) (g h : S68), gs[i]? = some g → gs[j]? = some h → g.f0 = h.f0 → g.f1 = h.f1 → i = j
theorem zero39 (w : World) : (zeroValue 39).run Try.prog w = .ok (.int .u32 0) w := by kernel_rfl
section
variable {first : Int} {gs : List S68} {w : World} {mb : Nat} {a b : Int}
theorem keys68 (hg : ∀ g ∈ gs, Gate32 g) : ∀ e ∈ entG first gs, ∃ l, keyOf Try.prog 68 e.key = some l := by
  intro e he
  obtain ⟨j, hj⟩ := List.getElem?_of_mem he
  obtain ⟨g, h1, rfl⟩ := entG_at hj
  have := hg g (List.mem_of_getElem? h1)
  exact key_isG this.1 this.2
theorem keyG_inj {a b c d : Int} (h : keyG a b = keyG c d) : a = c ∧ b = d := by
  unfold keyG at h
  injection h with h
  have h1 : [Value.int .u32 a, Value.int .u32 b] = [Value.int .u32 c, Value.int .u32 d] := congrArg Array.toList h
  injection h1 with e1 h2
  injection h2 with e2 _
  injection e1 with _ e1
  injection e2 with _ e2
  exact ⟨e1, e2⟩
theorem find_none (hg : ∀ g ∈ gs, Gate32 g) (ha : 0 ≤ a ∧ a < 4294967296) (hb : 0 ≤ b ∧ b < 4294967296) (hn : ∀ g ∈ gs, ¬ (g.f0 = a ∧ g.f1 = b)) (w : World) : (Instr.findKey 68 (keyG a b) (entG first gs)).run Try.prog w = .ok none w := by
  obtain ⟨l, hl⟩ := key_isG ha hb
  rcases klaw68.find w hl (entG first gs) (keys68 hg) with ⟨h1, _⟩ | ⟨j, e, _, h2, h3⟩
  · exact h1
  · obtain ⟨g, hg1, rfl⟩ := entG_at h2
    obtain ⟨e1, e2⟩ := keyG_inj h3
    exact absurd ⟨e1, e2⟩ (hn g (List.mem_of_getElem? hg1))
theorem find_some (hg : ∀ g ∈ gs, Gate32 g) (hd : Apart68 gs) (ha : 0 ≤ a ∧ a < 4294967296) (hb : 0 ≤ b ∧ b < 4294967296) {j : Nat} {g : S68} (hj : gs[j]? = some g) (h0 : g.f0 = a) (h1 : g.f1 = b) (w : World) :
    (Instr.findKey 68 (keyG a b) (entG first gs)).run Try.prog w = .ok (some (j, .int .u32 (2 * (first + (j : Int))))) w := by
  obtain ⟨l, hl⟩ := key_isG ha hb
  rcases klaw68.find w hl (entG first gs) (keys68 hg) with ⟨_, h2⟩ | ⟨i, e, hr, h2, h3⟩
  · exact absurd (show keyG g.f0 g.f1 = keyG a b by rw [h0, h1]) (h2 _ (entG_mem hj))
  · obtain ⟨g', hg1, rfl⟩ := entG_at h2
    obtain ⟨e1, e2⟩ := keyG_inj h3
    obtain rfl : i = j := hd i j g' g hg1 hj (by rw [e1, h0]) (by rw [e2, h1])
    exact hr
theorem lookG_none (hm : w.heap[mb]? = some (.map (entG first gs).toArray gs.length)) (hg : ∀ g ∈ gs, Gate32 g) (ha : 0 ≤ a ∧ a < 4294967296) (hb : 0 ≤ b ∧ b < 4294967296) (hn : ∀ g ∈ gs, ¬ (g.f0 = a ∧ g.f1 = b)) :
    (Instr.lookup 121 (.map (some mb)) (keyG a b) true).run Try.prog w = .ok (.tuple #[.int .u32 0, .bool false]) w := by
  obtain ⟨l, hl⟩ := key_isG ha hb
  have h1 := find_none (first := first) hg ha hb hn w
  simp [Instr.lookup, run_underlying Try.underlying121, MapKept.run_getObj_map hm, klaw68.check w _ hl, h1, zero39, Result.andThen]
theorem lookG_some (hm : w.heap[mb]? = some (.map (entG first gs).toArray gs.length)) (hg : ∀ g ∈ gs, Gate32 g) (hd : Apart68 gs) (ha : 0 ≤ a ∧ a < 4294967296) (hb : 0 ≤ b ∧ b < 4294967296) {j : Nat} {g : S68} (hj : gs[j]? = some g) (h0 : g.f0 = a) (h1 : g.f1 = b) :
    (Instr.lookup 121 (.map (some mb)) (keyG a b) true).run Try.prog w = .ok (.tuple #[.int .u32 (2 * (first + (j : Int))), .bool true]) w := by
  obtain ⟨l, hl⟩ := key_isG ha hb
  have h2 := find_some (first := first) hg hd ha hb hj h0 h1 w
  simp [Instr.lookup, run_underlying Try.underlying121, MapKept.run_getObj_map hm, klaw68.check w _ hl, h2, Result.andThen]
theorem mapG_entry (hm : w.heap[mb]? = some (.map (entG first gs).toArray gs.length)) (hg : ∀ g ∈ gs, Gate32 g) (ha : 0 ≤ a ∧ a < 4294967296) (hb : 0 ≤ b ∧ b < 4294967296) (hn : ∀ g ∈ gs, ¬ (g.f0 = a ∧ g.f1 = b)) :
    (Instr.mapEntry 121 (.map (some mb)) (keyG a b)).run Try.prog w = .ok (.tuple #[.int .u32 0, .int .i64 gs.length]) (setBlock w mb (.map ((entG first gs).toArray.push ⟨keyG a b, .int .u32 0, gs.length⟩) (gs.length + 1))) := by
  obtain ⟨l, hl⟩ := key_isG ha hb
  have h1 := find_none (first := first) hg ha hb hn w
  simp [Instr.mapEntry, run_underlying Try.underlying121, MapKept.run_getObj_map hm, klaw68.check w false hl, h1, zero39, MapKept.run_setObj_map _ hm, Result.andThen, setBlock, goInt]
theorem mapG_store (v : Value) (hm : w.heap[mb]? = some (.map ((entG first gs).toArray.push ⟨keyG a b, .int .u32 0, gs.length⟩) (gs.length + 1))) :
    (Instr.entryStore 121 (.map (some mb)) (.int .i64 gs.length) v).run Try.prog w = .ok () (setBlock w mb (.map ((entG first gs).toArray.push ⟨keyG a b, v, gs.length⟩) (gs.length + 1))) := by
  have hidx : ((entG first gs).toArray.push ⟨keyG a b, .int .u32 0, gs.length⟩).findIdx? (fun e => ((e.born : Nat) : Int) == ((gs.length : Nat) : Int)) = some gs.length := by
    rw [WideElems.findIdx_arr]
    refine WideElems.findIdx_born (e0 := ⟨keyG a b, .int .u32 0, gs.length⟩) ?_ ?_
    · have e : ((entG first gs).toArray.push ⟨keyG a b, .int .u32 0, gs.length⟩).toList.map (·.born) = List.range (gs.length + 1) := by
        apply List.ext_getElem?
        intro i
        simp [entG, List.getElem?_append, List.getElem?_range, List.getElem?_zipIdx, List.range_succ]
        by_cases hi : i < gs.length
        · simp [hi]
        · simp [hi]
      rw [e]
      exact List.nodup_range
    · simp [entG_len]
  have hmod : ((entG first gs).toArray.push ⟨keyG a b, .int .u32 0, gs.length⟩).modify gs.length (fun e => { e with val := v }) = (entG first gs).toArray.push ⟨keyG a b, v, gs.length⟩ := by
    apply Array.ext'
    have := WideElems.modify_last (fun e : MapEntry => { e with val := v }) (⟨keyG a b, .int .u32 0, gs.length⟩ : MapEntry) (entG first gs)
    rw [entG_len] at this
    rw [Array.toList_modify, Array.toList_push, Array.toList_push]
    simpa using this
  generalize (entG first gs).toArray.push ⟨keyG a b, .int .u32 0, gs.length⟩ = es at hm hidx hmod
  generalize (entG first gs).toArray.push ⟨keyG a b, v, gs.length⟩ = es' at hmod ⊢
  simp [Instr.entryStore, MapKept.run_getObj_map hm, asInt, asIntOf, hidx, hmod, MapKept.run_setObj_map _ hm, Result.andThen, setBlock]
end
end Go.Proofs.Yteiiodlgdbiimaa.F
end
section
namespace Go.Proofs.Yteiiodlgdbiimaa.F
open Go.RowKit Go.Shelf Go.ChangeMaps Go.MapKept Go.Proofs.YteiiodlgdbiimaaW.PrintWords Go.Proofs.YteiiodlgdbiimaaW.PrintLast Go.Proofs.YteiiodlgdbiimaaW.PrintMore
set_option linter.unusedVariables false
set_option linter.unusedSimpArgs false
attribute [local go_sem] max2_int min2_int max_two min_two max_three min_three max_four min_four
def OthersG (W W' : World) : Prop := ∀ (b : Nat) (cs : Array Value) (t : TypeId), W.heap[b]? = some (.cells cs t (0, 0)) → t ≠ 123 → t ≠ 68 → W'.heap[b]? = some (.cells cs t (0, 0))
theorem OthersG.refl (W : World) : OthersG W W := fun _ _ _ h _ _ => h
theorem OthersG.trans {W W1 W2 : World} (h : OthersG W W1) (k : OthersG W1 W2) : OthersG W W2 := fun b cs t hb h1 h2 => k b cs t (h b cs t hb h1 h2) h1 h2
theorem OthersG.below {W W1 : World} (h : Below W.heap.size W W1) : OthersG W W1 := fun b cs t hb _ _ => blk_below hb h
theorem R_othersG {W W' : World} {base : Nat} {v : Value} {xs : List Int} (h : Kd.R (Kd.int .u32) 39 W base (fun _ => True) v xs) (ho : OthersG W W') : Kd.R (Kd.int .u32) 39 W' base (fun _ => True) v xs :=
  Kd.R_mono (Kd.R_move (Kd.R_tight rfl h) (fun k hk => by
    obtain ⟨cs, hc⟩ := Kd.R_typed h k hk.symm
    rw [hc]
    exact ho k cs 39 hc (by decide) (by decide))) (fun _ _ => trivial)
def Keeps68 (first : Int) (gm mb : Nat) (W W' : World) : Prop := ∀ (b : Nat) (cs : Array Value), W.heap[b]? = some (.cells cs 68 (0, 0)) → (∀ vg, W.heap[gm]? = some (.cells #[.int .u32 first, vg, .map (some mb)] 123 (0, 0)) → some b ≠ vg.ownBlock) → W'.heap[b]? = some (.cells cs 68 (0, 0))
structure MkSt (first : Int) (gs : List S68) (w0 : World) (gm mb : Nat) (W : World) : Prop where
  below : Below w0.heap.size w0 W
  gm0 : w0.heap.size ≤ gm
  mb0 : w0.heap.size ≤ mb
  ok : ∀ g ∈ gs, Gate32 g
  ap : Apart68 gs
  map : W.heap[mb]? = some (.map (entG first gs).toArray gs.length)
  st : ∃ vg, W.heap[gm]? = some (.cells #[.int .u32 first, vg, .map (some mb)] 123 (0, 0)) ∧ Kd.R k68 68 W w0.heap.size (fun _ => True) vg gs
theorem MkSt.step {first : Int} {gs : List S68} {w0 : World} {gm mb : Nat} {W W' : World} (h : MkSt first gs w0 gm mb W) (hb : Below W.heap.size W W') : MkSt first gs w0 gm mb W' := by
  obtain ⟨vg, hk, hq⟩ := h.st
  exact ⟨below_step h.below hb, h.gm0, h.mb0, h.ok, h.ap, blk_below h.map hb, vg, blk_below hk hb, Kd.R_below hq hb⟩
theorem setBlock_grown {w : World} {b : Nat} {es : Array MapEntry} {k : Nat} {o' : Obj} (h : w.heap[b]? = some (.map es k)) : w.grownBy (setBlock w b o') (some b) := ⟨rfl, rfl, rfl, by simp [setBlock], fun i _ hi => heap_setBlock_other h _ (fun e => hi (by rw [e]))⟩
theorem Apart68.snoc {gs : List S68} (h : Apart68 gs) {a b : Int} (hn : ∀ g ∈ gs, ¬ (g.f0 = a ∧ g.f1 = b)) : Apart68 (gs ++ [⟨a, b⟩]) := by
  intro i j g k hg hk e0 e1
  by_cases hi : i < gs.length <;> by_cases hj : j < gs.length
  · rw [List.getElem?_append_left hi] at hg
    rw [List.getElem?_append_left hj] at hk
    exact h i j g k hg hk e0 e1
  · rw [List.getElem?_append_left hi] at hg
    have hj2 : j = gs.length := by have := (List.getElem?_eq_some_iff.1 hk).1; simp at this; omega
    subst hj2
    simp at hk
    subst hk
    exact absurd ⟨e0, e1⟩ (hn g (List.mem_of_getElem? hg))
  · rw [List.getElem?_append_left hj] at hk
    have hi2 : i = gs.length := by have := (List.getElem?_eq_some_iff.1 hg).1; simp at this; omega
    subst hi2
    simp at hg
    subst hg
    exact absurd ⟨e0.symm, e1.symm⟩ (hn k (List.mem_of_getElem? hk))
  · have hi2 := (List.getElem?_eq_some_iff.1 hg).1
    have hj2 := (List.getElem?_eq_some_iff.1 hk).1
    simp at hi2 hj2
    omega
theorem MkSt.added {first : Int} {gs : List S68} {w0 : World} {gm mb : Nat} {W w1 : World} {vg v1 : Value} {a b : Int} (h : MkSt first gs w0 gm mb W) (hk : W.heap[gm]? = some (.cells #[.int .u32 first, vg, .map (some mb)] 123 (0, 0))) (hq : Kd.R k68 68 W w0.heap.size (fun _ => True) vg gs)
    (hn : ∀ g ∈ gs, ¬ (g.f0 = a ∧ g.f1 = b)) (ha : 0 ≤ a ∧ a < 4294967296) (hb : 0 ≤ b ∧ b < 4294967296)
    (hR : Kd.R k68 68 w1 w0.heap.size (fun _ => True) v1 (gs ++ [⟨a, b⟩])) (hB : Below w0.heap.size w0 w1) (hg : W.grownBy w1 vg.ownBlock) (es1 es2 : Array MapEntry) (k1 k2 : Nat) (hm2 : es2 = (entG first (gs ++ [⟨a, b⟩])).toArray ∧ k2 = (gs ++ [(⟨a, b⟩ : S68)]).length) :
    MkSt first (gs ++ [⟨a, b⟩]) w0 gm mb ((setBlock (setBlock w1 mb (.map es1 k1)) mb (.map es2 k2)).setCell ⟨gm, 1, none⟩ v1) ∧ OthersG W ((setBlock (setBlock w1 mb (.map es1 k1)) mb (.map es2 k2)).setCell ⟨gm, 1, none⟩ v1) ∧ w1.heap[gm]? = some (.cells #[.int .u32 first, vg, .map (some mb)] 123 (0, 0)) ∧ w1.heap[mb]? = some (.map (entG first gs).toArray gs.length)
      ∧ (setBlock (setBlock w1 mb (.map es1 k1)) mb (.map es2 k2)).heap[gm]? = some (.cells #[.int .u32 first, vg, .map (some mb)] 123 (0, 0))
      ∧ (∀ (b' : Nat) (cs : Array Value), W.heap[b']? = some (.cells cs 68 (0, 0)) → some b' ≠ vg.ownBlock → ((setBlock (setBlock w1 mb (.map es1 k1)) mb (.map es2 k2)).setCell ⟨gm, 1, none⟩ v1).heap[b']? = some (.cells cs 68 (0, 0))) := by
  have hk1 := blk_grown hk hg (Kd.R_ne hq hk (by decide))
  have hm1 : w1.heap[mb]? = some (.map (entG first gs).toArray gs.length) := blk_grown h.map hg (fun e => by
    obtain ⟨cs, hc⟩ := Kd.R_typed hq mb e.symm
    rw [h.map] at hc
    cases hc)
  have hne : gm ≠ mb := fun e => by rw [e, hm1] at hk1; cases hk1
  have g1 := setBlock_grown (o' := .map es1 k1) hm1
  have hm2' : (setBlock w1 mb (.map es1 k1)).heap[mb]? = some (.map es1 k1) := heap_setBlock_same hm1 _
  have g2 := setBlock_grown (o' := .map es2 k2) hm2'
  have hm3 : (setBlock (setBlock w1 mb (.map es1 k1)) mb (.map es2 k2)).heap[mb]? = some (.map es2 k2) := heap_setBlock_same hm2' _
  have hx : ∀ (k : Nat) (cs : Array Value) (t : TypeId), w1.heap[k]? = some (.cells cs t (0, 0)) → (setBlock (setBlock w1 mb (.map es1 k1)) mb (.map es2 k2)).heap[k]? = some (.cells cs t (0, 0)) := fun k cs t hc => by
    have hkm : k ≠ mb := fun e => by rw [e, hm1] at hc; cases hc
    exact (heap_setBlock_other hm2' _ hkm).trans ((heap_setBlock_other hm1 _ hkm).trans hc)
  have hB2 : Below w0.heap.size w0 (setBlock (setBlock w1 mb (.map es1 k1)) mb (.map es2 k2)) := (hB.grown g1 hB.size (fun r e => by cases e; exact h.mb0)).grown g2 (Nat.le_trans hB.size g1.size) (fun r e => by cases e; exact h.mb0)
  have hR2 : Kd.R k68 68 (setBlock (setBlock w1 mb (.map es1 k1)) mb (.map es2 k2)) w0.heap.size (fun _ => True) v1 (gs ++ [⟨a, b⟩]) := Kd.R_mono (Kd.R_move (Kd.R_bound hR) (fun k hk => by
    obtain ⟨_, _, _, q, _, cells, hc⟩ := hk
    rw [hc]
    exact hx k cells q hc)) (fun _ _ => trivial)
  have hk3 := hx gm _ _ hk1
  refine ⟨⟨hB2.setCell (p := ⟨gm, 1, none⟩) h.gm0 v1, h.gm0, h.mb0, fun g hg => ?_, h.ap.snoc hn, ?_, v1, by simpa using blk_set hk3 1 v1, Kd.R_set hR2 hk3 (by decide) 1 v1⟩, fun b' cs t hb' h1 h2 => ?_, hk1, hm1, hk3, fun b' cs hb' hne' => ?_⟩
  · rcases List.mem_append.1 hg with hg | hg
    · exact h.ok g hg
    · rw [List.mem_singleton.1 hg]
      exact ⟨ha, hb⟩
  · rw [Below.heap_setCell _ _ _ mb (fun e => hne e.symm), hm3, hm2.1, hm2.2]
  · have e1 := blk_grown hb' hg (Kd.R_ne hq hb' (fun e => h2 e.symm))
    have e2 := hx b' cs t e1
    exact blk_far e2 (p := ⟨gm, 1, none⟩) (blk_ne e2 hk3 h1) v1
  · have e2 := hx b' cs 68 (blk_grown hb' hg hne')
    exact blk_far e2 (p := ⟨gm, 1, none⟩) (blk_ne e2 hk3 (by decide)) v1
def gateP (first : Int) (gs : List S68) (a b : Int) : Int × List S68 :=
  if mn a b = 0 then (0, gs) else if mx a b = Go.bits .xor .u32 (mn a b) 1 then (0, gs) else if mn a b = 1 then (mx a b, gs) else if mx a b = mn a b then (mx a b, gs)
  else match idxG gs (mx a b) (mn a b) with
    | some j => (2 * (first + (j : Int)), gs)
    | none => (2 * (first + (gs.length : Int)), gs ++ [⟨mx a b, mn a b⟩])
set_option maxHeartbeats 8000000 in
set_option maxRecDepth 100000 in
theorem gate103 (first : Int) (gs : List S68) (w0 : World) (gm mb : Nat) (w : World) (a b : Int) (hf : 0 ≤ first ∧ first ≤ 40000) (hl : gs.length ≤ 40000) (ha : 0 ≤ a ∧ a < 4294967296) (hb : 0 ≤ b ∧ b < 4294967296) (h : MkSt first gs w0 gm mb w) :
    Calls Try.prog 103 #[.pointer (some ⟨gm, 0, none⟩), .int .u32 a, .int .u32 b] w fun e w' => e = .returned (.int .u32 (gateP first gs a b).1) ∧ MkSt first (gateP first gs a b).2 w0 gm mb w' ∧ OthersG w w' ∧ Keeps68 first gm mb w w' := by
  have H := Aside0.mk h
  have hu68 := Try.underlying68
  have hu123 := Try.underlying123
  have hHI : 0 ≤ mx a b ∧ mx a b < 4294967296 := by unfold mx; split <;> omega
  have hLO : 0 ≤ mn a b ∧ mn a b < 4294967296 := by unfold mn; split <;> omega
  unfold gateP
  obtain ⟨hi, hhi⟩ : ∃ hi, mx a b = hi := ⟨_, rfl⟩
  obtain ⟨lo, hlo⟩ : ∃ lo, mn a b = lo := ⟨_, rfl⟩
  rw [hhi] at hHI
  rw [hlo] at hLO
  rw [hhi, hlo]
  have hhi_ : (if a < b then b else a) = hi := hhi
  have hlo_ : (if b < a then b else a) = lo := hlo
  have HHI := Aside0.mk hHI
  have HLO := Aside0.mk hLO
  have HFB := Aside0.mk hf
  have HGL := Aside0.mk hl
  clear hHI hLO ha hb hf hl
  by_cases c0 : lo = 0
  · rw [if_pos c0]
    subst c0
    clear h
    go_enter Try.func103, Try.ntmps103
    go_wp2
    go_ret
    exact ⟨rfl, H.out, OthersG.refl _, fun _ _ h _ => h⟩
  rw [if_neg c0]
  have d0 : (lo == 0) = false := beq_eq_false_iff_ne.mpr c0
  by_cases c1 : hi = Go.bits .xor .u32 lo 1
  · rw [if_pos c1]
    have d1 : (hi == Go.bits .xor .u32 lo 1) = true := beq_iff_eq.mpr c1
    clear c1 c0 h
    go_enter Try.func103, Try.ntmps103
    go_wp2
    go_ret
    exact ⟨rfl, H.out, OthersG.refl _, fun _ _ h _ => h⟩
  rw [if_neg c1]
  have d1 : (hi == Go.bits .xor .u32 lo 1) = false := beq_eq_false_iff_ne.mpr c1
  by_cases c2 : lo = 1
  · rw [if_pos c2]
    have d2 : (lo == 1) = true := beq_iff_eq.mpr c2
    clear c2 c1 c0 h
    go_enter Try.func103, Try.ntmps103
    go_wp2
    go_ret
    exact ⟨rfl, H.out, OthersG.refl _, fun _ _ h _ => h⟩
  rw [if_neg c2]
  have d2 : (lo == 1) = false := beq_eq_false_iff_ne.mpr c2
  by_cases c3 : hi = lo
  · rw [if_pos c3]
    have d3 : (hi == lo) = true := beq_iff_eq.mpr c3
    clear c3 c2 c1 c0 h
    go_enter Try.func103, Try.ntmps103
    go_wp2
    go_ret
    exact ⟨rfl, H.out, OthersG.refl _, fun _ _ h _ => h⟩
  rw [if_neg c3]
  have d3 : (hi == lo) = false := beq_eq_false_iff_ne.mpr c3
  clear c3 c2 c1 c0
  obtain ⟨vg, hk, hq⟩ := h.st
  obtain ⟨Ag, cg, rfl⟩ := Kd.R_slice hq
  have HQ0 := Aside0.mk hq
  have HK0 := Aside0.mk hk
  clear h hk hq
  cases hx : idxG gs hi lo with
  | some j =>
    obtain ⟨⟨g, hj, e0, e1⟩, _⟩ := idxG_some gs j hx
    have HJ := Aside0.mk (And.intro hj (And.intro e0 e1))
    clear hx hj e0 e1
    go_enter Try.func103, Try.ntmps103
    go_wp2_with (first | ((with_reducible refine gate_dst (N := 7) rfl ?_); refine box_event ?hg (N := 7) ?hd (cs := #[.int .u32 0, .int .u32 0]) (t := 68) ?hr ?_; (case hd => rfl); (case hg => rfl); (case hr => first | (go_simp; done) | (go_simp; rfl)); intro g7 hg_ wa_ bk_ hb_; have GE_ := Aside0.mk (Nat.le_of_eq hg_.symm); clear hg_; have HB_ := Aside0.mk hb_; have BK_ := Aside0.mk bk_; have qa_ : wa_.cell? ⟨g7, 0, none⟩ = some (.int .u32 0) := (blk_cell bk_ 0).trans rfl; have qb_ : wa_.cell? ⟨g7, 1, none⟩ = some (.int .u32 0) := (blk_cell bk_ 1).trans rfl; have fa_ := blk_frozen bk_ 0; have fb_ := blk_frozen bk_ 1; clear hb_ bk_) | ((with_reducible refine gate_store (t := 68) (p := .tmp 7) (x := .tmp 32) rfl ?_); refine skip_event (W' := (wa_.setCell ⟨g7, 0, none⟩ (.int .u32 hi)).setCell ⟨g7, 1, none⟩ (.int .u32 lo)) ?hn ?hs ?hr ?_; (case hn => rfl); (case hs => rfl); (case hr => first | (go_simp; done) | (go_simp; rfl)); intro w8 hw_; have BK8 := Aside0.mk (show w8.heap[g7]? = some (.cells #[.int .u32 hi, .int .u32 lo] 68 (0, 0)) from by rw [hw_]; exact blk_set2 BK_.out _ _); have HB8 := Aside0.mk (show Below w.heap.size w w8 from by rw [hw_]; exact below_set2 HB_.out GE_.out _ _); have GE7 := GE_; clear hw_ qa_ qb_ fa_ fb_ BK_ HB_ GE_; have qg7_0 : w8.cell? ⟨g7, 0, none⟩ = some (.int .u32 hi) := (blk_cell BK8.out 0).trans rfl; have qg7_1 : w8.cell? ⟨g7, 1, none⟩ = some (.int .u32 lo) := (blk_cell BK8.out 1).trans rfl; skip))
    have HM8 := Aside0.mk (H.out.step HB8.out)
    have KM8 := Aside0.mk (blk_below HK0.out HB8.out)
    have HO8 := Aside0.mk (OthersG.below HB8.out)
    refine start_ (n := 11) (S := fun w' => w'.cell? ⟨gm, 2, none⟩ = some (.map (some mb)) ∧ w'.cell? ⟨g7, 0, none⟩ = some (.int .u32 hi) ∧ w'.cell? ⟨g7, 1, none⟩ = some (.int .u32 lo) ∧ (Instr.lookup 121 (.map (some mb)) (.agg #[.int .u32 hi, .int .u32 lo]) true).run Try.prog w' = .ok (.tuple #[.int .u32 (2 * (first + (j : Int))), .bool true]) w') (ds := []) #[false, false, false, false, false, false, false, false, false, false, false] (by kernel_rfl) rfl rfl ⟨(blk_cell KM8.out 2).trans rfl, (blk_cell BK8.out 0).trans rfl, (blk_cell BK8.out 1).trans rfl, lookG_some (w := w8.drew) HM8.out.map HM8.out.ok HM8.out.ap HHI.out HLO.out HJ.out.1 HJ.out.2.1 HJ.out.2.2⟩ (fun hHeld => ?_)
    have HM9 := Aside0.mk (HM8.out.step (W' := w8.drew) (below_drew1 (Below.refl _ _)))
    have HO9 := Aside0.mk (HO8.out.trans (OthersG.below (W1 := w8.drew) (below_drew1 (Below.refl _ _))))
    have HS9 := Aside0.mk (show Keeps68 first gm mb w w8.drew from fun b cs h _ => blk_drew (blk_below h HB8.out))
    have HW9 := Aside0.mk (show ∀ (b : Nat) (cs : Array Value), w.heap[b]? = some (.cells cs 68 (0, 0)) → w8.drew.heap[b]? = some (.cells cs 68 (0, 0)) from fun b cs h => blk_drew (blk_below h HB8.out))
    have HG0 := HK0
    clear HM8 KM8 HO8 BK8 HB8 qg7_0 qg7_1 HK0 HQ0
    generalize w8.drew = w9 at HM9 HO9 HS9 HW9 hHeld ⊢
    refine pure_ (i := 0) (N := some 34) (v := ?_) (a' := ?_) #[true, false, false, false, false, false, false, false, false, false, false] rfl rfl (by kernel_rfl) (fun _ _ _ h => h) (Or.inl ⟨by rfl, ?_⟩) ?_ ?_
    rotate_left
    · intro w'
      go_simp
      with_reducible rfl
    rotate_left
    · simp only [Act.put, List.setIfInBounds_toArray, List.set_cons_zero, List.set_cons_succ]
      rfl
    refine pure_ (i := 1) (N := some 35) (v := ?_) (a' := ?_) #[true, true, false, false, false, false, false, false, false, false, false] rfl rfl (by kernel_rfl) (fun _ _ _ h => h) (Or.inl ⟨by rfl, ?_⟩) ?_ ?_
    rotate_left
    · intro w'
      go_simp
      with_reducible rfl
    rotate_left
    · simp only [Act.put, List.setIfInBounds_toArray, List.set_cons_zero, List.set_cons_succ]
      rfl
    refine pure_ (i := 2) (N := some 36) (v := ?_) (a' := ?_) #[true, true, true, false, false, false, false, false, false, false, false] rfl rfl (by kernel_rfl) (fun _ _ _ h => h) (Or.inl ⟨by rfl, ?_⟩) ?_ ?_
    rotate_left
    · intro w'
      go_simp
      with_reducible rfl
    rotate_left
    · simp only [Act.put, List.setIfInBounds_toArray, List.set_cons_zero, List.set_cons_succ]
      rfl
    refine take_ (i := 3) (N := some 37) (v := ?_) (a' := ?_) #[true, true, true, true, false, false, false, false, false, false, false] rfl rfl (by kernel_rfl) (fun _ _ _ h => h) (Or.inl ⟨by rfl, ?_⟩) hHeld ?_ ?_
    rotate_left
    · rintro w' ⟨s0, s1, s2, s3⟩
      go_simp
      with_reducible rfl
    rotate_left
    · simp only [Act.put, List.setIfInBounds_toArray, List.set_cons_zero, List.set_cons_succ]
      rfl
    refine take_ (i := 4) (N := some 38) (v := ?_) (a' := ?_) #[true, true, true, true, true, false, false, false, false, false, false] rfl rfl (by kernel_rfl) (fun _ _ _ h => h) (Or.inl ⟨by rfl, ?_⟩) hHeld ?_ ?_
    rotate_left
    · rintro w' ⟨s0, s1, s2, s3⟩
      go_simp
      with_reducible rfl
    rotate_left
    · simp only [Act.put, List.setIfInBounds_toArray, List.set_cons_zero, List.set_cons_succ]
      rfl
    refine take_ (i := 5) (N := some 39) (v := ?_) (a' := ?_) #[true, true, true, true, true, true, false, false, false, false, false] rfl rfl (by kernel_rfl) (fun _ _ _ h => h) (Or.inl ⟨by rfl, ?_⟩) hHeld ?_ ?_
    rotate_left
    · rintro w' ⟨s0, s1, s2, s3⟩
      go_simp
      with_reducible rfl
    rotate_left
    · simp only [Act.put, List.setIfInBounds_toArray, List.set_cons_zero, List.set_cons_succ]
      rfl
    refine pure_ (i := 6) (N := some 33) (v := ?_) (a' := ?_) #[true, true, true, true, true, true, true, false, false, false, false] rfl rfl (by kernel_rfl) (fun _ _ _ h => h) (Or.inl ⟨by rfl, ?_⟩) ?_ ?_
    rotate_left
    · intro w'
      go_simp
      with_reducible rfl
    rotate_left
    · simp only [Act.put, List.setIfInBounds_toArray, List.set_cons_zero, List.set_cons_succ]
      rfl
    refine pure_ (i := 7) (N := some 40) (v := ?_) (a' := ?_) #[true, true, true, true, true, true, true, true, false, false, false] rfl rfl (by kernel_rfl) (fun _ _ _ h => h) (Or.inl ⟨by rfl, ?_⟩) ?_ ?_
    rotate_left
    · intro w'
      go_simp
      with_reducible rfl
    rotate_left
    · simp only [Act.put, List.setIfInBounds_toArray, List.set_cons_zero, List.set_cons_succ]
      rfl
    refine pure_ (i := 8) (N := some 41) (v := ?_) (a' := ?_) #[true, true, true, true, true, true, true, true, true, false, false] rfl rfl (by kernel_rfl) (fun _ _ _ h => h) (Or.inl ⟨by rfl, ?_⟩) ?_ ?_
    rotate_left
    · intro w'
      go_simp
      with_reducible rfl
    rotate_left
    · simp only [Act.put, List.setIfInBounds_toArray, List.set_cons_zero, List.set_cons_succ]
      rfl
    refine pure_ (i := 9) (N := some 8) (v := ?_) (a' := ?_) #[true, true, true, true, true, true, true, true, true, true, false] rfl rfl (by kernel_rfl) (fun _ _ _ h => h) (Or.inl ⟨by rfl, ?_⟩) ?_ ?_
    rotate_left
    · intro w'
      go_simp
      with_reducible rfl
    rotate_left
    · simp only [Act.put, List.setIfInBounds_toArray, List.set_cons_zero, List.set_cons_succ]
      rfl
    refine pure_ (i := 10) (N := some 9) (v := ?_) (a' := ?_) #[true, true, true, true, true, true, true, true, true, true, true] rfl rfl (by kernel_rfl) (fun _ _ _ h => h) (Or.inl ⟨by rfl, ?_⟩) ?_ ?_
    rotate_left
    · intro w'
      go_simp
      with_reducible rfl
    rotate_left
    · simp only [Act.put, List.setIfInBounds_toArray, List.set_cons_zero, List.set_cons_succ]
      rfl
    refine done_ (by kernel_rfl) ?_
    clear hHeld
    go_wp2
    go_ret
    exact ⟨rfl, HM9.out, HO9.out, HS9.out⟩
  | none =>
    have HNO := Aside0.mk (idxG_none gs hx)
    clear hx
    go_enter Try.func103, Try.ntmps103
    go_wp2_with (first | ((with_reducible refine gate_dst (N := 7) rfl ?_); refine box_event ?hg (N := 7) ?hd (cs := #[.int .u32 0, .int .u32 0]) (t := 68) ?hr ?_; (case hd => rfl); (case hg => rfl); (case hr => first | (go_simp; done) | (go_simp; rfl)); intro g7 hg_ wa_ bk_ hb_; have GE_ := Aside0.mk (Nat.le_of_eq hg_.symm); clear hg_; have HB_ := Aside0.mk hb_; have BK_ := Aside0.mk bk_; have qa_ : wa_.cell? ⟨g7, 0, none⟩ = some (.int .u32 0) := (blk_cell bk_ 0).trans rfl; have qb_ : wa_.cell? ⟨g7, 1, none⟩ = some (.int .u32 0) := (blk_cell bk_ 1).trans rfl; have fa_ := blk_frozen bk_ 0; have fb_ := blk_frozen bk_ 1; clear hb_ bk_) | ((with_reducible refine gate_store (t := 68) (p := .tmp 7) (x := .tmp 32) rfl ?_); refine skip_event (W' := (wa_.setCell ⟨g7, 0, none⟩ (.int .u32 hi)).setCell ⟨g7, 1, none⟩ (.int .u32 lo)) ?hn ?hs ?hr ?_; (case hn => rfl); (case hs => rfl); (case hr => first | (go_simp; done) | (go_simp; rfl)); intro w8 hw_; have BK8 := Aside0.mk (show w8.heap[g7]? = some (.cells #[.int .u32 hi, .int .u32 lo] 68 (0, 0)) from by rw [hw_]; exact blk_set2 BK_.out _ _); have HB8 := Aside0.mk (show Below w.heap.size w w8 from by rw [hw_]; exact below_set2 HB_.out GE_.out _ _); have GE7 := GE_; clear hw_ qa_ qb_ fa_ fb_ BK_ HB_ GE_; have qg7_0 : w8.cell? ⟨g7, 0, none⟩ = some (.int .u32 hi) := (blk_cell BK8.out 0).trans rfl; have qg7_1 : w8.cell? ⟨g7, 1, none⟩ = some (.int .u32 lo) := (blk_cell BK8.out 1).trans rfl; skip))
    have HM8 := Aside0.mk (H.out.step HB8.out)
    have KM8 := Aside0.mk (blk_below HK0.out HB8.out)
    have HO8 := Aside0.mk (OthersG.below HB8.out)
    have HQ8 := Aside0.mk (Kd.R_below HQ0.out HB8.out)
    have HG7 := Aside0.mk (show some g7 ≠ (Value.slice Ag gs.length cg).ownBlock from fun e => by have h1 := Kd.R_lt HQ0.out g7 e.symm; have h2 := GE7.out; omega)
    refine start_ (n := 11) (S := fun w' => w'.cell? ⟨gm, 2, none⟩ = some (.map (some mb)) ∧ w'.cell? ⟨g7, 0, none⟩ = some (.int .u32 hi) ∧ w'.cell? ⟨g7, 1, none⟩ = some (.int .u32 lo) ∧ (Instr.lookup 121 (.map (some mb)) (.agg #[.int .u32 hi, .int .u32 lo]) true).run Try.prog w' = .ok (.tuple #[.int .u32 0, .bool false]) w') (ds := []) #[false, false, false, false, false, false, false, false, false, false, false] (by kernel_rfl) rfl rfl ⟨(blk_cell KM8.out 2).trans rfl, (blk_cell BK8.out 0).trans rfl, (blk_cell BK8.out 1).trans rfl, lookG_none (w := w8.drew) HM8.out.map HM8.out.ok HHI.out HLO.out HNO.out⟩ (fun hHeld => ?_)
    have HM9 := Aside0.mk (HM8.out.step (W' := w8.drew) (below_drew1 (Below.refl _ _)))
    have HO9 := Aside0.mk (HO8.out.trans (OthersG.below (W1 := w8.drew) (below_drew1 (Below.refl _ _))))
    have HS9 := Aside0.mk (show Keeps68 first gm mb w w8.drew from fun b cs h _ => blk_drew (blk_below h HB8.out))
    have HW9 := Aside0.mk (show ∀ (b : Nat) (cs : Array Value), w.heap[b]? = some (.cells cs 68 (0, 0)) → w8.drew.heap[b]? = some (.cells cs 68 (0, 0)) from fun b cs h => blk_drew (blk_below h HB8.out))
    have HG0 := HK0
    have KM9 := Aside0.mk (blk_drew KM8.out)
    have BK9 := Aside0.mk (blk_drew BK8.out)
    have HQ9 := Aside0.mk (Kd.R_drew HQ8.out)
    clear HM8 KM8 HO8 BK8 HB8 HQ8 qg7_0 qg7_1 HK0 HQ0
    generalize w8.drew = w9 at HM9 HO9 KM9 BK9 HQ9 HS9 HW9 hHeld ⊢
    refine pure_ (i := 0) (N := some 34) (v := ?_) (a' := ?_) #[true, false, false, false, false, false, false, false, false, false, false] rfl rfl (by kernel_rfl) (fun _ _ _ h => h) (Or.inl ⟨by rfl, ?_⟩) ?_ ?_
    rotate_left
    · intro w'
      go_simp
      with_reducible rfl
    rotate_left
    · simp only [Act.put, List.setIfInBounds_toArray, List.set_cons_zero, List.set_cons_succ]
      rfl
    refine pure_ (i := 1) (N := some 35) (v := ?_) (a' := ?_) #[true, true, false, false, false, false, false, false, false, false, false] rfl rfl (by kernel_rfl) (fun _ _ _ h => h) (Or.inl ⟨by rfl, ?_⟩) ?_ ?_
    rotate_left
    · intro w'
      go_simp
      with_reducible rfl
    rotate_left
    · simp only [Act.put, List.setIfInBounds_toArray, List.set_cons_zero, List.set_cons_succ]
      rfl
    refine pure_ (i := 2) (N := some 36) (v := ?_) (a' := ?_) #[true, true, true, false, false, false, false, false, false, false, false] rfl rfl (by kernel_rfl) (fun _ _ _ h => h) (Or.inl ⟨by rfl, ?_⟩) ?_ ?_
    rotate_left
    · intro w'
      go_simp
      with_reducible rfl
    rotate_left
    · simp only [Act.put, List.setIfInBounds_toArray, List.set_cons_zero, List.set_cons_succ]
      rfl
    refine take_ (i := 3) (N := some 37) (v := ?_) (a' := ?_) #[true, true, true, true, false, false, false, false, false, false, false] rfl rfl (by kernel_rfl) (fun _ _ _ h => h) (Or.inl ⟨by rfl, ?_⟩) hHeld ?_ ?_
    rotate_left
    · rintro w' ⟨s0, s1, s2, s3⟩
      go_simp
      with_reducible rfl
    rotate_left
    · simp only [Act.put, List.setIfInBounds_toArray, List.set_cons_zero, List.set_cons_succ]
      rfl
    refine take_ (i := 4) (N := some 38) (v := ?_) (a' := ?_) #[true, true, true, true, true, false, false, false, false, false, false] rfl rfl (by kernel_rfl) (fun _ _ _ h => h) (Or.inl ⟨by rfl, ?_⟩) hHeld ?_ ?_
    rotate_left
    · rintro w' ⟨s0, s1, s2, s3⟩
      go_simp
      with_reducible rfl
    rotate_left
    · simp only [Act.put, List.setIfInBounds_toArray, List.set_cons_zero, List.set_cons_succ]
      rfl
    refine take_ (i := 5) (N := some 39) (v := ?_) (a' := ?_) #[true, true, true, true, true, true, false, false, false, false, false] rfl rfl (by kernel_rfl) (fun _ _ _ h => h) (Or.inl ⟨by rfl, ?_⟩) hHeld ?_ ?_
    rotate_left
    · rintro w' ⟨s0, s1, s2, s3⟩
      go_simp
      with_reducible rfl
    rotate_left
    · simp only [Act.put, List.setIfInBounds_toArray, List.set_cons_zero, List.set_cons_succ]
      rfl
    refine pure_ (i := 6) (N := some 33) (v := ?_) (a' := ?_) #[true, true, true, true, true, true, true, false, false, false, false] rfl rfl (by kernel_rfl) (fun _ _ _ h => h) (Or.inl ⟨by rfl, ?_⟩) ?_ ?_
    rotate_left
    · intro w'
      go_simp
      with_reducible rfl
    rotate_left
    · simp only [Act.put, List.setIfInBounds_toArray, List.set_cons_zero, List.set_cons_succ]
      rfl
    refine pure_ (i := 7) (N := some 40) (v := ?_) (a' := ?_) #[true, true, true, true, true, true, true, true, false, false, false] rfl rfl (by kernel_rfl) (fun _ _ _ h => h) (Or.inl ⟨by rfl, ?_⟩) ?_ ?_
    rotate_left
    · intro w'
      go_simp
      with_reducible rfl
    rotate_left
    · simp only [Act.put, List.setIfInBounds_toArray, List.set_cons_zero, List.set_cons_succ]
      rfl
    refine pure_ (i := 8) (N := some 41) (v := ?_) (a' := ?_) #[true, true, true, true, true, true, true, true, true, false, false] rfl rfl (by kernel_rfl) (fun _ _ _ h => h) (Or.inl ⟨by rfl, ?_⟩) ?_ ?_
    rotate_left
    · intro w'
      go_simp
      with_reducible rfl
    rotate_left
    · simp only [Act.put, List.setIfInBounds_toArray, List.set_cons_zero, List.set_cons_succ]
      rfl
    refine pure_ (i := 9) (N := some 8) (v := ?_) (a' := ?_) #[true, true, true, true, true, true, true, true, true, true, false] rfl rfl (by kernel_rfl) (fun _ _ _ h => h) (Or.inl ⟨by rfl, ?_⟩) ?_ ?_
    rotate_left
    · intro w'
      go_simp
      with_reducible rfl
    rotate_left
    · simp only [Act.put, List.setIfInBounds_toArray, List.set_cons_zero, List.set_cons_succ]
      rfl
    refine pure_ (i := 10) (N := some 9) (v := ?_) (a' := ?_) #[true, true, true, true, true, true, true, true, true, true, true] rfl rfl (by kernel_rfl) (fun _ _ _ h => h) (Or.inl ⟨by rfl, ?_⟩) ?_ ?_
    rotate_left
    · intro w'
      go_simp
      with_reducible rfl
    rotate_left
    · simp only [Act.put, List.setIfInBounds_toArray, List.set_cons_zero, List.set_cons_succ]
      rfl
    refine done_ (by kernel_rfl) ?_
    clear hHeld
    have es1 : IntKind.u32.wrap (gs.length : Int) = (gs.length : Int) := u32_id (by omega) (by have := HGL.out; omega)
    have es2 : IntKind.u32.wrap (first + (gs.length : Int)) = first + (gs.length : Int) := u32_id (by have := HFB.out; omega) (by have := HGL.out; have := HFB.out; omega)
    have es3 : IntKind.u32.wrap (2 * (first + (gs.length : Int))) = 2 * (first + (gs.length : Int)) := u32_id (by have := HFB.out; omega) (by have := HGL.out; have := HFB.out; omega)
    go_wp2_with fail
    refine start_ (n := 13) (S := fun w' => w'.cell? ⟨gm, 0, none⟩ = some (.int .u32 first) ∧ w'.cell? ⟨gm, 1, none⟩ = some (.slice Ag gs.length cg)) (ds := []) #[false, false, false, false, false, false, false, false, false, false, false, false, false] (by kernel_rfl) rfl rfl ⟨(blk_cell KM9.out 0).trans rfl, (blk_cell KM9.out 1).trans rfl⟩ (fun hHeld => ?_)
    have HMX := Aside0.mk (HM9.out.step (W' := w9.drew) (below_drew1 (Below.refl _ _)))
    have HWX := Aside0.mk (show ∀ (b : Nat) (cs : Array Value), w.heap[b]? = some (.cells cs 68 (0, 0)) → w9.drew.heap[b]? = some (.cells cs 68 (0, 0)) from fun b cs h => blk_drew (HW9.out b cs h))
    have HOX := Aside0.mk (HO9.out.trans (OthersG.below (W1 := w9.drew) (below_drew1 (Below.refl _ _))))
    have KMX := Aside0.mk (blk_drew KM9.out)
    have BKX := Aside0.mk (blk_drew BK9.out)
    have HQX := Aside0.mk (Kd.R_drew HQ9.out)
    clear HM9 HO9 KM9 BK9 HQ9 HS9 HW9
    generalize w9.drew = wx at HMX HOX KMX BKX HQX HWX hHeld ⊢
    refine pure_ (i := 0) (N := some 44) (v := ?_) (a' := ?_) #[true, false, false, false, false, false, false, false, false, false, false, false, false] rfl rfl (by kernel_rfl) (fun _ _ _ h => h) (Or.inl ⟨by rfl, ?_⟩) ?_ ?_
    rotate_left
    · intro w'
      go_simp
      with_reducible rfl
    rotate_left
    · simp only [Act.put, List.setIfInBounds_toArray, List.set_cons_zero, List.set_cons_succ]
      rfl
    refine pure_ (i := 1) (N := some 45) (v := ?_) (a' := ?_) #[true, true, false, false, false, false, false, false, false, false, false, false, false] rfl rfl (by kernel_rfl) (fun _ _ _ h => h) (Or.inl ⟨by rfl, ?_⟩) ?_ ?_
    rotate_left
    · intro w'
      go_simp
      with_reducible rfl
    rotate_left
    · simp only [Act.put, List.setIfInBounds_toArray, List.set_cons_zero, List.set_cons_succ]
      rfl
    refine pure_ (i := 2) (N := some 46) (v := ?_) (a' := ?_) #[true, true, true, false, false, false, false, false, false, false, false, false, false] rfl rfl (by kernel_rfl) (fun _ _ _ h => h) (Or.inl ⟨by rfl, ?_⟩) ?_ ?_
    rotate_left
    · intro w'
      go_simp
      with_reducible rfl
    rotate_left
    · simp only [Act.put, List.setIfInBounds_toArray, List.set_cons_zero, List.set_cons_succ]
      rfl
    refine take_ (i := 3) (N := some 47) (v := ?_) (a' := ?_) #[true, true, true, true, false, false, false, false, false, false, false, false, false] rfl rfl (by kernel_rfl) (fun _ _ _ h => h) (Or.inl ⟨by rfl, ?_⟩) hHeld ?_ ?_
    rotate_left
    · rintro w' ⟨s0, s1⟩
      go_simp
      with_reducible rfl
    rotate_left
    · simp only [Act.put, List.setIfInBounds_toArray, List.set_cons_zero, List.set_cons_succ]
      rfl
    refine pure_ (i := 4) (N := some 48) (v := ?_) (a' := ?_) #[true, true, true, true, true, false, false, false, false, false, false, false, false] rfl rfl (by kernel_rfl) (fun _ _ _ h => h) (Or.inl ⟨by rfl, ?_⟩) ?_ ?_
    rotate_left
    · intro w'
      go_simp
      with_reducible rfl
    rotate_left
    · simp only [Act.put, List.setIfInBounds_toArray, List.set_cons_zero, List.set_cons_succ]
      rfl
    refine pure_ (i := 5) (N := some 49) (v := ?_) (a' := ?_) #[true, true, true, true, true, true, false, false, false, false, false, false, false] rfl rfl (by kernel_rfl) (fun _ _ _ h => h) (Or.inl ⟨by rfl, ?_⟩) ?_ ?_
    rotate_left
    · intro w'
      go_simp
      with_reducible rfl
    rotate_left
    · simp only [Act.put, List.setIfInBounds_toArray, List.set_cons_zero, List.set_cons_succ]
      rfl
    refine pure_ (i := 6) (N := some 50) (v := ?_) (a' := ?_) #[true, true, true, true, true, true, true, false, false, false, false, false, false] rfl rfl (by kernel_rfl) (fun _ _ _ h => h) (Or.inl ⟨by rfl, ?_⟩) ?_ ?_
    rotate_left
    · intro w'
      go_simp
      with_reducible rfl
    rotate_left
    · simp only [Act.put, List.setIfInBounds_toArray, List.set_cons_zero, List.set_cons_succ]
      rfl
    refine take_ (i := 7) (N := some 51) (v := ?_) (a' := ?_) #[true, true, true, true, true, true, true, true, false, false, false, false, false] rfl rfl (by kernel_rfl) (fun _ _ _ h => h) (Or.inl ⟨by rfl, ?_⟩) hHeld ?_ ?_
    rotate_left
    · rintro w' ⟨s0, s1⟩
      go_simp
      with_reducible rfl
    rotate_left
    · simp only [Act.put, List.setIfInBounds_toArray, List.set_cons_zero, List.set_cons_succ]
      rfl
    refine pure_ (i := 8) (N := some 52) (v := ?_) (a' := ?_) #[true, true, true, true, true, true, true, true, true, false, false, false, false] rfl rfl (by kernel_rfl) (fun _ _ _ h => h) (Or.inl ⟨by rfl, ?_⟩) ?_ ?_
    rotate_left
    · intro w'
      go_simp
      with_reducible rfl
    rotate_left
    · simp only [Act.put, List.setIfInBounds_toArray, List.set_cons_zero, List.set_cons_succ]
      rfl
    refine pure_ (i := 9) (N := some 53) (v := ?_) (a' := ?_) #[true, true, true, true, true, true, true, true, true, true, false, false, false] rfl rfl (by kernel_rfl) (fun _ _ _ h => h) (Or.inl ⟨by rfl, ?_⟩) ?_ ?_
    rotate_left
    · intro w'
      go_simp
      with_reducible rfl
    rotate_left
    · simp only [Act.put, List.setIfInBounds_toArray, List.set_cons_zero, List.set_cons_succ]
      rfl
    refine pure_ (i := 10) (N := some 54) (v := ?_) (a' := ?_) #[true, true, true, true, true, true, true, true, true, true, true, false, false] rfl rfl (by kernel_rfl) (fun _ _ _ h => h) (Or.inl ⟨by rfl, ?_⟩) ?_ ?_
    rotate_left
    · intro w'
      go_simp
      with_reducible rfl
    rotate_left
    · simp only [Act.put, List.setIfInBounds_toArray, List.set_cons_zero, List.set_cons_succ]
      rfl
    refine pure_ (i := 11) (N := some 55) (v := ?_) (a' := ?_) #[true, true, true, true, true, true, true, true, true, true, true, true, false] rfl rfl (by kernel_rfl) (fun _ _ _ h => h) (Or.inl ⟨by rfl, ?_⟩) ?_ ?_
    rotate_left
    · intro w'
      go_simp
      with_reducible rfl
    rotate_left
    · simp only [Act.put, List.setIfInBounds_toArray, List.set_cons_zero, List.set_cons_succ]
      rfl
    refine pure_ (i := 12) (N := some 8) (v := ?_) (a' := ?_) #[true, true, true, true, true, true, true, true, true, true, true, true, true] rfl rfl (by kernel_rfl) (fun _ _ _ h => h) (Or.inl ⟨by rfl, ?_⟩) ?_ ?_
    rotate_left
    · intro w'
      go_simp
      with_reducible rfl
    rotate_left
    · simp only [Act.put, List.setIfInBounds_toArray, List.set_cons_zero, List.set_cons_succ]
      rfl
    refine done_ (by kernel_rfl) ?_
    clear hHeld es1 es2 es3
    go_wp2_with fail
    refine start_ (n := 20) (S := fun w' => w'.cell? ⟨gm, 1, none⟩ = some (.slice Ag gs.length cg) ∧ w'.cell? ⟨gm, 2, none⟩ = some (.map (some mb)) ∧ w'.cell? ⟨g7, 0, none⟩ = some (.int .u32 hi) ∧ w'.cell? ⟨g7, 1, none⟩ = some (.int .u32 lo)) (ds := [19]) #[false, false, false, false, false, false, false, false, false, false, false, false, false, false, false, false, false, false, false, false] (by kernel_rfl) rfl rfl ⟨(blk_cell KMX.out 1).trans rfl, (blk_cell KMX.out 2).trans rfl, (blk_cell BKX.out 0).trans rfl, (blk_cell BKX.out 1).trans rfl⟩ (fun hHeld => ?_)
    have HMA := Aside0.mk (HMX.out.step (W' := wx.drew) (below_drew1 (Below.refl _ _)))
    have HWA := Aside0.mk (show ∀ (b : Nat) (cs : Array Value), w.heap[b]? = some (.cells cs 68 (0, 0)) → wx.drew.heap[b]? = some (.cells cs 68 (0, 0)) from fun b cs h => blk_drew (HWX.out b cs h))
    have HOA := Aside0.mk (HOX.out.trans (OthersG.below (W1 := wx.drew) (below_drew1 (Below.refl _ _))))
    have KM := Aside0.mk (blk_drew KMX.out)
    have BKA := Aside0.mk (blk_drew BKX.out)
    have HQ := Aside0.mk (Kd.R_drew HQX.out)
    clear HMX HOX KMX BKX HQX HWX
    generalize wx.drew = wa at HMA HOA KM BKA HQ HWA hHeld ⊢
    refine pure_ (i := 0) (N := some 56) (v := ?_) (a' := ?_) #[true, false, false, false, false, false, false, false, false, false, false, false, false, false, false, false, false, false, false, false] rfl rfl (by kernel_rfl) (fun _ _ _ h => h) (Or.inl ⟨by rfl, ?_⟩) ?_ ?_
    rotate_left
    · intro w'
      go_simp
      with_reducible rfl
    rotate_left
    · simp only [Act.put, List.setIfInBounds_toArray, List.set_cons_zero, List.set_cons_succ]
      rfl
    refine pure_ (i := 1) (N := some 57) (v := ?_) (a' := ?_) #[true, true, false, false, false, false, false, false, false, false, false, false, false, false, false, false, false, false, false, false] rfl rfl (by kernel_rfl) (fun _ _ _ h => h) (Or.inl ⟨by rfl, ?_⟩) ?_ ?_
    rotate_left
    · intro w'
      go_simp
      with_reducible rfl
    rotate_left
    · simp only [Act.put, List.setIfInBounds_toArray, List.set_cons_zero, List.set_cons_succ]
      rfl
    refine pure_ (i := 2) (N := some 58) (v := ?_) (a' := ?_) #[true, true, true, false, false, false, false, false, false, false, false, false, false, false, false, false, false, false, false, false] rfl rfl (by kernel_rfl) (fun _ _ _ h => h) (Or.inl ⟨by rfl, ?_⟩) ?_ ?_
    rotate_left
    · intro w'
      go_simp
      with_reducible rfl
    rotate_left
    · simp only [Act.put, List.setIfInBounds_toArray, List.set_cons_zero, List.set_cons_succ]
      rfl
    refine take_ (i := 3) (N := some 59) (v := ?_) (a' := ?_) #[true, true, true, true, false, false, false, false, false, false, false, false, false, false, false, false, false, false, false, false] rfl rfl (by kernel_rfl) (fun _ _ _ h => h) (Or.inl ⟨by rfl, ?_⟩) hHeld ?_ ?_
    rotate_left
    · rintro w' ⟨s0, s1, s2, s3⟩
      go_simp
      with_reducible rfl
    rotate_left
    · simp only [Act.put, List.setIfInBounds_toArray, List.set_cons_zero, List.set_cons_succ]
      rfl
    refine take_ (i := 4) (N := some 60) (v := ?_) (a' := ?_) #[true, true, true, true, true, false, false, false, false, false, false, false, false, false, false, false, false, false, false, false] rfl rfl (by kernel_rfl) (fun _ _ _ h => h) (Or.inl ⟨by rfl, ?_⟩) hHeld ?_ ?_
    rotate_left
    · rintro w' ⟨s0, s1, s2, s3⟩
      go_simp
      with_reducible rfl
    rotate_left
    · simp only [Act.put, List.setIfInBounds_toArray, List.set_cons_zero, List.set_cons_succ]
      rfl
    refine pure_ (i := 5) (N := some 61) (v := ?_) (a' := ?_) #[true, true, true, true, true, true, false, false, false, false, false, false, false, false, false, false, false, false, false, false] rfl rfl (by kernel_rfl) (fun _ _ _ h => h) (Or.inl ⟨by rfl, ?_⟩) ?_ ?_
    rotate_left
    · intro w'
      go_simp
      with_reducible rfl
    rotate_left
    · simp only [Act.put, List.setIfInBounds_toArray, List.set_cons_zero, List.set_cons_succ]
      rfl
    refine pure_ (i := 6) (N := some 62) (v := ?_) (a' := ?_) #[true, true, true, true, true, true, true, false, false, false, false, false, false, false, false, false, false, false, false, false] rfl rfl (by kernel_rfl) (fun _ _ _ h => h) (Or.inl ⟨by rfl, ?_⟩) ?_ ?_
    rotate_left
    · intro w'
      go_simp
      with_reducible rfl
    rotate_left
    · simp only [Act.put, List.setIfInBounds_toArray, List.set_cons_zero, List.set_cons_succ]
      rfl
    refine pure_ (i := 7) (N := some 63) (v := ?_) (a' := ?_) #[true, true, true, true, true, true, true, true, false, false, false, false, false, false, false, false, false, false, false, false] rfl rfl (by kernel_rfl) (fun _ _ _ h => h) (Or.inl ⟨by rfl, ?_⟩) ?_ ?_
    rotate_left
    · intro w'
      go_simp
      with_reducible rfl
    rotate_left
    · simp only [Act.put, List.setIfInBounds_toArray, List.set_cons_zero, List.set_cons_succ]
      rfl
    refine pure_ (i := 8) (N := some 64) (v := ?_) (a' := ?_) #[true, true, true, true, true, true, true, true, true, false, false, false, false, false, false, false, false, false, false, false] rfl rfl (by kernel_rfl) (fun _ _ _ h => h) (Or.inl ⟨by rfl, ?_⟩) ?_ ?_
    rotate_left
    · intro w'
      go_simp
      with_reducible rfl
    rotate_left
    · simp only [Act.put, List.setIfInBounds_toArray, List.set_cons_zero, List.set_cons_succ]
      rfl
    refine pure_ (i := 9) (N := some 65) (v := ?_) (a' := ?_) #[true, true, true, true, true, true, true, true, true, true, false, false, false, false, false, false, false, false, false, false] rfl rfl (by kernel_rfl) (fun _ _ _ h => h) (Or.inl ⟨by rfl, ?_⟩) ?_ ?_
    rotate_left
    · intro w'
      go_simp
      with_reducible rfl
    rotate_left
    · simp only [Act.put, List.setIfInBounds_toArray, List.set_cons_zero, List.set_cons_succ]
      rfl
    refine take_ (i := 10) (N := some 66) (v := ?_) (a' := ?_) #[true, true, true, true, true, true, true, true, true, true, true, false, false, false, false, false, false, false, false, false] rfl rfl (by kernel_rfl) (fun _ _ _ h => h) (Or.inl ⟨by rfl, ?_⟩) hHeld ?_ ?_
    rotate_left
    · rintro w' ⟨s0, s1, s2, s3⟩
      go_simp
      with_reducible rfl
    rotate_left
    · simp only [Act.put, List.setIfInBounds_toArray, List.set_cons_zero, List.set_cons_succ]
      rfl
    refine take_ (i := 11) (N := some 67) (v := ?_) (a' := ?_) #[true, true, true, true, true, true, true, true, true, true, true, true, false, false, false, false, false, false, false, false] rfl rfl (by kernel_rfl) (fun _ _ _ h => h) (Or.inl ⟨by rfl, ?_⟩) hHeld ?_ ?_
    rotate_left
    · rintro w' ⟨s0, s1, s2, s3⟩
      go_simp
      with_reducible rfl
    rotate_left
    · simp only [Act.put, List.setIfInBounds_toArray, List.set_cons_zero, List.set_cons_succ]
      rfl
    refine one_ (i := 12) (N := some 68) #[true, true, true, true, true, true, true, true, true, true, true, true, true, false, false, false, false, false, false, false] rfl rfl (by kernel_rfl) (by decide) (fun K hK => ?_)
    refine value_ (w1 := ?_) (v := ?_) (by rfl) rfl ?_ ?_
    rotate_left 2
    · go_simp
      constructor
      · rfl
      · rfl
    refine hK.out _ _ ⟨(blk_cell (blk_alloc KM.out _) 1).trans rfl, (blk_cell (blk_alloc KM.out _) 2).trans rfl, (blk_cell (blk_alloc BKA.out _) 0).trans rfl, (blk_cell (blk_alloc BKA.out _) 1).trans rfl⟩ (fun hHeld => ?_)
    clear hK K
    refine norm_ (a' := ?_) ?_ ?_
    rotate_left
    · show Act.put _ (some 68) _ = _
      simp only [Act.put, List.setIfInBounds_toArray, List.set_cons_zero, List.set_cons_succ]
      rfl
    refine one_ (i := 13) (N := some 69) #[true, true, true, true, true, true, true, true, true, true, true, true, true, true, false, false, false, false, false, false] rfl rfl (by kernel_rfl) (by decide) (fun K hK => ?_)
    refine Kd.R_append_step k68 (w0 := w0) w0.heap.size (by rfl) (.tmp 66) (.tmp 68) 23 68 (.agg #[(.int .u32 0), (.int .u32 0)]) 8 rfl Try.underlying23 info68 rfl (by decide) (by omega) (.slice Ag gs.length cg) gs (⟨hi, lo⟩ : S68) [.int .u32 hi, .int .u32 lo] (fun _ => True) (fun _ => False) rfl rfl (k68_mkM _ _ _ (⟨hi, lo⟩ : S68)) (fun _ hk => hk.elim) (fun _ _ => trivial) HQ.out HMA.out.below HMA.out.below.size (by have := HGL.out; omega) ?_
    intro v1 w1 hR hB hg _
    obtain ⟨Av, cv, hv_⟩ := Kd.R_slice hR
    subst hv_
    have HAD := Aside0.mk (fun es1 k1 => HMA.out.added KM.out HQ.out HNO.out HHI.out HLO.out hR hB hg es1 ((entG first gs).toArray.push ⟨keyG hi lo, .int .u32 (2 * (first + (gs.length : Int))), gs.length⟩) k1 (gs.length + 1) ⟨by simp [entG_snoc], by simp⟩)
    have KM1 := Aside0.mk (HAD.out #[] 0).2.2.1
    have MP1 := Aside0.mk (HAD.out #[] 0).2.2.2.1
    have BKB := Aside0.mk (blk_grown BKA.out hg HG7.out)
    clear hR hB hg
    refine hK.out _ _ ⟨(blk_cell KM1.out 1).trans rfl, (blk_cell KM1.out 2).trans rfl, (blk_cell BKB.out 0).trans rfl, (blk_cell BKB.out 1).trans rfl⟩ (fun hHeld => ?_)
    clear hK K
    refine norm_ (a' := ?_) ?_ ?_
    rotate_left
    · show Act.put _ (some 69) _ = _
      simp only [Act.put, List.setIfInBounds_toArray, List.set_cons_zero, List.set_cons_succ]
      rfl
    obtain ⟨w2, hw2⟩ : ∃ w2, setBlock w1 mb (.map ((entG first gs).toArray.push ⟨keyG hi lo, .int .u32 0, gs.length⟩) (gs.length + 1)) = w2 := ⟨_, rfl⟩
    have hme := mapG_entry MP1.out HMA.out.ok HHI.out HLO.out HNO.out
    rw [hw2] at hme
    unfold keyG at hme
    have HME := Aside0.mk hme
    clear hme
    have KM2 := Aside0.mk (show w2.heap[gm]? = some (.cells #[.int .u32 first, .slice Ag gs.length cg, .map (some mb)] 123 (0, 0)) from by rw [← hw2]; exact (heap_setBlock_other MP1.out _ (fun e => by have := KM1.out; rw [e, MP1.out] at this; cases this)).trans KM1.out)
    have BKC := Aside0.mk (show w2.heap[g7]? = some (.cells #[.int .u32 hi, .int .u32 lo] 68 (0, 0)) from by rw [← hw2]; exact (heap_setBlock_other MP1.out _ (fun e => by have := BKB.out; rw [e, MP1.out] at this; cases this)).trans BKB.out)
    have MP2 := Aside0.mk (show w2.heap[mb]? = some (.map ((entG first gs).toArray.push ⟨keyG hi lo, .int .u32 0, gs.length⟩) (gs.length + 1)) from by rw [← hw2]; exact heap_setBlock_same MP1.out _)
    have HW2 := Aside0.mk hw2
    clear hw2
    refine one_ (i := 14) (N := some 70) #[true, true, true, true, true, true, true, true, true, true, true, true, true, true, true, false, false, false, false, false] rfl rfl (by kernel_rfl) (by decide) (fun K hK => ?_)
    refine value_ (w1 := ?_) (v := ?_) (by rfl) rfl ?_ ?_
    rotate_left 2
    · have hme := HME.out
      go_simp
      constructor
      · rfl
      · rfl
    refine hK.out _ _ ⟨(blk_cell KM2.out 1).trans rfl, (blk_cell KM2.out 2).trans rfl, (blk_cell BKC.out 0).trans rfl, (blk_cell BKC.out 1).trans rfl⟩ (fun hHeld => ?_)
    clear hK K
    refine norm_ (a' := ?_) ?_ ?_
    rotate_left
    · show Act.put _ (some 70) _ = _
      simp only [Act.put, List.setIfInBounds_toArray, List.set_cons_zero, List.set_cons_succ]
      rfl
    refine pure_ (i := 15) (N := some 71) (v := ?_) (a' := ?_) #[true, true, true, true, true, true, true, true, true, true, true, true, true, true, true, true, false, false, false, false] rfl rfl (by kernel_rfl) (fun _ _ _ h => h) (Or.inl ⟨by rfl, ?_⟩) ?_ ?_
    rotate_left
    · intro w'
      go_simp
      with_reducible rfl
    rotate_left
    · simp only [Act.put, List.setIfInBounds_toArray, List.set_cons_zero, List.set_cons_succ]
      rfl
    obtain ⟨w3, hw3⟩ : ∃ w3, setBlock w2 mb (.map ((entG first gs).toArray.push ⟨keyG hi lo, .int .u32 (2 * (first + (gs.length : Int))), gs.length⟩) (gs.length + 1)) = w3 := ⟨_, rfl⟩
    have hms := mapG_store (.int .u32 (2 * (first + (gs.length : Int)))) MP2.out
    rw [hw3] at hms
    have HMS := Aside0.mk hms
    clear hms
    have KM3 := Aside0.mk (show w3.heap[gm]? = some (.cells #[.int .u32 first, .slice Ag gs.length cg, .map (some mb)] 123 (0, 0)) from by rw [← hw3]; exact (heap_setBlock_other MP2.out _ (fun e => by have := KM2.out; rw [e, MP2.out] at this; cases this)).trans KM2.out)
    have BKD := Aside0.mk (show w3.heap[g7]? = some (.cells #[.int .u32 hi, .int .u32 lo] 68 (0, 0)) from by rw [← hw3]; exact (heap_setBlock_other MP2.out _ (fun e => by have := BKC.out; rw [e, MP2.out] at this; cases this)).trans BKC.out)
    have HFIN := HAD.out ((entG first gs).toArray.push ⟨keyG hi lo, .int .u32 0, gs.length⟩) (gs.length + 1)
    rw [HW2.out, hw3, show (gs ++ [(⟨hi, lo⟩ : S68)]).length = gs.length + 1 from by simp] at HFIN
    replace HFIN := Aside0.mk HFIN
    clear hw3 HAD
    refine one_ (i := 16) (N := none) #[true, true, true, true, true, true, true, true, true, true, true, true, true, true, true, true, true, false, false, false] rfl rfl (by kernel_rfl) (by decide) (fun K hK => ?_)
    refine skip_step (w1 := ?_) (by rfl) rfl ?_ ?_
    rotate_left
    · have hme := HMS.out
      go_simp
      rfl
    refine hK.out _ _ ⟨(blk_cell KM3.out 1).trans rfl, (blk_cell KM3.out 2).trans rfl, (blk_cell BKD.out 0).trans rfl, (blk_cell BKD.out 1).trans rfl⟩ (fun hHeld => ?_)
    clear hK K
    refine pure_ (i := 17) (N := some 72) (v := ?_) (a' := ?_) #[true, true, true, true, true, true, true, true, true, true, true, true, true, true, true, true, true, true, false, false] rfl rfl (by kernel_rfl) (fun _ _ _ h => h) (Or.inl ⟨by rfl, ?_⟩) ?_ ?_
    rotate_left
    · intro w'
      go_simp
      with_reducible rfl
    rotate_left
    · simp only [Act.put, List.setIfInBounds_toArray, List.set_cons_zero, List.set_cons_succ]
      rfl
    refine pure_ (i := 18) (N := some 73) (v := ?_) (a' := ?_) #[true, true, true, true, true, true, true, true, true, true, true, true, true, true, true, true, true, true, true, false] rfl rfl (by kernel_rfl) (fun _ _ _ h => h) (Or.inl ⟨by rfl, ?_⟩) ?_ ?_
    rotate_left
    · intro w'
      go_simp
      with_reducible rfl
    rotate_left
    · simp only [Act.put, List.setIfInBounds_toArray, List.set_cons_zero, List.set_cons_succ]
      rfl
    have i1 : w3.cell? ⟨gm, 1, none⟩ = some (.slice Ag gs.length cg) := (blk_cell KM3.out 1).trans rfl
    have fr := blk_frozen KM3.out 1
    clear hHeld
    refine last_ (i := 19) (N := none) #[true, true, true, true, true, true, true, true, true, true, true, true, true, true, true, true, true, true, true, true] rfl rfl (by kernel_rfl) (by decide) (fun K hK => ?_)
    refine skip_step (w1 := ?_) (by rfl) rfl ?_ ?_
    rotate_left
    · go_simp
      rfl
    refine hK.out _ _ ?_
    clear hK K
    refine done_ (by kernel_rfl) ?_
    clear i1 fr
    go_wp2
    go_ret
    exact ⟨rfl, HFIN.out.1, HOA.out.trans HFIN.out.2.1, fun b cs h hv => HFIN.out.2.2.2.2.2 b cs (HWA.out b cs h) (hv _ HG0.out)⟩
end Go.Proofs.Yteiiodlgdbiimaa.F
end
section
namespace Go.Proofs.Yteiiodlgdbiimaa.F
open Go.Joins Go.ChangeShapes Go.WideShapes Go.ChangeAt Go.Deep Go.RowKit Go.Proofs.YteiiodlgdbiimaaW.PrintWords Go.Proofs.YteiiodlgdbiimaaW.PrintLast Go.Proofs.YteiiodlgdbiimaaW.PrintMore
set_option linter.unusedVariables false
set_option linter.unusedSimpArgs false
section
variable {H : Type} {enc : TypeId × Value → H} {w : World} {base : Nat} {spare : Nat → Bool} {held : Bool}
theorem open_pairs {t e : TypeId} {fs : Array Field} {fuel : Nat} {cs : List Value} {x : DataW H × List MemPlace} (ht : Try.prog.underlying t = some (.slice e)) (he : Try.prog.underlying e = some (.struct fs))
    (hone : oneCellFields Try.prog fs = true) (hC : Try.prog.cellsOf e = fs.size) (h : DataW.trod enc Try.prog w base spare held fuel t cs = some x) :
    (cs = [.slice none 0 0] ∧ x = (.nil, [])) ∨
    ∃ (a : Addr) (len cap m : Nat) (D : Nat → DataW H) (Pl : Nat → List MemPlace), cs = [.slice (some a) len cap] ∧ base ≤ a.block ∧ len ≤ cap ∧ cap ≤ maxLen ∧ m = (if spare a.block then cap else len) ∧
      x = (.slice ((List.range len).map D) ((List.range (m - len)).map fun j => D (len + j)), MemPlace.row a (m * fs.size) ++ (List.range m).flatMap Pl) ∧
      ∀ i, i < m → ∃ (ys : List (DataW H × List MemPlace)) (n : Nat), D i = .agg (ys.map (·.1)) ∧ Pl i = ys.flatMap (·.2) ∧ ys.length = fs.size ∧
        ∀ (j : Nat) (f : Field), fs[j]? = some f → ∃ (v : Value) (y : DataW H × List MemPlace), w.cell? (a.add (i * fs.size + j)) = some v ∧ ys[j]? = some y ∧ DataW.trod enc Try.prog w base spare held n f.type [v] = some y := by
  rcases open_slice ht h with h0 | ⟨a, len, cap, m, n, D, Pl, hcs, hb, hl, hm, hmm, hx, hi⟩
  · exact .inl h0
  · refine .inr ⟨a, len, cap, m, D, Pl, hcs, hb, hl, hm, hmm, by rw [hC] at hx; exact hx, fun i him => ?_⟩
    obtain ⟨cs', hc, ht'⟩ := hi i him
    rw [hC] at hc
    obtain ⟨ys, n', hn', hy, hlen, hyl, hf⟩ := DataW.trod_struct he ht'
    obtain ⟨_, hcl, hat⟩ := World.cells?_some hc
    simp only [Prod.mk.injEq] at hy
    refine ⟨ys, n', hy.1, hy.2, hyl, fun j f hj => ?_⟩
    obtain ⟨ho, hk⟩ := hone_of hone j f hj
    have hjl : j < fs.size := (Array.getElem?_eq_some_iff.1 hj).1
    have hcell := hat j hjl
    have hv : cs'[j]? = some (cs'[j]'(by omega)) := List.getElem?_eq_getElem (by omega)
    have h1 := hf j f hj
    rw [ho, hk] at h1
    have hone' : (cs'.drop j).take 1 = [cs'[j]'(by omega)] := by
      rw [List.drop_eq_getElem_cons (by omega)]
      rfl
    rw [hone'] at h1
    have hys : ys[j]? = some (ys[j]'(by omega)) := List.getElem?_eq_getElem (by omega)
    refine ⟨_, _, ?_, hys, h1.trans hys⟩
    rw [← Go.Deep.add_add, hcell, hv]
end
section
variable {H : Type} {enc : TypeId × Value → H} {w : World} {base : Nat} {spare : Nat → Bool} {held : Bool}
set_option maxRecDepth 100000 in
theorem open_six {r : Reach} {b0 : Nat} {t : TypeId} {f0 f1 f2 f3 f4 f5 : Field} {v : Value} {d : DataW H} {p : List MemPlace} (hs : Try.prog.underlying t = some (.struct #[f0, f1, f2, f3, f4, f5])) (hone : oneCellFields Try.prog #[f0, f1, f2, f3, f4, f5] = true) (hC : Try.prog.cellsOf t = 6)
    (hv : Value.okWide Try.prog w r b0 t v) (h : DataW.Trod enc Try.prog w base spare held t v d p) :
    ∃ (v0 v1 v2 v3 v4 v5 : Value) (y0 y1 y2 y3 y4 y5 : DataW H × List MemPlace) (n : Nat), v = .agg #[v0, v1, v2, v3, v4, v5] ∧ d = .agg [y0.1, y1.1, y2.1, y3.1, y4.1, y5.1] ∧ p = y0.2 ++ (y1.2 ++ (y2.2 ++ (y3.2 ++ (y4.2 ++ y5.2)))) ∧
      DataW.trod enc Try.prog w base spare held n f0.type [v0] = some y0 ∧ DataW.trod enc Try.prog w base spare held n f1.type [v1] = some y1 ∧ DataW.trod enc Try.prog w base spare held n f2.type [v2] = some y2 ∧ DataW.trod enc Try.prog w base spare held n f3.type [v3] = some y3 ∧ DataW.trod enc Try.prog w base spare held n f4.type [v4] = some y4 ∧ DataW.trod enc Try.prog w base spare held n f5.type [v5] = some y5 := by
  obtain ⟨cs, rfl, hsz⟩ := okWide_struct hs hv
  obtain ⟨l⟩ := cs
  match l, hsz.trans hC with
  | [c0, c1, c2, c3, c4, c5], _ =>
    obtain ⟨fuel, hf⟩ := h
    obtain ⟨xs, n, _, hx, _, hlen, hg⟩ := DataW.trod_struct hs hf
    obtain ⟨o0, k0⟩ := hone_of hone 0 f0 rfl
    obtain ⟨o1, k1⟩ := hone_of hone 1 f1 rfl
    obtain ⟨o2, k2⟩ := hone_of hone 2 f2 rfl
    obtain ⟨o3, k3⟩ := hone_of hone 3 f3 rfl
    obtain ⟨o4, k4⟩ := hone_of hone 4 f4 rfl
    obtain ⟨o5, k5⟩ := hone_of hone 5 f5 rfl
    match xs, hlen with
    | [y0, y1, y2, y3, y4, y5], _ =>
      simp only [Prod.mk.injEq] at hx
      exact ⟨c0, c1, c2, c3, c4, c5, y0, y1, y2, y3, y4, y5, n, rfl, by simpa using hx.1, by simpa using hx.2, by simpa [Value.cells, o0, k0] using hg 0 f0 rfl, by simpa [Value.cells, o1, k1] using hg 1 f1 rfl, by simpa [Value.cells, o2, k2] using hg 2 f2 rfl, by simpa [Value.cells, o3, k3] using hg 3 f3 rfl, by simpa [Value.cells, o4, k4] using hg 4 f4 rfl, by simpa [Value.cells, o5, k5] using hg 5 f5 rfl⟩
end
theorem list_of {α : Type} (Q : Nat → α → Prop) : ∀ n : Nat, (∀ i, i < n → ∃ g, Q i g) → ∃ l : List α, l.length = n ∧ ∀ i g, l[i]? = some g → Q i g
  | 0, _ => ⟨[], rfl, fun i g h => by simp at h⟩
  | n + 1, h => by
    obtain ⟨l, hl, hq⟩ := list_of Q n (fun i hi => h i (by omega))
    obtain ⟨g, hg⟩ := h n (by omega)
    refine ⟨l ++ [g], by simp [hl], fun i x hx => ?_⟩
    by_cases hi : i < n
    · rw [List.getElem?_append_left (by omega)] at hx
      exact hq i x hx
    · have hi2 : i = n := by
        have := (List.getElem?_eq_some_iff.1 hx).1
        simp only [List.length_append, List.length_singleton, hl] at this
        omega
      subst hi2
      rw [List.getElem?_append_right (by omega), hl] at hx
      simp at hx
      rw [← hx]
      exact hg
theorem wf_u32 {x : Int} (h : (Lit.int .u32 x).wf = true) : 0 ≤ x ∧ x < 4294967296 := by
  simp only [Lit.wf, Bool.and_eq_true, decide_eq_true_eq] at h
  rw [show IntKind.u32.min = 0 from by decide, show IntKind.u32.max = 4294967295 from by decide] at h
  omega
theorem wf_u8 {x : Int} (h : (Lit.int .u8 x).wf = true) : 0 ≤ x ∧ x < 256 := by
  simp only [Lit.wf, Bool.and_eq_true, decide_eq_true_eq] at h
  rw [show IntKind.u8.min = 0 from by decide, show IntKind.u8.max = 255 from by decide] at h
  omega
theorem wf_i64 {x : Int} (h : (Lit.int .i64 x).wf = true) : -9223372036854775808 ≤ x ∧ x < 9223372036854775808 := by
  simp only [Lit.wf, Bool.and_eq_true, decide_eq_true_eq] at h
  rw [show IntKind.i64.min = -9223372036854775808 from by decide, show IntKind.i64.max = 9223372036854775807 from by decide] at h
  omega
theorem open41 {H : Type} {enc : TypeId × Value → H} {w : World} {base : Nat} {sp : Nat → Bool} {held : Bool} {fuel : Nat} {v : Value} {x : DataW H × List MemPlace} (h : DataW.trod enc Try.prog w base sp held fuel 22 [v] = some x) :
    ∃ (A : Option Addr) (c : Nat) (l : List S41), v = .slice A l.length c ∧ l.length ≤ c ∧ Kd.C k41 w A l.length l ∧ ∀ g ∈ l, (0 ≤ g.f0 ∧ g.f0 < 4294967296) ∧ (0 ≤ g.f1 ∧ g.f1 < 256) := by
  rcases open_pairs Try.underlying22 Try.underlying41 (by kernel_rfl) (by kernel_rfl) h with ⟨hcs, _⟩ | ⟨a, len, cap, m, D, Pl, hcs, hb, hl, hm, hmm, _, hi⟩
  · injection hcs with e1 _
    exact ⟨none, 0, [], e1, Nat.le_refl _, ⟨rfl, by simp, fun h => absurd h (by simp)⟩, fun g hg => by cases hg⟩
  · injection hcs with e1 _
    have hlm : len ≤ m := by rw [hmm]; split <;> omega
    obtain ⟨l, hll, hq⟩ := list_of (fun i (g : S41) => (w.cell? (a.add (i * 2 + 0)) = some (.int .u32 g.f0) ∧ w.cell? (a.add (i * 2 + 1)) = some (.int .u8 g.f1)) ∧ (0 ≤ g.f0 ∧ g.f0 < 4294967296) ∧ (0 ≤ g.f1 ∧ g.f1 < 256)) len (fun i hlt => by
      obtain ⟨ys, n, _, _, _, hf⟩ := hi i (by omega)
      obtain ⟨v0, y0, c0, _, t0⟩ := hf 0 _ rfl
      obtain ⟨v1, y1, c1, _, t1⟩ := hf 1 _ rfl
      obtain ⟨n0, e0, _, w0⟩ := DataW.trod_int Try.underlying39 t0
      obtain ⟨n1, e1', _, w1⟩ := DataW.trod_int Try.underlying5 t1
      injection e0 with e0 _
      injection e1' with e1' _
      subst e0
      subst e1'
      exact ⟨⟨n0, n1⟩, ⟨c0, c1⟩, wf_u32 w0, wf_u8 w1⟩)
    refine ⟨some a, cap, l, by rw [hll]; exact e1, by omega, ⟨rfl, by simp only [maxLen] at hm; omega, fun _ => ⟨a, rfl, fun j p hj => ⟨[.int .u32 p.f0, .int .u8 p.f1], rfl, k41_mk w p, fun i u hu => ?_⟩⟩⟩, fun g hg => ?_⟩
    · obtain ⟨⟨q0, q1⟩, _⟩ := hq j p hj
      cases i with
      | zero =>
        cases hu
        exact q0
      | succ i =>
        cases i with
        | zero =>
          cases hu
          exact q1
        | succ i => simp at hu
    · obtain ⟨j, hj, rfl⟩ := List.mem_iff_getElem.1 hg
      exact (hq j _ (List.getElem?_eq_getElem hj)).2
theorem open68 {H : Type} {enc : TypeId × Value → H} {w : World} {base : Nat} {sp : Nat → Bool} {held : Bool} {fuel : Nat} {v : Value} {x : DataW H × List MemPlace} (h : DataW.trod enc Try.prog w base sp held fuel 23 [v] = some x) :
    ∃ (A : Option Addr) (c : Nat) (l : List S68), v = .slice A l.length c ∧ l.length ≤ c ∧ Kd.C k68 w A l.length l ∧ ∀ g ∈ l, (0 ≤ g.f0 ∧ g.f0 < 4294967296) ∧ (0 ≤ g.f1 ∧ g.f1 < 4294967296) := by
  rcases open_pairs Try.underlying23 Try.underlying68 (by kernel_rfl) (by kernel_rfl) h with ⟨hcs, _⟩ | ⟨a, len, cap, m, D, Pl, hcs, hb, hl, hm, hmm, _, hi⟩
  · injection hcs with e1 _
    exact ⟨none, 0, [], e1, Nat.le_refl _, ⟨rfl, by simp, fun h => absurd h (by simp)⟩, fun g hg => by cases hg⟩
  · injection hcs with e1 _
    have hlm : len ≤ m := by rw [hmm]; split <;> omega
    obtain ⟨l, hll, hq⟩ := list_of (fun i (g : S68) => (w.cell? (a.add (i * 2 + 0)) = some (.int .u32 g.f0) ∧ w.cell? (a.add (i * 2 + 1)) = some (.int .u32 g.f1)) ∧ (0 ≤ g.f0 ∧ g.f0 < 4294967296) ∧ (0 ≤ g.f1 ∧ g.f1 < 4294967296)) len (fun i hlt => by
      obtain ⟨ys, n, _, _, _, hf⟩ := hi i (by omega)
      obtain ⟨v0, y0, c0, _, t0⟩ := hf 0 _ rfl
      obtain ⟨v1, y1, c1, _, t1⟩ := hf 1 _ rfl
      obtain ⟨n0, e0, _, w0⟩ := DataW.trod_int Try.underlying39 t0
      obtain ⟨n1, e1', _, w1⟩ := DataW.trod_int Try.underlying39 t1
      injection e0 with e0 _
      injection e1' with e1' _
      subst e0
      subst e1'
      exact ⟨⟨n0, n1⟩, ⟨c0, c1⟩, wf_u32 w0, wf_u32 w1⟩)
    refine ⟨some a, cap, l, by rw [hll]; exact e1, by omega, ⟨rfl, by simp only [maxLen] at hm; omega, fun _ => ⟨a, rfl, fun j p hj => ⟨[.int .u32 p.f0, .int .u32 p.f1], rfl, k68_mk w p, fun i u hu => ?_⟩⟩⟩, fun g hg => ?_⟩
    · obtain ⟨⟨q0, q1⟩, _⟩ := hq j p hj
      cases i with
      | zero =>
        cases hu
        exact q0
      | succ i =>
        cases i with
        | zero =>
          cases hu
          exact q1
        | succ i => simp at hu
    · obtain ⟨j, hj, rfl⟩ := List.mem_iff_getElem.1 hg
      exact (hq j _ (List.getElem?_eq_getElem hj)).2
theorem openU {H : Type} {enc : TypeId × Value → H} {w : World} {base : Nat} {sp : Nat → Bool} {held : Bool} {fuel : Nat} {v : Value} {x : DataW H × List MemPlace} (h : DataW.trod enc Try.prog w base sp held fuel 24 [v] = some x) :
    ∃ (A : Option Addr) (c : Nat) (l : List Int), v = .slice A l.length c ∧ l.length ≤ c ∧ Kd.C (Kd.int .u32) w A l.length l ∧ ∀ g ∈ l, 0 ≤ g ∧ g < 4294967296 := by
  rcases open_ints Try.underlying24 Try.underlying39 (by kernel_rfl) h with ⟨hcs, _⟩ | ⟨a, len, cap, zs, hcs, _, hl, hm, hz, _, hcell, hwz⟩
  · injection hcs with e1 _
    exact ⟨none, 0, [], e1, Nat.le_refl _, ⟨rfl, by simp, fun h => absurd h (by simp)⟩, fun g hg => by cases hg⟩
  · injection hcs with e1 _
    have hlz : len ≤ zs.length := by rw [hz]; split <;> omega
    have hlen : (zs.take len).length = len := by rw [List.length_take]; omega
    refine ⟨some a, cap, zs.take len, by rw [hlen]; exact e1, by omega, ⟨rfl, by simp only [maxLen] at hm; omega, fun _ => ⟨a, rfl, fun j p hj => ⟨[.int .u32 p], rfl, rfl, fun i u hu => ?_⟩⟩⟩, fun g hg => wf_u32 (hwz g (List.mem_of_mem_take hg))⟩
    cases i with
    | zero =>
      cases hu
      obtain ⟨hj1, hj2⟩ := List.getElem?_eq_some_iff.1 hj
      have hj3 : j < zs.length := by omega
      have := hcell j hj3
      rw [List.getD_eq_getElem?_getD, List.getElem?_eq_getElem hj3, Option.getD_some] at this
      rw [List.getElem_take] at hj2
      rw [hj2] at this
      show w.cell? (a.add (j * 1 + 0)) = _
      rw [Nat.mul_one, Nat.add_zero]
      exact this
    | succ i => simp at hu
theorem openB {H : Type} {enc : TypeId × Value → H} {w : World} {base : Nat} {sp : Nat → Bool} {held : Bool} {fuel : Nat} {v : Value} {x : DataW H × List MemPlace} (h : DataW.trod enc Try.prog w base sp held fuel 28 [v] = some x) :
    ∃ (A : Option Addr) (c : Nat) (l : List Int), v = .slice A l.length c ∧ l.length ≤ c ∧ Kd.C (Kd.int .u8) w A l.length l ∧ ∀ g ∈ l, 0 ≤ g ∧ g < 256 := by
  rcases open_ints Try.underlying28 Try.underlying5 (by kernel_rfl) h with ⟨hcs, _⟩ | ⟨a, len, cap, zs, hcs, _, hl, hm, hz, _, hcell, hwz⟩
  · injection hcs with e1 _
    exact ⟨none, 0, [], e1, Nat.le_refl _, ⟨rfl, by simp, fun h => absurd h (by simp)⟩, fun g hg => by cases hg⟩
  · injection hcs with e1 _
    have hlz : len ≤ zs.length := by rw [hz]; split <;> omega
    have hlen : (zs.take len).length = len := by rw [List.length_take]; omega
    refine ⟨some a, cap, zs.take len, by rw [hlen]; exact e1, by omega, ⟨rfl, by simp only [maxLen] at hm; omega, fun _ => ⟨a, rfl, fun j p hj => ⟨[.int .u8 p], rfl, rfl, fun i u hu => ?_⟩⟩⟩, fun g hg => wf_u8 (hwz g (List.mem_of_mem_take hg))⟩
    cases i with
    | zero =>
      cases hu
      obtain ⟨hj1, hj2⟩ := List.getElem?_eq_some_iff.1 hj
      have hj3 : j < zs.length := by omega
      have := hcell j hj3
      rw [List.getD_eq_getElem?_getD, List.getElem?_eq_getElem hj3, Option.getD_some] at this
      rw [List.getElem_take] at hj2
      rw [hj2] at this
      show w.cell? (a.add (j * 1 + 0)) = _
      rw [Nat.mul_one, Nat.add_zero]
      exact this
    | succ i => simp at hu
def InU32 (l : List Int) : Prop := ∀ g ∈ l, 0 ≤ g ∧ g < 4294967296
def InU8 (l : List Int) : Prop := ∀ g ∈ l, 0 ≤ g ∧ g < 256
def In41 (l : List S41) : Prop := ∀ g ∈ l, (0 ≤ g.f0 ∧ g.f0 < 4294967296) ∧ (0 ≤ g.f1 ∧ g.f1 < 256)
def In68 (l : List S68) : Prop := ∀ g ∈ l, (0 ≤ g.f0 ∧ g.f0 < 4294967296) ∧ (0 ≤ g.f1 ∧ g.f1 < 4294967296)
set_option maxRecDepth 100000 in
theorem openCirc {H : Type} {enc : TypeId × Value → H} {w : World} {base : Nat} {sp : Nat → Bool} {held : Bool} {r : Reach} {b0 : Nat} {v : Value} {d : DataW H} {p : List MemPlace} (hv : Value.okWide Try.prog w r b0 26 v) (h : DataW.Trod enc Try.prog w base sp held 26 v d p) :
    ∃ (a0 : Int) (A1 : Option Addr) (c1 : Nat) (l1 : List S41) (A2 : Option Addr) (c2 : Nat) (l2 : List S68) (A3 : Option Addr) (c3 : Nat) (l3 : List Int) (A4 : Option Addr) (c4 : Nat) (l4 : List Int) (A5 : Option Addr) (c5 : Nat) (l5 : List Int),
      v = .agg #[.int .i64 a0, .slice A1 l1.length c1, .slice A2 l2.length c2, .slice A3 l3.length c3, .slice A4 l4.length c4, .slice A5 l5.length c5] ∧
      (-9223372036854775808 ≤ a0 ∧ a0 < 9223372036854775808) ∧ (l1.length ≤ c1 ∧ Kd.C k41 w A1 l1.length l1 ∧ In41 l1) ∧ (l2.length ≤ c2 ∧ Kd.C k68 w A2 l2.length l2 ∧ In68 l2) ∧
      (l3.length ≤ c3 ∧ Kd.C (Kd.int .u32) w A3 l3.length l3 ∧ InU32 l3) ∧ (l4.length ≤ c4 ∧ Kd.C (Kd.int .u32) w A4 l4.length l4 ∧ InU32 l4) ∧ (l5.length ≤ c5 ∧ Kd.C (Kd.int .u32) w A5 l5.length l5 ∧ InU32 l5) := by
  obtain ⟨v0, v1, v2, v3, v4, v5, y0, y1, y2, y3, y4, y5, n, rfl, _, _, t0, t1, t2, t3, t4, t5⟩ := open_six Try.underlying26 (by kernel_rfl) (by kernel_rfl) hv h
  obtain ⟨a0, e0, _, w0⟩ := DataW.trod_int Try.underlying3 t0
  injection e0 with e0 _
  subst e0
  obtain ⟨A1, c1, l1, rfl, h1, k1, i1⟩ := open41 t1
  obtain ⟨A2, c2, l2, rfl, h2, k2, i2⟩ := open68 t2
  obtain ⟨A3, c3, l3, rfl, h3, k3, i3⟩ := openU t3
  obtain ⟨A4, c4, l4, rfl, h4, k4, i4⟩ := openU t4
  obtain ⟨A5, c5, l5, rfl, h5, k5, i5⟩ := openU t5
  exact ⟨a0, A1, c1, l1, A2, c2, l2, A3, c3, l3, A4, c4, l4, A5, c5, l5, rfl, wf_i64 w0, ⟨h1, k1, i1⟩, ⟨h2, k2, i2⟩, ⟨h3, k3, i3⟩, ⟨h4, k4, i4⟩, ⟨h5, k5, i5⟩⟩
end Go.Proofs.Yteiiodlgdbiimaa.F
end
section
namespace Go.Proofs.Yteiiodlgdbiimaa.F
open Go.RowKit Go.Shelf Go.Proofs.YteiiodlgdbiimaaW.PrintWords Go.Proofs.YteiiodlgdbiimaaW.PrintLast Go.Proofs.YteiiodlgdbiimaaW.PrintMore
set_option linter.unusedVariables false
set_option linter.unusedSimpArgs false
theorem Ev.ifp {α : Type} {c : Prop} [Decidable c] {g f : Nat → Option α} {r : α} (hc : c) (h : Ev g r) : Ev (fun k => if c then g k else f k) r := Ev.congr (fun k => if_pos hc) h
theorem Ev.ifn {α : Type} {c : Prop} [Decidable c] {g f : Nat → Option α} {r : α} (hc : ¬ c) (h : Ev f r) : Ev (fun k => if c then g k else f k) r := Ev.congr (fun k => if_neg hc) h
theorem Ev.bound {α β : Type} {o : Option α} {a : α} {f : Nat → α → Option β} {r : β} (h : o = some a) (k : Ev (fun n => f n a) r) : Ev (fun n => o.bind (f n)) r := Ev.congr (fun n => by rw [h]; rfl) k
theorem half_u32 {x : Int} (h0 : 0 ≤ x) (h1 : x < 4294967296) : (Int.tdiv x 2) % 4294967296 = x / 2 := by
  rw [Int.tdiv_eq_ediv_of_nonneg h0]
  omega
theorem wrap_nat {i : Nat} (h : i < 1000000000) : wrap64 ((i : Int) + 1) = ((i + 1 : Nat) : Int) := by
  have e : ((i + 1 : Nat) : Int) = (i : Int) + 1 := by push_cast; rfl
  rw [e]
  exact wrap64_id (by omega) (by omega)
theorem rd_at {l : List Int} {i : Nat} (h : i < l.length) : rd l (i : Int) = l[i] := by simp [rd, List.getD_eq_getElem?_getD, List.getElem?_eq_getElem h]
theorem rd41_at {l : List S41} {i : Nat} (h : i < l.length) : rd_T41 l (i : Int) = l[i] := by simp [rd_T41, List.getD_eq_getElem?_getD, List.getElem?_eq_getElem h]
theorem rd68_at {l : List S68} {i : Nat} (h : i < l.length) : rd_T68 l (i : Int) = l[i] := by simp [rd_T68, List.getD_eq_getElem?_getD, List.getElem?_eq_getElem h]
section
variable {a0 : Int} {l1 : List S41} {l2 : List S68} {l3 l4 l5 : List Int}
theorem okIn_of (h1 : In41 l1) (h2 : In68 l2) (n1 : l1.length ≤ 1099511627776) (n2 : l2.length ≤ 1099511627776) : okIn l1 l2 = true := by
  simp only [okIn, u32s, Bool.and_eq_true, decide_eq_true_eq, List.all_eq_true, List.mem_map]
  refine ⟨⟨⟨⟨n1, n2⟩, ?_⟩, ?_⟩, ?_⟩
  · rintro x ⟨g, hg, rfl⟩
    exact (h1 g hg).1
  · rintro x ⟨g, hg, rfl⟩
    exact (h2 g hg).1
  · rintro x ⟨g, hg, rfl⟩
    exact (h2 g hg).2
theorem u32s_of {l : List Int} (h : InU32 l) : u32s l = true := by
  simp only [u32s, Bool.and_eq_true, decide_eq_true_eq, List.all_eq_true]
  exact h
end
end Go.Proofs.Yteiiodlgdbiimaa.F
end
section
namespace Go.Proofs.Yteiiodlgdbiimaa.F
open Go.RowKit Go.Proofs.YteiiodlgdbiimaaW.PrintWords Go.Proofs.YteiiodlgdbiimaaW.PrintLast Go.Proofs.YteiiodlgdbiimaaW.PrintMore
attribute [local go_sem] max2_int min2_int max_two min_two max_three min_three max_four min_four
set_option linter.unusedVariables false
set_option linter.unusedSimpArgs false
def strash_Lit.f (l0 : List Int) (a1 : Int) : Option (Int) := if (wrap64 (a1 / 2)) < (l0.length : Int) then (if 0 ≤ (a1 / 2) then (if (a1 / 2) < (l0.length : Int) then (some (Go.bits .xor .u32 (rd l0 (a1 / 2)) (Go.bits .and .u32 a1 1))) else (none)) else (none)) else (some 0)
set_option maxHeartbeats 8000000 in
set_option maxRecDepth 100000 in
theorem strash_Lit.calls (A0 : Option Addr) (c0 : Nat) (l0 : List Int) (a1 : Int) (r : Int) (w : World) (hr0 : Kd.C (Kd.int .u32) w A0 l0.length l0) (hc0 : l0.length ≤ c0) (h : strash_Lit.f l0 a1 = some r) :
    Calls Try.prog 45 #[.slice A0 l0.length c0, .int .u32 a1] w fun e w' => e = .returned (.int .u32 r) ∧ Drawn0 w w' := by
  have HR0 := Aside0.mk hr0
  have HC0 := Aside0.mk hc0
  clear hr0 hc0
  have H : (if (wrap64 (a1 / 2)) < (l0.length : Int) then (if 0 ≤ (a1 / 2) then (if (a1 / 2) < (l0.length : Int) then (some (Go.bits .xor .u32 (rd l0 (a1 / 2)) (Go.bits .and .u32 a1 1))) else (none)) else (none)) else (some 0)) = some r := h
  clear h
  by_cases c3 : (wrap64 (a1 / 2)) < (l0.length : Int)
  · rw [if_pos c3] at H
    have c3b0 : decide ((wrap64 (a1 / 2)) < (l0.length : Int)) = true := decide_eq_true c3
    clear c3
    obtain ⟨ji4, hji4⟩ : ∃ j_ : Int, (a1 / 2) = j_ := ⟨_, rfl⟩
    replace H : (if 0 ≤ (ji4) then (if (ji4) < (l0.length : Int) then (some (Go.bits .xor .u32 (rd l0 (ji4)) (Go.bits .and .u32 a1 1))) else (none)) else (none)) = some r := by first | (rw [hji4] at H; exact H) | (simp only [hji4] at H ⊢; exact H)
    (try rw [hji4] at c3b0)
    by_cases c5 : 0 ≤ (ji4)
    · rw [if_pos c5] at H
      have c5b0 : decide (0 ≤ (ji4)) = true := decide_eq_true c5
      clear c5
      by_cases c6 : (ji4) < (l0.length : Int)
      · rw [if_pos c6] at H
        have c6b0 : decide ((ji4) < (l0.length : Int)) = true := decide_eq_true c6
        clear c6
        obtain rfl := Option.some.inj H
        have p304 : 0 ≤ ((ji4) : Int) := of_decide_eq_true (by first | (with_reducible assumption) | assumption)
        have q304 : (ji4) < (l0.length : Int) := of_decide_eq_true (by first | (with_reducible assumption) | assumption)
        obtain ⟨ad304, e304, hx304_0⟩ := Kd.at_int HR0.out (ji4) p304 q304
        cases e304
        replace p304 := eq_true p304
        replace q304 := eq_true q304
        go_enter Try.func45, Try.ntmps45
        go_wp2
        go_ret
        exact ⟨by first | rfl | (simp; done) | (simp only [← hji4] <;> (first | rfl | simp)) | (simp [*]; done), by repeat (first | exact Drawn0.refl _ | apply Drawn0.step)⟩
      · rw [if_neg c6] at H
        exact absurd H (by simp)
    · rw [if_neg c5] at H
      exact absurd H (by simp)
  · rw [if_neg c3] at H
    have c3b0 : decide ((wrap64 (a1 / 2)) < (l0.length : Int)) = false := decide_eq_false c3
    clear c3
    obtain rfl := Option.some.inj H
    go_enter Try.func45, Try.ntmps45
    go_wp2
    go_ret
    exact ⟨by first | rfl | (simp; done) | (simp [*]; done), by repeat (first | exact Drawn0.refl _ | apply Drawn0.step)⟩
end Go.Proofs.Yteiiodlgdbiimaa.F
end
section
namespace Go.Proofs.Yteiiodlgdbiimaa.F
open Go.RowKit Go.Shelf Go.Proofs.YteiiodlgdbiimaaW.PrintWords Go.Proofs.YteiiodlgdbiimaaW.PrintLast Go.Proofs.YteiiodlgdbiimaaW.PrintMore
set_option linter.unusedVariables false
set_option linter.unusedSimpArgs false
theorem u32_nat {x : Int} (h0 : 0 ≤ x) (h1 : x < 4294967296) : ∃ n : Nat, x = (n : Int) ∧ n < 2 ^ 32 := by
  obtain ⟨n, rfl⟩ := Int.eq_ofNat_of_zero_le h0
  exact ⟨n, rfl, by omega⟩
theorem xor_one {x : Int} (h0 : 0 ≤ x) (h1 : x < 4294967296) : Go.bits .xor .u32 x 1 = 2 * (x / 2) + (x + 1) % 2 := by
  obtain ⟨n, rfl, hn⟩ := u32_nat h0 h1
  have e : Go.bits .xor .u32 (n : Int) 1 = IntKind.u32.wrap ((n ^^^ 1 : Nat) : Int) := by
    have h32 : IntKind.u32.bits = 32 := rfl
    simp only [Go.bits, h32]
    have h1' : (1 : Int) = ((1 : Nat) : Int) := rfl
    rw [h1', BitVec.ofInt_natCast, BitVec.ofInt_natCast, BitVec.toNat_xor, BitVec.toNat_ofNat, BitVec.toNat_ofNat, h32, Nat.mod_eq_of_lt hn]
  have hd : (n ^^^ 1) / 2 = n / 2 := by rw [Nat.xor_div_two]; simp
  have hm : (n ^^^ 1) % 2 = (n + 1) % 2 := by
    have ht := Nat.testBit_xor n 1 0
    simp only [Nat.testBit_zero] at ht
    rw [show decide True = true from rfl] at ht
    by_cases hc : n % 2 = 1
    · rw [decide_eq_true hc] at ht
      have := of_decide_eq_false (show decide ((n ^^^ 1) % 2 = 1) = false from ht)
      omega
    · rw [decide_eq_false hc] at ht
      have := of_decide_eq_true (show decide ((n ^^^ 1) % 2 = 1) = true from ht)
      omega
  rw [e, u32_id (by omega) (by omega)]
  omega
theorem xor_zero32 {x : Int} (h0 : 0 ≤ x) (h1 : x < 4294967296) : Go.bits .xor .u32 x 0 = x := by
  obtain ⟨n, rfl, hn⟩ := u32_nat h0 h1
  have e : Go.bits .xor .u32 (n : Int) 0 = IntKind.u32.wrap ((n ^^^ 0 : Nat) : Int) := by
    have h32 : IntKind.u32.bits = 32 := rfl
    simp only [Go.bits, h32]
    have h1' : (0 : Int) = ((0 : Nat) : Int) := rfl
    rw [h1', BitVec.ofInt_natCast, BitVec.ofInt_natCast, BitVec.toNat_xor, BitVec.toNat_ofNat, BitVec.toNat_ofNat, h32, Nat.mod_eq_of_lt hn]
  rw [e, Nat.xor_zero, u32_id (by omega) (by omega)]
theorem and_one {x : Int} (h0 : 0 ≤ x) (h1 : x < 4294967296) : Go.bits .and .u32 x 1 = x % 2 := by
  obtain ⟨n, rfl, hn⟩ := u32_nat h0 h1
  have e : Go.bits .and .u32 (n : Int) 1 = IntKind.u32.wrap ((n &&& 1 : Nat) : Int) := by
    have h32 : IntKind.u32.bits = 32 := rfl
    simp only [Go.bits, h32]
    have h1' : (1 : Int) = ((1 : Nat) : Int) := rfl
    rw [h1', BitVec.ofInt_natCast, BitVec.ofInt_natCast, BitVec.toNat_and, BitVec.toNat_ofNat, BitVec.toNat_ofNat, h32, Nat.mod_eq_of_lt hn]
  rw [e, Nat.and_one_is_mod, u32_id (by omega) (by omega)]
  omega
theorem xinfoU' : (Try.prog.info? 39).map (fun i => (i.zero, i.size, i.bytes)) = some (some (.int .u32 0), 1, 4) := by kernel_rfl
theorem take_next {α : Type} {l : List α} {k : Nat} (h : k < l.length) : l.take (k + 1) = l.take k ++ [l[k]] := by
  rw [List.take_add_one, List.getElem?_eq_getElem h]
  rfl
def litP (tl : List Int) (x : Int) : Int := if x / 2 < (tl.length : Int) then Go.bits .xor .u32 (rd tl (x / 2)) (Go.bits .and .u32 x 1) else 0
theorem lit_is {tl : List Int} {x : Int} (h0 : 0 ≤ x) (h1 : x < 4294967296) : strash_Lit.f tl x = some (litP tl x) := by
  unfold strash_Lit.f litP
  rw [wrap64_id (by omega) (by omega)]
  split
  · rename_i h
    have h2 : 0 ≤ x / 2 := by omega
    simp only [h, h2, if_true]
  · rfl
theorem rd_u32 {tl : List Int} (ht : InU32 tl) (i : Int) : 0 ≤ rd tl i ∧ rd tl i < 4294967296 := by
  unfold rd
  rw [List.getD_eq_getElem?_getD]
  cases h : tl[i.toNat]? with
  | none => simp
  | some v => exact ht v (List.mem_of_getElem? h)
theorem litP_u32 {tl : List Int} (ht : InU32 tl) {x : Int} (h0 : 0 ≤ x) (h1 : x < 4294967296) : 0 ≤ litP tl x ∧ litP tl x < 4294967296 := by
  unfold litP
  have hr := rd_u32 ht (x / 2)
  split
  · rw [and_one h0 h1]
    rcases (show x % 2 = 0 ∨ x % 2 = 1 by omega) with e | e
    · rw [e, xor_zero32 hr.1 hr.2]
      exact hr
    · rw [e, xor_one hr.1 hr.2]
      omega
  · omega
set_option maxHeartbeats 4000000 in
set_option maxRecDepth 100000 in
theorem lits104 (tl : List Int) (At : Option Addr) (ct g5 : Nat) (l : List Int) (A : Option Addr) (c : Nat) (w : World) (hl : Kd.C (Kd.int .u32) w A l.length l) (hu : InU32 l) (hn : l.length ≤ 5000) (hto : Kd.C (Kd.int .u32) w At tl.length tl) (hct : tl.length ≤ ct)
    (hb : w.heap[g5]? = some (.cells #[.slice At tl.length ct] 24 (0, 0))) :
    Calls Try.prog 104 #[.slice A l.length c, .pointer (some ⟨g5, 0, none⟩)] w fun e w' => ∃ v : Value, e = .returned v ∧ Kd.R (Kd.int .u32) 39 w' w.heap.size (fun _ => True) v (l.map (litP tl)) ∧ Below w.heap.size w w' := by
  have HL := Aside0.mk hl
  have HU := Aside0.mk hu
  have HN := Aside0.mk hn
  have HT := Aside0.mk hto
  have HB5 := Aside0.mk hb
  clear hl hu hn hto hb
  go_enter Try.func104, Try.ntmps104
  go_wp2
  go_loopg [3, 8] l.length (fun gg v3 v8 wr => ∃ (k : Nat) (ys : List Int), l.length - k ≤ gg ∧ v8 = .int .i64 k ∧ Aside0 (k ≤ l.length) ∧ Aside0 (ys = (l.take k).map (litP tl)) ∧ Aside0 (Below w.heap.size w wr) ∧ Aside0 (Kd.R (Kd.int .u32) 39 wr w.heap.size (fun _ => True) v3 ys))
  case atStart => exact ⟨0, [], by omega, rfl, ⟨Nat.zero_le _⟩, ⟨rfl⟩, ⟨Below.refl _ _⟩, ⟨Kd.R_nil _ _ _ _ _⟩⟩
  case round =>
    obtain ⟨k, ys, hg, rfl, HKP, HY, HBL, HR⟩ := hrel
    have hln := HN.out
    by_cases hlt : k < l.length
    · have hltz : (k : Int) < (l.length : Int) := by omega
      obtain ⟨ad, e, xq⟩ := Kd.at_int (Kd.C_below HL.out HBL.out) (k : Int) (by omega) hltz
      cases e
      have ek : (k : Int).toNat = k := by omega
      rw [ek] at xq
      clear ek
      have hx : 0 ≤ rd l (k : Int) ∧ rd l (k : Int) < 4294967296 := rd_u32 HU.out _
      have E : Aside0 (ys ++ [litP tl (rd l (k : Int))] = (l.take (k + 1)).map (litP tl)) := ⟨by rw [HY.out, take_next hlt, List.map_append, rd_at hlt]; rfl⟩
      have HYL := Aside0.mk (show ys.length ≤ 5000 from by rw [HY.out]; simp; omega)
      generalize rd l (k : Int) = x at xq hx E
      have HX := Aside0.mk hx
      have z5 : wr.cell? ⟨g5, 0, none⟩ = some (.slice At tl.length ct) := (blk_cell (blk_below HB5.out HBL.out) 0).trans rfl
      obtain ⟨A3, c3, rfl⟩ := Kd.R_slice HR.out
      clear hx HY
      go_wp2_with (first | (go_at_call 45; refine (strash_Lit.calls At ct tl x (litP tl x) _ (Kd.C_below HT.out HBL.out) hct (lit_is HX.out.1 HX.out.2)).mono ?_; rintro e w2 ⟨rfl, hd⟩; have HD := Aside0.mk (below_step HBL.out hd.below); have HRD := Aside0.mk (Kd.R_below HR.out hd.below); clear hd z5 xq) | ((with_reducible refine gate_builtin (b := .append) (xs := #[.tmp 12, .tmp 16]) rfl ?_); at_builtin; refine Kd.R_append (Kd.int .u32) (w0 := w) w.heap.size rfl (.tmp 12) (.tmp 16) 24 39 (.int .u32 0) 4 rfl Try.underlying24 xinfoU' rfl (by decide) (by omega) (.slice A3 ys.length c3) ys (litP tl x) [.int .u32 (litP tl x)] (fun _ => True) (fun _ => False) rfl (by first | (go_simp; done) | (go_simp; rfl)) rfl (fun _ hk => hk.elim) (fun _ _ => trivial) HRD.out HD.out HD.out.size (by have := HYL.out; omega) ?_; intro v1 w3 hR hB _ _; have HR3 := Aside0.mk hR; have HB3 := Aside0.mk hB; clear hR hB))
      go_wp2
      go_roundg (l.length - (k + 1))
      case measure => omega
      case rel => exact ⟨k + 1, _, by omega, by go_num, ⟨by omega⟩, E, HB3, HR3⟩
    · have hltz : ¬ (k : Int) < (l.length : Int) := by omega
      have E : Aside0 (ys = l.map (litP tl)) := ⟨by rw [HY.out, List.take_of_length_le (by omega)]⟩
      go_wp2
      go_ret
      exact ⟨_, rfl, by rw [← E.out]; exact HR.out, HBL.out⟩
end Go.Proofs.Yteiiodlgdbiimaa.F
end
section
namespace Go.Proofs.Yteiiodlgdbiimaa.F
open Go.RowKit Go.Shelf Go.Proofs.YteiiodlgdbiimaaW.PrintWords Go.Proofs.YteiiodlgdbiimaaW.PrintLast Go.Proofs.YteiiodlgdbiimaaW.PrintMore
set_option linter.unusedVariables false
set_option linter.unusedSimpArgs false
theorem idxG_lt {gs : List S68} {a b : Int} {j : Nat} (h : idxG gs a b = some j) : j < gs.length := by
  obtain ⟨⟨g, hg, _⟩, _⟩ := idxG_some gs j h
  exact (List.getElem?_eq_some_iff.1 hg).1
theorem gateP_ok {first : Int} {gs : List S68} {a b : Int} (hf : 0 ≤ first ∧ first ≤ 40000) (hl : gs.length ≤ 40000) (ha : 0 ≤ a ∧ a < 4294967296) (hb : 0 ≤ b ∧ b < 4294967296) :
    (0 ≤ (gateP first gs a b).1 ∧ (gateP first gs a b).1 < 4294967296) ∧ (gateP first gs a b).2.length ≤ gs.length + 1 := by
  have hHI : 0 ≤ mx a b ∧ mx a b < 4294967296 := by unfold mx; split <;> omega
  unfold gateP
  split
  · exact ⟨⟨by dsimp only; omega, by dsimp only; omega⟩, Nat.le_succ _⟩
  split
  · exact ⟨⟨by dsimp only; omega, by dsimp only; omega⟩, Nat.le_succ _⟩
  split
  · exact ⟨hHI, Nat.le_succ _⟩
  split
  · exact ⟨hHI, Nat.le_succ _⟩
  cases h : idxG gs (mx a b) (mn a b) with
  | some j =>
    have := idxG_lt h
    exact ⟨⟨by dsimp only; omega, by dsimp only; omega⟩, Nat.le_succ _⟩
  | none => exact ⟨⟨by dsimp only; omega, by dsimp only; omega⟩, by simp⟩
def stepW (first : Int) (l2 : List S68) (s : List Int × List S68) (v : Nat) (x : Int) : List Int × List S68 :=
  if x ≠ 2 then (s.1 ++ [x], s.2) else if (v : Int) < first then (s.1 ++ [2 * (v : Int)], s.2)
  else (s.1 ++ [(gateP first s.2 (litP s.1 (rd_T68 l2 ((v : Int) - first)).f0) (litP s.1 (rd_T68 l2 ((v : Int) - first)).f1)).1], (gateP first s.2 (litP s.1 (rd_T68 l2 ((v : Int) - first)).f0) (litP s.1 (rd_T68 l2 ((v : Int) - first)).f1)).2)
def runW (first : Int) (l2 : List S68) (is : List Int) : Nat → List Int × List S68
  | 0 => ([], [])
  | k + 1 => stepW first l2 (runW first l2 is k) k (rd is (k : Int))
theorem rd68_ok {l2 : List S68} (h : In68 l2) (i : Int) : (0 ≤ (rd_T68 l2 i).f0 ∧ (rd_T68 l2 i).f0 < 4294967296) ∧ (0 ≤ (rd_T68 l2 i).f1 ∧ (rd_T68 l2 i).f1 < 4294967296) := by
  unfold rd_T68
  rw [List.getD_eq_getElem?_getD]
  cases hg : l2[i.toNat]? with
  | none => exact ⟨⟨by decide, by decide⟩, ⟨by decide, by decide⟩⟩
  | some g => exact h g (List.mem_of_getElem? hg)
theorem rd_u8 {is : List Int} (h : InU8 is) (i : Int) : 0 ≤ rd is i ∧ rd is i < 256 := by
  unfold rd
  rw [List.getD_eq_getElem?_getD]
  cases hg : is[i.toNat]? with
  | none => exact ⟨by decide, by decide⟩
  | some g => exact h g (List.mem_of_getElem? hg)
theorem runW_ok {first : Int} {l2 : List S68} {is : List Int} (hf : 0 ≤ first ∧ first ≤ 40000) (h2 : In68 l2) (hi : InU8 is) : ∀ k : Nat, k ≤ 40000 → (runW first l2 is k).1.length = k ∧ (runW first l2 is k).2.length ≤ k ∧ InU32 (runW first l2 is k).1
  | 0, _ => ⟨rfl, Nat.le_refl _, fun x hx => by cases hx⟩
  | k + 1, hk => by
    obtain ⟨i1, i2, i3⟩ := runW_ok hf h2 hi k (by omega)
    have hx := rd_u8 hi (k : Int)
    unfold runW
    generalize runW first l2 is k = s at i1 i2 i3 ⊢
    unfold stepW
    have snoc : ∀ y : Int, 0 ≤ y → y < 4294967296 → InU32 (s.1 ++ [y]) := fun y h0 h1 z hz => by
      rcases List.mem_append.1 hz with hz | hz
      · exact i3 z hz
      · rw [List.mem_singleton.1 hz]
        exact ⟨h0, h1⟩
    split
    · exact ⟨by simp [i1], by simp; omega, snoc _ (by omega) (by omega)⟩
    · split
      · exact ⟨by simp [i1], by simp; omega, snoc _ (by omega) (by omega)⟩
      · have hg := rd68_ok h2 ((k : Int) - first)
        have hG := gateP_ok (gs := s.2) hf (by omega) (litP_u32 i3 hg.1.1 hg.1.2) (litP_u32 i3 hg.2.1 hg.2.2)
        exact ⟨by simp [i1], by dsimp only; omega, snoc _ hG.1.1 hG.1.2⟩
theorem MkSt.over {first : Int} {gs : List S68} {w0 : World} {gm mb : Nat} {W w1 : World} {v : Value} {xs : List Int} (h : MkSt first gs w0 gm mb W) (hR : Kd.R (Kd.int .u32) 39 W w0.heap.size (fun _ => True) v xs) (hB : Below w0.heap.size w0 w1) (hg : W.grownBy w1 v.ownBlock) : MkSt first gs w0 gm mb w1 := by
  obtain ⟨vg, hk, hq⟩ := h.st
  refine ⟨hB, h.gm0, h.mb0, h.ok, h.ap, blk_grown h.map hg (fun e => ?_), vg, blk_grown hk hg (Kd.R_ne hR hk (by decide)), Kd.R_over' hq (Kd.R_typed hR) (by decide) hg⟩
  obtain ⟨cs, hc⟩ := Kd.R_typed hR mb e.symm
  rw [h.map] at hc
  cases hc
theorem MkSt.set {first : Int} {gs : List S68} {w0 : World} {gm mb : Nat} {W : World} (h : MkSt first gs w0 gm mb W) {g t : Nat} {cells : Array Value} (hk : W.heap[g]? = some (.cells cells t (0, 0))) (h1 : t ≠ 123) (h2 : t ≠ 68) (hg : w0.heap.size ≤ g) (i : Nat) (u : Value) : MkSt first gs w0 gm mb (W.setCell ⟨g, i, none⟩ u) := by
  obtain ⟨vg, hb, hq⟩ := h.st
  refine ⟨h.below.setCell (p := ⟨g, i, none⟩) hg u, h.gm0, h.mb0, h.ok, h.ap, (Below.heap_setCell _ _ _ mb (fun e => ?_)).trans h.map, vg, blk_far hb (p := ⟨g, i, none⟩) (blk_ne hb hk (fun e => h1 e.symm)) u, ?_⟩
  · have e' : mb = g := e
    rw [← e', h.map] at hk
    cases hk
  · refine Kd.R_set hq hk ?_ i u
    intro q hq'
    have : q = 68 := by simpa [k68, Kd.iso, Kd.pair, Kd.int, Kd.scalar] using hq'
    rw [this]
    exact fun e => h2 e.symm
structure WiSt (a0 : Int) (A1 : Option Addr) (c1 : Nat) (l1 : List S41) (A2 : Option Addr) (c2 : Nat) (l2 : List S68) (A3 : Option Addr) (c3 : Nat) (l3 : List Int) (A4 : Option Addr) (c4 : Nat) (l4 : List Int) (A5 : Option Addr) (c5 : Nat) (l5 : List Int) (w0 : World) (g4 g5 gm mb : Nat) (first : Int) (tl : List Int) (gs : List S68) (W : World) : Prop where
  mkr : MkSt first gs w0 gm mb W
  k2 : W.heap[w0.heap.size]? = some (.cells #[.int .i64 a0, .slice A1 l1.length c1, .slice A2 l2.length c2, .slice A3 l3.length c3, .slice A4 l4.length c4, .slice A5 l5.length c5] 26 (0, 0))
  k4 : W.heap[g4]? = some (.cells #[.int .i64 0, .slice none 0 0, .slice none 0 0, .slice none 0 0, .slice none 0 0, .slice none 0 0] 26 (0, 0))
  h4 : w0.heap.size < g4
  h5 : w0.heap.size ≤ g5
  k5 : ∃ vt, W.heap[g5]? = some (.cells #[vt] 24 (0, 0)) ∧ Kd.R (Kd.int .u32) 39 W w0.heap.size (fun _ => True) vt tl
section
variable {a0 : Int} {A1 : Option Addr} {c1 : Nat} {l1 : List S41} {A2 : Option Addr} {c2 : Nat} {l2 : List S68} {A3 : Option Addr} {c3 : Nat} {l3 : List Int} {A4 : Option Addr} {c4 : Nat} {l4 : List Int} {A5 : Option Addr} {c5 : Nat} {l5 : List Int} {w0 : World} {g4 g5 gm mb : Nat} {first : Int} {tl : List Int} {gs : List S68} {W W' : World}
theorem WiSt.step (h : WiSt a0 A1 c1 l1 A2 c2 l2 A3 c3 l3 A4 c4 l4 A5 c5 l5 w0 g4 g5 gm mb first tl gs W) (hb : Below W.heap.size W W') : WiSt a0 A1 c1 l1 A2 c2 l2 A3 c3 l3 A4 c4 l4 A5 c5 l5 w0 g4 g5 gm mb first tl gs W' := by
  obtain ⟨vt, k, r⟩ := h.k5
  exact ⟨h.mkr.step hb, blk_below h.k2 hb, blk_below h.k4 hb, h.h4, h.h5, vt, blk_below k hb, Kd.R_below r hb⟩
theorem WiSt.gated (h : WiSt a0 A1 c1 l1 A2 c2 l2 A3 c3 l3 A4 c4 l4 A5 c5 l5 w0 g4 g5 gm mb first tl gs W) {gs' : List S68} (hm : MkSt first gs' w0 gm mb W') (ho : OthersG W W') : WiSt a0 A1 c1 l1 A2 c2 l2 A3 c3 l3 A4 c4 l4 A5 c5 l5 w0 g4 g5 gm mb first tl gs' W' := by
  obtain ⟨vt, k, r⟩ := h.k5
  exact ⟨hm, ho _ _ _ h.k2 (by decide) (by decide), ho _ _ _ h.k4 (by decide) (by decide), h.h4, h.h5, vt, ho _ _ _ k (by decide) (by decide), R_othersG r ho⟩
theorem WiSt.appended (h : WiSt a0 A1 c1 l1 A2 c2 l2 A3 c3 l3 A4 c4 l4 A5 c5 l5 w0 g4 g5 gm mb first tl gs W) {vt v1 : Value} {w1 : World} {x : Int} (hk : W.heap[g5]? = some (.cells #[vt] 24 (0, 0))) (hr : Kd.R (Kd.int .u32) 39 W w0.heap.size (fun _ => True) vt tl)
    (hR : Kd.R (Kd.int .u32) 39 w1 w0.heap.size (fun _ => True) v1 (tl ++ [x])) (hB : Below w0.heap.size w0 w1) (hg : W.grownBy w1 vt.ownBlock) :
    WiSt a0 A1 c1 l1 A2 c2 l2 A3 c3 l3 A4 c4 l4 A5 c5 l5 w0 g4 g5 gm mb first (tl ++ [x]) gs (w1.setCell ⟨g5, 0, none⟩ v1) ∧ w1.heap[g5]? = some (.cells #[vt] 24 (0, 0)) := by
  have k5 := blk_grown hk hg (Kd.R_ne hr hk (by decide))
  have k2 := blk_grown h.k2 hg (Kd.R_ne hr h.k2 (by decide))
  have k4 := blk_grown h.k4 hg (Kd.R_ne hr h.k4 (by decide))
  exact ⟨⟨(h.mkr.over hr hB hg).set k5 (by decide) (by decide) h.h5 0 v1, blk_far k2 (p := ⟨g5, 0, none⟩) (blk_ne k2 k5 (by decide)) v1, blk_far k4 (p := ⟨g5, 0, none⟩) (blk_ne k4 k5 (by decide)) v1, h.h4, h.h5, v1, by simpa using blk_set k5 0 v1, Kd.R_set hR k5 (by decide) 0 v1⟩, k5⟩
end
def withOk (a0 : Int) (l1 : List S41) (l2 : List S68) (l3 l4 l5 is : List Int) : Prop := mayB a0 l1 l2 l3 l4 l5 = true ∧ (is.length : Int) = a0 + (l1.length : Int) + (l2.length : Int) + 1 ∧ rd is 0 = 0 ∧ is.all (fun x => decide (x ≤ 2)) = true
instance (a0 : Int) (l1 : List S41) (l2 : List S68) (l3 l4 l5 is : List Int) : Decidable (withOk a0 l1 l2 l3 l4 l5 is) := by unfold withOk; infer_instance
def u8s (l : List Int) : Bool := l.all fun x => decide (0 ≤ x) && decide (x < 256)
def wasW (a0 : Int) (l1 : List S41) (l2 : List S68) (is : List Int) : List Int × List S68 := runW (1 + a0 + (l1.length : Int)) l2 is is.length
def strash_With.f (a0_0 : Int) (l0_1 : List (S41)) (l0_2 : List (S68)) (l0_3 : List Int) (l0_4 : List Int) (l0_5 : List Int) (l1 : List Int) : Option (Int × (List (S41)) × (List (S68)) × List Int × List Int × List Int × List Int × Int) :=
  if okIn l0_1 l0_2 = true ∧ u32s l0_3 = true ∧ u32s l0_4 = true ∧ u32s l0_5 = true ∧ u8s l1 = true ∧ u8s (l0_1.map (·.f1)) = true then
    if withOk a0_0 l0_1 l0_2 l0_3 l0_4 l0_5 l1 then some (a0_0, l0_1.map (fun g => ⟨litP (wasW a0_0 l0_1 l0_2 l1).1 g.f0, g.f1⟩), (wasW a0_0 l0_1 l0_2 l1).2, l0_3.map (litP (wasW a0_0 l0_1 l0_2 l1).1), l0_4.map (litP (wasW a0_0 l0_1 l0_2 l1).1), l0_5.map (litP (wasW a0_0 l0_1 l0_2 l1).1), (wasW a0_0 l0_1 l0_2 l1).1, 0)
    else some (0, [], [], [], [], [], [], 2)
  else none
end Go.Proofs.Yteiiodlgdbiimaa.F
end
