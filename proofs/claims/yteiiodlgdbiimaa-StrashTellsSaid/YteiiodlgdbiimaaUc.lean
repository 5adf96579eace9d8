/- What the proof of the law StrashTells needs, part 3: the walks of the functions that it reaches, and the plain words on what these compute. -/
import Derived.ArgAppend
import Derived.Below
import Derived.BigQuiet
import Derived.ChangeOld
import Derived.Deep.AppendLies
import Derived.Deep.CutBlock
import Derived.Deep.DeepCutAuto
import Derived.Deep.Draws
import Derived.Deep.LoopGhost
import Derived.Deep.OwnRows
import Derived.Deep.QuietTactic
import Derived.Deep.RegionHeld3
import Derived.DeepKeys5
import Derived.IntWalk
import Derived.KernelRfl
import Derived.Laws.BitsLemmas
import Derived.Laws.BytesArg
import Derived.Laws.CopyOwn
import Derived.Laws.IdiomCopy
import Derived.Laws.MakeOwn
import Derived.Laws.OwnMore
import Derived.Laws.Rows
import Derived.Laws.Slices
import Derived.Lib.AppendStr
import Derived.Lib.ConvBytes
import Derived.LoopIn
import Derived.LoopNIn
import Derived.Maps.AppendAt
import Derived.OrdersHeld
import Derived.OwnWalk
import Derived.OwnWalkIn
import Derived.ProofKit
import Derived.RangeFuncBound
import Derived.RangeFuncCalls
import Derived.RangeFuncLeaves
import Derived.RangeFuncNested
import Derived.RowKit
import Derived.RowKit3
import Derived.Shelf.Abstract
import Derived.Shelf.RegionOpen
import Derived.SizedLaws
import Derived.StillTailTactics
import Derived.Tactics
import Derived.TacticsInMore
import Derived.Test.YteiiodlgdbiimaaProg
import Derived.Test.YteiiodlgdbiimaaRows
import Derived.WalkKit
import Derived.WideKeyEntry
import Derived.WideLaws
import Derived.Test.YteiiodlgdbiimaaUb
section
namespace Go.Proofs.Yteiiodlgdbiimaa
theorem strip_cut (r : List (List Char)) : stripLifts liftWords ("cut".toList :: r) = ([], "cut".toList :: r) := by kernel_rfl
theorem may_enter_of (P : Program) (p q : String) (h : P.initOrder = p ++ q) (hs : ∀ r, behindMainWord (wordsSigns (p.toList ++ r)) = "cut".toList :: wordsSigns r) (hl : P.laysLater = false) (hb : P.bearsReflect = false) (hd : P.doorFits [] = true) : P.mayEnter = true := by
  unfold Program.mayEnter
  rw [h, String.toList_append, hs]
  have hs2 := strip_cut (wordsSigns q.toList)
  dsimp only
  generalize stripLifts liftWords ("cut".toList :: wordsSigns q.toList) = sl at hs2 ⊢
  subst hs2
  simp [hl, hb, hd]
theorem make_of (P : Program) (p q : String) (h : P.initOrder = p ++ q) (hs : ∀ r, behindMainWord (wordsSigns (p.toList ++ r)) = "cut".toList :: wordsSigns r) : P.make = some .cut := by
  unfold Program.make
  rw [h, String.toList_append, hs]
  rfl
theorem lifts_of (P : Program) (p q : String) (h : P.initOrder = p ++ q) (hs : ∀ r, behindMainWord (wordsSigns (p.toList ++ r)) = "cut".toList :: wordsSigns r) : P.liftsFinal = false := by
  have hw : behindMainWord (wordsSigns P.initOrder.toList) = "cut".toList :: wordsSigns q.toList := by rw [h, String.toList_append, hs]
  have hs2 := strip_cut (wordsSigns q.toList)
  unfold Program.liftsFinal Program.headLifts
  rw [hw]
  dsimp only
  generalize stripLifts liftWords ("cut".toList :: wordsSigns q.toList) = sl at hs2 ⊢
  subst hs2
  simp
theorem order_eq : Try.pinned.checked.prog.initOrder = "harness 8bc95be9aef776efc07c83d12f0bd9a4e60c13404288aaedbc3ff7bc00220b1d cut " ++ "at inquest/inquestlaw09.ConeGrows inquest/inquestlaw25.ExtractKeeps inquest/inquestlaw24.StrashTells inquest/inquestlaw24.StrashRuns inquest/inquestlaw24.StrashSmall inquest/inquestlaw26.StuckFolds inquest/inquestlaw24.StrashWith inquest/inquestlaw24.StrashLits inquest/inquestlaw09.ConeTells inquest/inquestlaw09.ConeCounts inquest/inquestlaw23.WatchTells inquest/inquestlaw23.WatchLong inquest/inquestlaw23.WatchSure inquest/inquestlaw25.ExtractTells inquest/inquestlaw25.ExtractFails inquest/inquestlaw25.ExtractParts inquest/inquestlaw26.StuckEver inquest/inquestlaw26.StuckAgain inquest/inquestlaw23.WatchExtends inquest/inquestlaw26.StuckTells" := by kernel_rfl
theorem signs_eq (r : List Char) : behindMainWord (wordsSigns (("harness 8bc95be9aef776efc07c83d12f0bd9a4e60c13404288aaedbc3ff7bc00220b1d cut " : String).toList ++ r)) = "cut".toList :: wordsSigns r := by kernel_rfl
theorem lays_no : Try.pinned.checked.prog.laysLater = false := by kernel_rfl
theorem bears_no : Try.pinned.checked.prog.bearsReflect = false := by kernel_rfl
theorem door_yes : Try.pinned.checked.prog.doorFits [] = true := by kernel_rfl
theorem may_enter : Try.pinned.checked.prog.mayEnter = true := may_enter_of _ _ _ order_eq signs_eq lays_no bears_no door_yes
theorem make_is : Try.pinned.checked.prog.make = some .cut := make_of _ _ _ order_eq signs_eq
theorem lifts_no : Try.pinned.checked.prog.liftsFinal = false := lifts_of _ _ _ order_eq signs_eq
end Go.Proofs.Yteiiodlgdbiimaa
end
section
namespace Go.Proofs.Yteiiodlgdbiimaa.F
open Go.RowKit Go.Proofs.YteiiodlgdbiimaaW.PrintWords Go.Proofs.YteiiodlgdbiimaaW.PrintLast Go.Proofs.YteiiodlgdbiimaaW.PrintMore
attribute [local go_sem] max2_int min2_int max_two min_two max_three min_three max_four min_four
set_option linter.unusedVariables false
set_option linter.unusedSimpArgs false
def errW : Option Int → Value
  | none => .nilIface
  | some c => .iface 0 (.int .i64 c)
theorem errW_none : errW none = .nilIface := rfl
theorem errW_some (c : Int) : errW (some c) = .iface 0 (.int .i64 c) := rfl
theorem info5 : (Try.prog.info? 5).map (fun i => (i.zero, i.size, i.bytes)) = some (some (.int .u8 0), 1, 1) := by kernel_rfl
theorem info39 : (Try.prog.info? 39).map (fun i => (i.zero, i.size, i.bytes)) = some (some (.int .u32 0), 1, 4) := by kernel_rfl
theorem info41 : (Try.prog.info? 41).map (fun i => (i.zero, i.size, i.bytes)) = some (some (.agg #[(.int .u32 0), (.int .u8 0)]), 2, 8) := by kernel_rfl
theorem info68 : (Try.prog.info? 68).map (fun i => (i.zero, i.size, i.bytes)) = some (some (.agg #[(.int .u32 0), (.int .u32 0)]), 2, 8) := by kernel_rfl
structure S41 where
  f0 : Int
  f1 : Int
def z41 : S41 := ⟨(0 : Int), (0 : Int)⟩
def k41 : Kd S41 := Kd.iso (Kd.pair (Kd.int .u32) (Kd.int .u8)) (fun x : S41 => (x.f0, x.f1))
theorem k41_open {w : World} {x : S41} {cs : List Value} (h : k41.K w x cs) : cs = [.int .u32 x.f0, .int .u8 x.f1] := by
  obtain ⟨_, _, rfl, rfl, rfl⟩ := h
  exact rfl
theorem k41_mk (w : World) (x : S41)  : k41.K w x [.int .u32 x.f0, .int .u8 x.f1] := ⟨[.int .u32 x.f0], [.int .u8 x.f1], rfl, rfl, rfl⟩
theorem k41_mkM (w : World) (base : Nat) (ok : Nat → Prop) (x : S41)  : k41.M w base ok x [.int .u32 x.f0, .int .u8 x.f1] := ⟨[.int .u32 x.f0], [.int .u8 x.f1], rfl, rfl, rfl⟩
def rd_T41 (xs : List S41) (i : Int) : S41 := xs.getD i.toNat z41
theorem at_T41 {w : World} {A : Option Addr} {n : Nat} {xs : List S41} (h : Kd.C k41 w A n xs) (i : Int) (h0 : 0 ≤ i) (h1 : i < n) : ∃ ad , A = some ad ∧ w.cell? (ad.add (i.toNat * 2)) = some (.int .u32 (rd_T41 xs i).f0) ∧ w.cell? ⟨(ad.add (i.toNat * 2)).block, (ad.add (i.toNat * 2)).off + 1, none⟩ = some (.int .u8 (rd_T41 xs i).f1) := by
  obtain ⟨ad, c, e, _, hK, hc0⟩ := Kd.C_get h z41 i h0 h1
  have hc : ∀ j u, c[j]? = some u → w.cell? (ad.add (i.toNat * 2 + j)) = some u := hc0
  obtain rfl := k41_open hK
  exact ⟨ad, e, hc 0 _ rfl, by rw [← add_field _ _ 1 (by omega)]; exact hc 1 _ rfl⟩
structure S68 where
  f0 : Int
  f1 : Int
def z68 : S68 := ⟨(0 : Int), (0 : Int)⟩
def k68 : Kd S68 := Kd.iso (Kd.pair (Kd.int .u32) (Kd.int .u32)) (fun x : S68 => (x.f0, x.f1))
theorem k68_open {w : World} {x : S68} {cs : List Value} (h : k68.K w x cs) : cs = [.int .u32 x.f0, .int .u32 x.f1] := by
  obtain ⟨_, _, rfl, rfl, rfl⟩ := h
  exact rfl
theorem k68_mk (w : World) (x : S68)  : k68.K w x [.int .u32 x.f0, .int .u32 x.f1] := ⟨[.int .u32 x.f0], [.int .u32 x.f1], rfl, rfl, rfl⟩
theorem k68_mkM (w : World) (base : Nat) (ok : Nat → Prop) (x : S68)  : k68.M w base ok x [.int .u32 x.f0, .int .u32 x.f1] := ⟨[.int .u32 x.f0], [.int .u32 x.f1], rfl, rfl, rfl⟩
def rd_T68 (xs : List S68) (i : Int) : S68 := xs.getD i.toNat z68
theorem at_T68 {w : World} {A : Option Addr} {n : Nat} {xs : List S68} (h : Kd.C k68 w A n xs) (i : Int) (h0 : 0 ≤ i) (h1 : i < n) : ∃ ad , A = some ad ∧ w.cell? (ad.add (i.toNat * 2)) = some (.int .u32 (rd_T68 xs i).f0) ∧ w.cell? ⟨(ad.add (i.toNat * 2)).block, (ad.add (i.toNat * 2)).off + 1, none⟩ = some (.int .u32 (rd_T68 xs i).f1) := by
  obtain ⟨ad, c, e, _, hK, hc0⟩ := Kd.C_get h z68 i h0 h1
  have hc : ∀ j u, c[j]? = some u → w.cell? (ad.add (i.toNat * 2 + j)) = some u := hc0
  obtain rfl := k68_open hK
  exact ⟨ad, e, hc 0 _ rfl, by rw [← add_field _ _ 1 (by omega)]; exact hc 1 _ rfl⟩
end Go.Proofs.Yteiiodlgdbiimaa.F
end
section
namespace Go.Proofs.Yteiiodlgdbiimaa.F
open Go.RowKit Go.Shelf Go.Proofs.YteiiodlgdbiimaaW.PrintWords Go.Proofs.YteiiodlgdbiimaaW.PrintLast Go.Proofs.YteiiodlgdbiimaaW.PrintMore
set_option linter.unusedVariables false
set_option linter.unusedSimpArgs false
section
variable {P : Program} {ops : Array Oper} {rest : List Oper} {o : Oper} {a : Act} {Q : Exit → Act → World → Prop}
theorem slice_event {W : World} (hgd : o.guard = none) {N : Tmp} (_hd : o.dst = some N) {n c : Nat} {cs : Array Value} {t : TypeId}
    (hrun : (execOp a.eval o).run P W = .ok (.value (.slice (some ⟨W.heap.size, 0, none⟩) n c)) (W.alloc (.cells cs t (0, 0))))
    (h : ∀ g, g = W.heap.size → ∀ w1, w1.heap[g]? = some (.cells cs t (0, 0)) → Below W.heap.size W w1 → wpList P ops Q rest (a.put o.dst (.slice (some ⟨g, 0, none⟩) n c)) w1) : wpList P ops Q (o :: rest) a W :=
  Kd.event_run hgd hrun (h _ rfl _ (blk_new W _) (below_alloc (Below.refl _ _) _))
theorem gate_store {t : TypeId} {p x : Operand} {a : Act} {W : World} (_ho : o.op = .store t p x) (h : wpList P ops Q (o :: rest) a W) : wpList P ops Q (o :: rest) a W := h
theorem skip_event {W W' : World} (hN : o.dst = none) (hgd : o.guard = none) (hrun : (execOp a.eval o).run P W = .ok .skip W') (h : ∀ w1, w1 = W' → wpList P ops Q rest a w1) : wpList P ops Q (o :: rest) a W := by
  refine wpList_plain hgd fun K hK => ?_
  unfold Oper.wp
  rw [hrun]
  show K (a.put o.dst undef) W'
  rw [hN]
  exact hK _ _ (h _ rfl)
end
theorem blk_set2 {w : World} {g : Nat} {t : TypeId} {p q : Value} (h : w.heap[g]? = some (.cells #[p, q] t (0, 0))) (x y : Value) : ((w.setCell ⟨g, 0, none⟩ x).setCell ⟨g, 1, none⟩ y).heap[g]? = some (.cells #[x, y] t (0, 0)) := by
  simpa using blk_set (blk_set h 0 x) 1 y
theorem below_set2 {B : Nat} {w0 w : World} {g : Nat} (h : Below B w0 w) (hg : B ≤ g) (x y : Value) : Below B w0 ((w.setCell ⟨g, 0, none⟩ x).setCell ⟨g, 1, none⟩ y) := (h.setCell (p := ⟨g, 0, none⟩) hg x).setCell (p := ⟨g, 1, none⟩) hg y
theorem below_drewN' (W : World) (n : Nat) : Below W.heap.size W (W.drewN n) := pw_below_drewN (Below.refl _ _) n
end Go.Proofs.Yteiiodlgdbiimaa.F
end
section
namespace Go.Proofs.Yteiiodlgdbiimaa.F
open Go.RowKit Go.Shelf Go.Proofs.YteiiodlgdbiimaaW.PrintWords Go.Proofs.YteiiodlgdbiimaaW.PrintLast Go.Proofs.YteiiodlgdbiimaaW.PrintMore
set_option linter.unusedVariables false
set_option linter.unusedSimpArgs false
attribute [local go_sem] Oper.semAt_some
end Go.Proofs.Yteiiodlgdbiimaa.F
end
section
namespace Go.Proofs.Yteiiodlgdbiimaa.F
open Go.RowKit Go.Shelf Go.Proofs.YteiiodlgdbiimaaW.PrintWords Go.Proofs.YteiiodlgdbiimaaW.PrintLast Go.Proofs.YteiiodlgdbiimaaW.PrintMore
set_option linter.unusedVariables false
set_option linter.unusedSimpArgs false
def idx (p : Nat → Bool) (n : Nat) : Int := match (List.range n).find? p with
  | some j => (j : Int)
  | none => -1
theorem idx_hit (p : Nat → Bool) (n k : Nat) (hk : k < n) (h : p k = true) (hn : ∀ j, j < k → p j = false) : idx p n = (k : Int) := by
  have : (List.range n).find? p = some k := by
    rw [List.find?_range_eq_some]
    exact ⟨h, List.mem_range.2 hk, fun j hj => by simp [hn j hj]⟩
  simp [idx, this]
theorem idx_miss (p : Nat → Bool) (n : Nat) (hn : ∀ j, j < n → p j = false) : idx p n = -1 := by
  have : (List.range n).find? p = none := by
    rw [List.find?_range_eq_none]
    exact fun j hj => by simp [hn j hj]
  simp [idx, this]
theorem idx_any (p : Nat → Bool) (n : Nat) : decide (0 ≤ idx p n) = (List.range n).any p := by
  rw [Bool.eq_iff_iff, decide_eq_true_iff, List.any_eq_true]
  unfold idx
  split
  · rename_i j h
    constructor
    · intro _
      exact ⟨j, List.mem_of_find?_eq_some h, List.find?_some h⟩
    · intro _
      omega
  · rename_i h
    rw [List.find?_eq_none] at h
    constructor
    · intro h0
      omega
    · rintro ⟨j, hj, hp⟩
      exact absurd hp (h j hj)
set_option maxHeartbeats 4000000 in
theorem index177 (g : Nat) (lb : Array Value) (eg : ∀ args w, (callFunc g args).run Try.prog w = .ok (.enter g args) w) (ev : Nat → Value) (pv : Nat → Bool)
    (A : Option Addr) (n c : Nat) (w : World) (hn : n ≤ 9223372036854775807)
    (hc : ∀ j, j < n → ∃ ad, A = some ad ∧ w.cell? (ad.add j) = some (ev j))
    (hp : ∀ j, j < n → ∀ W, Below w.heap.size w W → Calls Try.prog g (#[ev j] ++ lb) W fun e w' => e = .returned (.bool (pv j)) ∧ Below W.heap.size W w') :
    Calls Try.prog 177 #[.slice A n c, .func (.func g) #[] lb] w fun e w' => e = .returned (.int .i64 (idx pv n)) ∧ Below w.heap.size w w' := by
  have HC := Aside0.mk hc
  have HP := Aside0.mk hp
  clear hc hp
  go_enter Try.func177, Try.ntmps177
  go_wp2
  go_loopg [5, 8] n (fun gg _ s8 wr => ∃ kk : Nat, kk ≤ n ∧ n - kk ≤ gg ∧ s8 = .int .i64 kk ∧ Aside0 (Below w.heap.size w wr) ∧ Aside0 (∀ j, j < kk → pv j = false))
  case atStart => exact ⟨0, Nat.zero_le _, by omega, rfl, ⟨Below.refl _ w⟩, ⟨fun j hj => absurd hj (Nat.not_lt_zero _)⟩⟩
  case round =>
    obtain ⟨kk, hkk, hg, rfl, BW, HA⟩ := hrel
    by_cases hlt : kk < n
    · have hltz : (kk : Int) < (n : Int) := by omega
      obtain ⟨ad, rfl, hx0⟩ := HC.out kk hlt
      have hx := pw_cell_below BW.out hx0
      have hcall := HP.out kk hlt wr BW.out
      generalize hy : ev kk = y at hx hcall
      clear hy hx0
      cases hq : pv kk with
      | true =>
        rw [hq] at hcall
        go_wp2_with (go_at_fn g; refine hcall.mono ?_; rintro e w' ⟨rfl, hb'⟩)
        go_ret
        exact ⟨by rw [idx_hit pv n kk hlt hq HA.out]; rfl, below_step BW.out hb'⟩
      | false =>
        rw [hq] at hcall
        go_wp2_with (go_at_fn g; refine hcall.mono ?_; rintro e w' ⟨rfl, hb'⟩)
        go_roundg (n - (kk + 1))
        case measure => omega
        case rel =>
          refine ⟨kk + 1, by omega, by omega, by go_num, ⟨below_step BW.out hb'⟩, ⟨fun j hj => ?_⟩⟩
          by_cases e : j = kk
          · subst e
            exact hq
          · exact HA.out j (by omega)
    · have hltz : ¬ (kk : Int) < (n : Int) := by omega
      have : kk = n := by omega
      subst this
      go_wp2
      go_ret
      exact ⟨by rw [idx_miss pv kk HA.out]; rfl, BW.out⟩
set_option maxHeartbeats 4000000 in
theorem contains177 (g : Nat) (lb : Array Value) (eg : ∀ args w, (callFunc g args).run Try.prog w = .ok (.enter g args) w) (ev : Nat → Value) (pv : Nat → Bool)
    (A : Option Addr) (n c : Nat) (w : World) (hn : n ≤ 9223372036854775807)
    (hc : ∀ j, j < n → ∃ ad, A = some ad ∧ w.cell? (ad.add j) = some (ev j))
    (hp : ∀ j, j < n → ∀ W, Below w.heap.size w W → Calls Try.prog g (#[ev j] ++ lb) W fun e w' => e = .returned (.bool (pv j)) ∧ Below W.heap.size W w') :
    Calls Try.prog 139 #[.slice A n c, .func (.func g) #[] lb] w fun e w' => e = .returned (.bool ((List.range n).any pv)) ∧ Below w.heap.size w w' := by
  have H := Aside0.mk (index177 g lb eg ev pv A n c w hn hc hp)
  clear hc hp
  rw [← idx_any pv n]
  go_enter Try.func139, Try.ntmps139
  go_wp2_with (go_at_call 177; refine H.out.mono ?_; rintro e w' ⟨rfl, hb'⟩)
  go_ret
  exact ⟨rfl, hb'⟩
end Go.Proofs.Yteiiodlgdbiimaa.F
end
section
namespace Go.Proofs.Yteiiodlgdbiimaa.F
open Go.RowKit Go.Proofs.YteiiodlgdbiimaaW.PrintWords Go.Proofs.YteiiodlgdbiimaaW.PrintLast Go.Proofs.YteiiodlgdbiimaaW.PrintMore
attribute [local go_sem] max2_int min2_int max_two min_two max_three min_three max_four min_four
set_option linter.unusedVariables false
set_option linter.unusedSimpArgs false
def norm_vars.f (a0_0 : Int) (l0_1 : List (S41)) (l0_2 : List (S68)) (l0_3 : List Int) (l0_4 : List Int) (l0_5 : List Int) : Option (Int) := some (wrap64 ((wrap64 (a0_0 + (l0_1.length : Int))) + (l0_2.length : Int)))
set_option maxHeartbeats 8000000 in
set_option maxRecDepth 100000 in
theorem norm_vars.calls (a0_0 : Int) (A0_1 : Option Addr) (c0_1 : Nat) (l0_1 : List (S41)) (A0_2 : Option Addr) (c0_2 : Nat) (l0_2 : List (S68)) (A0_3 : Option Addr) (c0_3 : Nat) (l0_3 : List Int) (A0_4 : Option Addr) (c0_4 : Nat) (l0_4 : List Int) (A0_5 : Option Addr) (c0_5 : Nat) (l0_5 : List Int) (r : Int) (w : World) (hr0_1 : Kd.C k41 w A0_1 l0_1.length l0_1) (hc0_1 : l0_1.length ≤ c0_1) (hr0_2 : Kd.C k68 w A0_2 l0_2.length l0_2) (hc0_2 : l0_2.length ≤ c0_2) (hr0_3 : Kd.C (Kd.int .u32) w A0_3 l0_3.length l0_3) (hc0_3 : l0_3.length ≤ c0_3) (hr0_4 : Kd.C (Kd.int .u32) w A0_4 l0_4.length l0_4) (hc0_4 : l0_4.length ≤ c0_4) (hr0_5 : Kd.C (Kd.int .u32) w A0_5 l0_5.length l0_5) (hc0_5 : l0_5.length ≤ c0_5) (h : norm_vars.f a0_0 l0_1 l0_2 l0_3 l0_4 l0_5 = some r) :
    Calls Try.prog 143 #[.agg #[.int .i64 a0_0, .slice A0_1 l0_1.length c0_1, .slice A0_2 l0_2.length c0_2, .slice A0_3 l0_3.length c0_3, .slice A0_4 l0_4.length c0_4, .slice A0_5 l0_5.length c0_5]] w fun e w' => e = .returned (.int .i64 r) ∧ Below w.heap.size w w' := by
  have hu26 := Try.underlying26
  have HR0_1 := Aside0.mk hr0_1
  have HC0_1 := Aside0.mk hc0_1
  clear hr0_1 hc0_1
  have HR0_2 := Aside0.mk hr0_2
  have HC0_2 := Aside0.mk hc0_2
  clear hr0_2 hc0_2
  have HR0_3 := Aside0.mk hr0_3
  have HC0_3 := Aside0.mk hc0_3
  clear hr0_3 hc0_3
  have HR0_4 := Aside0.mk hr0_4
  have HC0_4 := Aside0.mk hc0_4
  clear hr0_4 hc0_4
  have HR0_5 := Aside0.mk hr0_5
  have HC0_5 := Aside0.mk hc0_5
  clear hr0_5 hc0_5
  have HB := Aside0.mk (Below.refl w.heap.size w)
  have H : (some (wrap64 ((wrap64 (a0_0 + (l0_1.length : Int))) + (l0_2.length : Int)))) = some r := h
  clear h
  obtain rfl := Option.some.inj H
  go_enter Try.func143, Try.ntmps143
  go_wp2_with (first | ((with_reducible refine gate_dst (N := 1) rfl ?_); refine box_event ?hg (N := 1) ?hd (cs := #[.int .i64 a0_0, .slice A0_1 l0_1.length c0_1, .slice A0_2 l0_2.length c0_2, .slice A0_3 l0_3.length c0_3, .slice A0_4 l0_4.length c0_4, .slice A0_5 l0_5.length c0_5]) (t := 26) ?hr ?_; (case hd => rfl); (case hg => rfl); (case hr => first | (go_simp; done) | (go_simp; rfl)); intro gb103 hg w2 hbox hb; have n0_ := Aside0.mk (below_step (by repeat (first | (with_reducible first | exact HB.out | apply below_alloc | apply pw_below_drewN | apply below_drew1) | exact HB.out)) hb); have n1_ := Aside0.mk (hbox); have n2_ := Aside0.mk ((by rw [hg]; exact (below_size (by repeat (first | (with_reducible first | exact HB.out | apply below_alloc | apply pw_below_drewN | apply below_drew1) | exact HB.out))) : w.heap.size ≤ gb103)); have n3_ := Aside0.mk ((by rw [hg]; exact (below_size (by repeat (first | (with_reducible first | exact HB.out | apply below_alloc | apply pw_below_drewN | apply below_drew1) | exact HB.out))) : w.heap.size ≤ gb103)); clear HB; have HB := n0_; have BK103 := n1_; have GW103 := n2_; have GE103 := n3_; clear n0_ n1_ n2_ n3_; clear hb hbox hg; have hcz3_0 : w2.cell? ⟨gb103, 0, none⟩ = some (.int .i64 a0_0) := (blk_cell BK103.out 0).trans rfl; have hcz3_1 : w2.cell? ⟨gb103, 1, none⟩ = some (.slice A0_1 l0_1.length c0_1) := (blk_cell BK103.out 1).trans rfl; have hcz3_2 : w2.cell? ⟨gb103, 2, none⟩ = some (.slice A0_2 l0_2.length c0_2) := (blk_cell BK103.out 2).trans rfl; have hcz3_3 : w2.cell? ⟨gb103, 3, none⟩ = some (.slice A0_3 l0_3.length c0_3) := (blk_cell BK103.out 3).trans rfl; have hcz3_4 : w2.cell? ⟨gb103, 4, none⟩ = some (.slice A0_4 l0_4.length c0_4) := (blk_cell BK103.out 4).trans rfl; have hcz3_5 : w2.cell? ⟨gb103, 5, none⟩ = some (.slice A0_5 l0_5.length c0_5) := (blk_cell BK103.out 5).trans rfl; have hfz3_0 := blk_frozen BK103.out 0; have hfz3_1 := blk_frozen BK103.out 1; have hfz3_2 := blk_frozen BK103.out 2; have hfz3_3 := blk_frozen BK103.out 3; have hfz3_4 := blk_frozen BK103.out 4; have hfz3_5 := blk_frozen BK103.out 5))
  go_ret
  exact ⟨by first | rfl | (simp [errW_none, errW_some] <;> rfl) | (simp [*, errW_none, errW_some] <;> rfl), by repeat (first | (with_reducible first | exact HB.out | apply below_alloc | apply pw_below_drewN | apply below_drew1 | refine below_set ?_ GE103.out) | exact HB.out)⟩
end Go.Proofs.Yteiiodlgdbiimaa.F
end
section
namespace Go.Proofs.Yteiiodlgdbiimaa.F
open Go.RowKit Go.Shelf Go.Proofs.YteiiodlgdbiimaaW.PrintWords Go.Proofs.YteiiodlgdbiimaaW.PrintLast Go.Proofs.YteiiodlgdbiimaaW.PrintMore
set_option linter.unusedVariables false
set_option linter.unusedSimpArgs false
def varsW (a : Int) (n m : Nat) : Int := wrap64 ((wrap64 (a + (n : Int))) + (m : Int))
def beyW (V x : Int) : Bool := decide (V < wrap64 (x / 2))
def listOk (V : Int) (l : List Int) : Bool := !decide (1024 < (l.length : Int)) && !l.any (beyW V)
def latchOk (V : Int) (x : S41) : Bool := !decide (2 < x.f1) && !beyW V x.f0
def gatesOk : Int → List S68 → Bool
  | _, [] => true
  | o, g :: gs => !decide (IntKind.u32.wrap (o + 1) ≤ g.f0 / 2) && !decide (g.f0 < g.f1) && gatesOk (IntKind.u32.wrap (o + 1)) gs
def mayB (a : Int) (l1 : List S41) (l2 : List S68) (l3 l4 l5 : List Int) : Bool :=
  !decide (a < 0) && !decide (16384 < a) && !decide (16384 < varsW a l1.length l2.length) && listOk (varsW a l1.length l2.length) l3 && listOk (varsW a l1.length l2.length) l4 && listOk (varsW a l1.length l2.length) l5
    && l1.all (latchOk (varsW a l1.length l2.length)) && gatesOk (IntKind.u32.wrap (wrap64 (a + (l1.length : Int)))) l2
set_option maxHeartbeats 4000000 in
theorem may1 (a0 : Int) (A1 : Option Addr) (c1 : Nat) (l1 : List S41) (A2 : Option Addr) (c2 : Nat) (l2 : List S68) (A3 : Option Addr) (c3 : Nat) (l3 : List Int) (A4 : Option Addr) (c4 : Nat) (l4 : List Int) (A5 : Option Addr) (c5 : Nat) (l5 : List Int)
    (g : Nat) (x : Int) (w : World) (hr1 : Kd.C k41 w A1 l1.length l1) (hc1 : l1.length ≤ c1) (hr2 : Kd.C k68 w A2 l2.length l2) (hc2 : l2.length ≤ c2) (hr3 : Kd.C (Kd.int .u32) w A3 l3.length l3) (hc3 : l3.length ≤ c3) (hr4 : Kd.C (Kd.int .u32) w A4 l4.length l4) (hc4 : l4.length ≤ c4) (hr5 : Kd.C (Kd.int .u32) w A5 l5.length l5) (hc5 : l5.length ≤ c5)
    (hb : w.heap[g]? = some (.cells #[.int .i64 a0, .slice A1 l1.length c1, .slice A2 l2.length c2, .slice A3 l3.length c3, .slice A4 l4.length c4, .slice A5 l5.length c5] 26 (0, 0))) :
    Calls Try.prog 144 #[.int .u32 x, .pointer (some ⟨g, 0, none⟩)] w fun e w' => e = .returned (.bool (beyW (varsW a0 l1.length l2.length) x)) ∧ Below w.heap.size w w' := by
  have hu26 := Try.underlying26
  have hv := norm_vars.calls a0 A1 c1 l1 A2 c2 l2 A3 c3 l3 A4 c4 l4 A5 c5 l5 _ w hr1 hc1 hr2 hc2 hr3 hc3 hr4 hc4 hr5 hc5 rfl
  have HV := Aside0.mk hv
  clear hv hr1 hr2 hr3 hr4 hr5 hc1 hc2 hc3 hc4 hc5
  have z0 : w.cell? ⟨g, 0, none⟩ = some (.int .i64 a0) := (blk_cell hb 0).trans rfl
  have z1 : w.cell? ⟨g, 1, none⟩ = some (.slice A1 l1.length c1) := (blk_cell hb 1).trans rfl
  have z2 : w.cell? ⟨g, 2, none⟩ = some (.slice A2 l2.length c2) := (blk_cell hb 2).trans rfl
  have z3 : w.cell? ⟨g, 3, none⟩ = some (.slice A3 l3.length c3) := (blk_cell hb 3).trans rfl
  have z4 : w.cell? ⟨g, 4, none⟩ = some (.slice A4 l4.length c4) := (blk_cell hb 4).trans rfl
  have z5 : w.cell? ⟨g, 5, none⟩ = some (.slice A5 l5.length c5) := (blk_cell hb 5).trans rfl
  clear hb
  go_enter Try.func144, Try.ntmps144
  go_wp2_with (go_at_call 143; refine HV.out.mono ?_; rintro e w' ⟨rfl, hb'⟩)
  go_ret
  exact ⟨rfl, hb'⟩
def norm_May.f (a0_0 : Int) (l0_1 : List (S41)) (l0_2 : List (S68)) (l0_3 : List Int) (l0_4 : List Int) (l0_5 : List Int) : Option (Bool) := some (mayB a0_0 l0_1 l0_2 l0_3 l0_4 l0_5)
structure MayAt (a0 : Int) (A1 : Option Addr) (c1 : Nat) (l1 : List S41) (A2 : Option Addr) (c2 : Nat) (l2 : List S68) (A3 : Option Addr) (c3 : Nat) (l3 : List Int) (A4 : Option Addr) (c4 : Nat) (l4 : List Int) (A5 : Option Addr) (c5 : Nat) (l5 : List Int) (g : Nat) (w W : World) : Prop where
  below : Below w.heap.size w W
  blk : W.heap[g]? = some (.cells #[.int .i64 a0, .slice A1 l1.length c1, .slice A2 l2.length c2, .slice A3 l3.length c3, .slice A4 l4.length c4, .slice A5 l5.length c5] 26 (0, 0))
  h1 : Kd.C k41 W A1 l1.length l1
  h2 : Kd.C k68 W A2 l2.length l2
  h3 : Kd.C (Kd.int .u32) W A3 l3.length l3
  h4 : Kd.C (Kd.int .u32) W A4 l4.length l4
  h5 : Kd.C (Kd.int .u32) W A5 l5.length l5
theorem MayAt.step {a0 : Int} {A1 : Option Addr} {c1 : Nat} {l1 : List S41} {A2 : Option Addr} {c2 : Nat} {l2 : List S68} {A3 : Option Addr} {c3 : Nat} {l3 : List Int} {A4 : Option Addr} {c4 : Nat} {l4 : List Int} {A5 : Option Addr} {c5 : Nat} {l5 : List Int} {g : Nat} {w W W' : World}
    (h : MayAt a0 A1 c1 l1 A2 c2 l2 A3 c3 l3 A4 c4 l4 A5 c5 l5 g w W) (hb : Below W.heap.size W W') : MayAt a0 A1 c1 l1 A2 c2 l2 A3 c3 l3 A4 c4 l4 A5 c5 l5 g w W' :=
  ⟨below_step h.below hb, blk_below h.blk hb, Kd.C_below h.h1 hb, Kd.C_below h.h2 hb, Kd.C_below h.h3 hb, Kd.C_below h.h4 hb, Kd.C_below h.h5 hb⟩
theorem mayAny (a0 : Int) (A1 : Option Addr) (c1 : Nat) (l1 : List S41) (A2 : Option Addr) (c2 : Nat) (l2 : List S68) (A3 : Option Addr) (c3 : Nat) (l3 : List Int) (A4 : Option Addr) (c4 : Nat) (l4 : List Int) (A5 : Option Addr) (c5 : Nat) (l5 : List Int) (g : Nat) (w W : World) (h : MayAt a0 A1 c1 l1 A2 c2 l2 A3 c3 l3 A4 c4 l4 A5 c5 l5 g w W) (hc1 : l1.length ≤ c1) (hc2 : l2.length ≤ c2) (hc3 : l3.length ≤ c3) (hc4 : l4.length ≤ c4) (hc5 : l5.length ≤ c5)
    (A : Option Addr) (c : Nat) (l : List Int) (hl : Kd.C (Kd.int .u32) W A l.length l) :
    Calls Try.prog 139 #[.slice A l.length c, .func (.func 144) #[] #[.pointer (some ⟨g, 0, none⟩)]] W fun e w' => e = .returned (.bool (l.any (beyW (varsW a0 l1.length l2.length)))) ∧ Below W.heap.size W w' := by
  have e : l.any (beyW (varsW a0 l1.length l2.length)) = (List.range l.length).any (fun j => beyW (varsW a0 l1.length l2.length) (l.getD j 0)) := by
    rw [Bool.eq_iff_iff, List.any_eq_true, List.any_eq_true]
    constructor
    · rintro ⟨x, hx, hp⟩
      obtain ⟨j, hj, rfl⟩ := List.mem_iff_getElem.1 hx
      exact ⟨j, List.mem_range.2 hj, by simpa [List.getD_eq_getElem?_getD, List.getElem?_eq_getElem hj] using hp⟩
    · rintro ⟨j, hj, hp⟩
      have hj' := List.mem_range.1 hj
      exact ⟨l[j], List.getElem_mem hj', by simpa [List.getD_eq_getElem?_getD, List.getElem?_eq_getElem hj'] using hp⟩
  rw [e]
  refine contains177 144 #[.pointer (some ⟨g, 0, none⟩)] (enters_of Try.func144 (by kernel_rfl) rfl) (fun j => .int .u32 (l.getD j 0)) _ A l.length c W hl.2.1 (fun j hj => ?_) (fun j hj W' hb => ?_)
  · obtain ⟨ad, e, hx⟩ := Kd.at_int hl (j : Int) (by omega) (by omega)
    exact ⟨ad, e, by simpa [rd] using hx⟩
  · have h' := h.step hb
    exact may1 a0 A1 c1 l1 A2 c2 l2 A3 c3 l3 A4 c4 l4 A5 c5 l5 g _ W' h'.h1 hc1 h'.h2 hc2 h'.h3 hc3 h'.h4 hc4 h'.h5 hc5 h'.blk
set_option maxHeartbeats 8000000 in
set_option maxRecDepth 100000 in
theorem norm_May.calls (a0 : Int) (A1 : Option Addr) (c1 : Nat) (l1 : List S41) (A2 : Option Addr) (c2 : Nat) (l2 : List S68) (A3 : Option Addr) (c3 : Nat) (l3 : List Int) (A4 : Option Addr) (c4 : Nat) (l4 : List Int) (A5 : Option Addr) (c5 : Nat) (l5 : List Int)
  (r : Bool) (w : World) (hr1 : Kd.C k41 w A1 l1.length l1) (hc1 : l1.length ≤ c1) (hr2 : Kd.C k68 w A2 l2.length l2) (hc2 : l2.length ≤ c2) (hr3 : Kd.C (Kd.int .u32) w A3 l3.length l3) (hc3 : l3.length ≤ c3) (hr4 : Kd.C (Kd.int .u32) w A4 l4.length l4) (hc4 : l4.length ≤ c4) (hr5 : Kd.C (Kd.int .u32) w A5 l5.length l5) (hc5 : l5.length ≤ c5)
  (h : norm_May.f a0 l1 l2 l3 l4 l5 = some r) :
  Calls Try.prog 92 #[.agg #[.int .i64 a0, .slice A1 l1.length c1, .slice A2 l2.length c2, .slice A3 l3.length c3, .slice A4 l4.length c4, .slice A5 l5.length c5]] w fun e w' => e = .returned (.bool r) ∧ Below w.heap.size w w' := by
 obtain rfl := Option.some.inj h
 clear h
 have hu26 := Try.underlying26
 have hu41 := Try.underlying41
 have hu68 := Try.underlying68
 have HV := Aside0.mk (fun W (h : MayAt a0 A1 c1 l1 A2 c2 l2 A3 c3 l3 A4 c4 l4 A5 c5 l5 w.heap.size w W) => norm_vars.calls a0 A1 c1 l1 A2 c2 l2 A3 c3 l3 A4 c4 l4 A5 c5 l5 _ W h.h1 hc1 h.h2 hc2 h.h3 hc3 h.h4 hc4 h.h5 hc5 rfl)
 have HQ := Aside0.mk (fun W (h : MayAt a0 A1 c1 l1 A2 c2 l2 A3 c3 l3 A4 c4 l4 A5 c5 l5 w.heap.size w W) => mayAny a0 A1 c1 l1 A2 c2 l2 A3 c3 l3 A4 c4 l4 A5 c5 l5 w.heap.size w W h hc1 hc2 hc3 hc4 hc5)
 have H0 := Aside0.mk (fun W (hb : Below w.heap.size w W) (hk : W.heap[w.heap.size]? = some (.cells #[.int .i64 a0, .slice A1 l1.length c1, .slice A2 l2.length c2, .slice A3 l3.length c3, .slice A4 l4.length c4, .slice A5 l5.length c5] 26 (0, 0))) => (⟨hb, hk, Kd.C_below hr1 hb, Kd.C_below hr2 hb, Kd.C_below hr3 hb, Kd.C_below hr4 hb, Kd.C_below hr5 hb⟩ : MayAt a0 A1 c1 l1 A2 c2 l2 A3 c3 l3 A4 c4 l4 A5 c5 l5 w.heap.size w W))
 have HB1 := Aside0.mk (fun W (h : MayAt a0 A1 c1 l1 A2 c2 l2 A3 c3 l3 A4 c4 l4 A5 c5 l5 w.heap.size w W) x => may1 a0 A1 c1 l1 A2 c2 l2 A3 c3 l3 A4 c4 l4 A5 c5 l5 w.heap.size x W h.h1 hc1 h.h2 hc2 h.h3 hc3 h.h4 hc4 h.h5 hc5 h.blk)
 clear hr1 hr2 hr3 hr4 hr5
 by_cases d1 : a0 < 0
 ·
  have R : Aside0 (mayB a0 l1 l2 l3 l4 l5 = false) := ⟨by simp [mayB, d1]⟩
  have d1b : decide (a0 < 0) = true := decide_eq_true d1
  go_enter Try.func92, Try.ntmps92
  go_wp2_with ((with_reducible refine gate_dst (N := 1) rfl ?_); (try (refine gate_guard (by rfl) ?_; dsimp only)); refine box_event ?hg (N := 1) ?hd (cs := #[.int .i64 a0, .slice A1 l1.length c1, .slice A2 l2.length c2, .slice A3 l3.length c3, .slice A4 l4.length c4, .slice A5 l5.length c5]) (t := 26) ?hr ?_; (case hd => rfl); (case hg => rfl); (case hr => first | (go_simp; done) | (go_simp; rfl)); intro g hg_ w1 BK HB; subst hg_; have z0 : w1.cell? ⟨w.heap.size, 0, none⟩ = some (.int .i64 a0) := (blk_cell BK 0).trans rfl; have z1 : w1.cell? ⟨w.heap.size, 1, none⟩ = some (.slice A1 l1.length c1) := (blk_cell BK 1).trans rfl; have z2 : w1.cell? ⟨w.heap.size, 2, none⟩ = some (.slice A2 l2.length c2) := (blk_cell BK 2).trans rfl; have z3 : w1.cell? ⟨w.heap.size, 3, none⟩ = some (.slice A3 l3.length c3) := (blk_cell BK 3).trans rfl; have z4 : w1.cell? ⟨w.heap.size, 4, none⟩ = some (.slice A4 l4.length c4) := (blk_cell BK 4).trans rfl; have z5 : w1.cell? ⟨w.heap.size, 5, none⟩ = some (.slice A5 l5.length c5) := (blk_cell BK 5).trans rfl)
  go_ret
  exact ⟨by rw [R.out]; rfl, HB⟩
 have d1b : decide (a0 < 0) = false := decide_eq_false d1
 by_cases d2 : 16384 < a0
 ·
  have R : Aside0 (mayB a0 l1 l2 l3 l4 l5 = false) := ⟨by simp [mayB, d2]⟩
  have d2b : decide (16384 < a0) = true := decide_eq_true d2
  go_enter Try.func92, Try.ntmps92
  go_wp2_with ((with_reducible refine gate_dst (N := 1) rfl ?_); (try (refine gate_guard (by rfl) ?_; dsimp only)); refine box_event ?hg (N := 1) ?hd (cs := #[.int .i64 a0, .slice A1 l1.length c1, .slice A2 l2.length c2, .slice A3 l3.length c3, .slice A4 l4.length c4, .slice A5 l5.length c5]) (t := 26) ?hr ?_; (case hd => rfl); (case hg => rfl); (case hr => first | (go_simp; done) | (go_simp; rfl)); intro g hg_ w1 BK HB; subst hg_; have z0 : w1.cell? ⟨w.heap.size, 0, none⟩ = some (.int .i64 a0) := (blk_cell BK 0).trans rfl; have z1 : w1.cell? ⟨w.heap.size, 1, none⟩ = some (.slice A1 l1.length c1) := (blk_cell BK 1).trans rfl; have z2 : w1.cell? ⟨w.heap.size, 2, none⟩ = some (.slice A2 l2.length c2) := (blk_cell BK 2).trans rfl; have z3 : w1.cell? ⟨w.heap.size, 3, none⟩ = some (.slice A3 l3.length c3) := (blk_cell BK 3).trans rfl; have z4 : w1.cell? ⟨w.heap.size, 4, none⟩ = some (.slice A4 l4.length c4) := (blk_cell BK 4).trans rfl; have z5 : w1.cell? ⟨w.heap.size, 5, none⟩ = some (.slice A5 l5.length c5) := (blk_cell BK 5).trans rfl)
  go_ret
  exact ⟨by rw [R.out]; rfl, HB⟩
 have d2b : decide (16384 < a0) = false := decide_eq_false d2
 generalize hV : varsW a0 l1.length l2.length = V at HQ HB1
 have HVE := Aside0.mk hV
 clear hV
 have HV := Aside0.mk (fun W h => by have := HV.out W h; rw [show wrap64 ((wrap64 (a0 + (l1.length : Int))) + (l2.length : Int)) = V from HVE.out] at this; exact this)
 by_cases d3 : 16384 < V
 ·
  have R : Aside0 (mayB a0 l1 l2 l3 l4 l5 = false) := ⟨by simp [mayB, HVE.out, d3]⟩
  have d3b : decide (16384 < V) = true := decide_eq_true d3
  go_enter Try.func92, Try.ntmps92
  go_wp2_with (first | ((with_reducible refine gate_dst (N := 1) rfl ?_); (try (refine gate_guard (by rfl) ?_; dsimp only)); refine box_event ?hg (N := 1) ?hd (cs := #[.int .i64 a0, .slice A1 l1.length c1, .slice A2 l2.length c2, .slice A3 l3.length c3, .slice A4 l4.length c4, .slice A5 l5.length c5]) (t := 26) ?hr ?_; (case hd => rfl); (case hg => rfl); (case hr => first | (go_simp; done) | (go_simp; rfl)); intro g hg_ w1 BK HB; subst hg_; have z0 : w1.cell? ⟨w.heap.size, 0, none⟩ = some (.int .i64 a0) := (blk_cell BK 0).trans rfl; have z1 : w1.cell? ⟨w.heap.size, 1, none⟩ = some (.slice A1 l1.length c1) := (blk_cell BK 1).trans rfl; have z2 : w1.cell? ⟨w.heap.size, 2, none⟩ = some (.slice A2 l2.length c2) := (blk_cell BK 2).trans rfl; have z3 : w1.cell? ⟨w.heap.size, 3, none⟩ = some (.slice A3 l3.length c3) := (blk_cell BK 3).trans rfl; have z4 : w1.cell? ⟨w.heap.size, 4, none⟩ = some (.slice A4 l4.length c4) := (blk_cell BK 4).trans rfl; have z5 : w1.cell? ⟨w.heap.size, 5, none⟩ = some (.slice A5 l5.length c5) := (blk_cell BK 5).trans rfl; have HM := Aside0.mk (H0.out _ HB BK)) | (go_at_call 143; refine (HV.out _ HM.out).mono ?_; rintro e w' ⟨rfl, hb'⟩))
  go_ret
  exact ⟨by rw [R.out]; rfl, below_step HM.out.below hb'⟩
 have d3b : decide (16384 < V) = false := decide_eq_false d3
 go_enter Try.func92, Try.ntmps92
 go_wp2_with (first | ((with_reducible refine gate_dst (N := 1) rfl ?_); (try (refine gate_guard (by rfl) ?_; dsimp only)); refine box_event ?hg (N := 1) ?hd (cs := #[.int .i64 a0, .slice A1 l1.length c1, .slice A2 l2.length c2, .slice A3 l3.length c3, .slice A4 l4.length c4, .slice A5 l5.length c5]) (t := 26) ?hr ?_; (case hd => rfl); (case hg => rfl); (case hr => first | (go_simp; done) | (go_simp; rfl)); intro g hg_ w1 BK HB; subst hg_; have z0 : w1.cell? ⟨w.heap.size, 0, none⟩ = some (.int .i64 a0) := (blk_cell BK 0).trans rfl; have z1 : w1.cell? ⟨w.heap.size, 1, none⟩ = some (.slice A1 l1.length c1) := (blk_cell BK 1).trans rfl; have z2 : w1.cell? ⟨w.heap.size, 2, none⟩ = some (.slice A2 l2.length c2) := (blk_cell BK 2).trans rfl; have z3 : w1.cell? ⟨w.heap.size, 3, none⟩ = some (.slice A3 l3.length c3) := (blk_cell BK 3).trans rfl; have z4 : w1.cell? ⟨w.heap.size, 4, none⟩ = some (.slice A4 l4.length c4) := (blk_cell BK 4).trans rfl; have z5 : w1.cell? ⟨w.heap.size, 5, none⟩ = some (.slice A5 l5.length c5) := (blk_cell BK 5).trans rfl; have HM := Aside0.mk (H0.out _ HB BK)) | (go_at_call 143; refine (HV.out _ HM.out).mono ?_; rintro e w' ⟨rfl, hb'⟩; have HM2 := Aside0.mk (HM.out.step hb'); clear HB BK HM z0 z1 z2 z3 z4 z5 hb'; have z0 : w'.cell? ⟨w.heap.size, 0, none⟩ = some (.int .i64 a0) := (blk_cell HM2.out.blk 0).trans rfl; have z1 : w'.cell? ⟨w.heap.size, 1, none⟩ = some (.slice A1 l1.length c1) := (blk_cell HM2.out.blk 1).trans rfl; have z2 : w'.cell? ⟨w.heap.size, 2, none⟩ = some (.slice A2 l2.length c2) := (blk_cell HM2.out.blk 2).trans rfl; have z3 : w'.cell? ⟨w.heap.size, 3, none⟩ = some (.slice A3 l3.length c3) := (blk_cell HM2.out.blk 3).trans rfl; have z4 : w'.cell? ⟨w.heap.size, 4, none⟩ = some (.slice A4 l4.length c4) := (blk_cell HM2.out.blk 4).trans rfl; have z5 : w'.cell? ⟨w.heap.size, 5, none⟩ = some (.slice A5 l5.length c5) := (blk_cell HM2.out.blk 5).trans rfl))
 have MB : Aside0 (mayB a0 l1 l2 l3 l4 l5 = ([l3, l4, l5].all (listOk V) && (l1.all (latchOk V) && gatesOk (IntKind.u32.wrap (wrap64 (a0 + (l1.length : Int)))) l2))) := ⟨by simp [mayB, HVE.out, d1b, d2b, d3b, Bool.and_assoc]⟩
 go_loopg [33] 3 (fun gg v33 wr => ∃ k : Nat, k ≤ 3 ∧ 3 - k ≤ gg ∧ v33 = .int .i64 k ∧ Aside0 (MayAt a0 A1 c1 l1 A2 c2 l2 A3 c3 l3 A4 c4 l4 A5 c5 l5 w.heap.size w wr) ∧ Aside0 (wr.heap[w'.heap.size]? = some (.cells #[.slice A3 l3.length c3, .slice A4 l4.length c4, .slice A5 l5.length c5] 24 (0, 0)))
  ∧ Aside0 (mayB a0 l1 l2 l3 l4 l5 = (([l3, l4, l5].drop k).all (listOk V) && (l1.all (latchOk V) && gatesOk (IntKind.u32.wrap (wrap64 (a0 + (l1.length : Int)))) l2))))
 case atStart => exact ⟨0, by omega, by omega, rfl, ⟨HM2.out.step (below_alloc (Below.refl _ _) _)⟩, ⟨blk_new _ _⟩, MB⟩
 case round =>
  clear z0 z1 z2 z3 z4 z5 MB
  obtain ⟨k, hk, hg, rfl, HM, BS, MB⟩ := hrel
  have s0 : wr.cell? ⟨w'.heap.size, 0, none⟩ = some (.slice A3 l3.length c3) := (blk_cell BS.out 0).trans rfl
  have s1 : wr.cell? ⟨w'.heap.size, 1, none⟩ = some (.slice A4 l4.length c4) := (blk_cell BS.out 1).trans rfl
  have s2 : wr.cell? ⟨w'.heap.size, 2, none⟩ = some (.slice A5 l5.length c5) := (blk_cell BS.out 2).trans rfl
  match k, hk with
  | 0, _ =>
   by_cases e1 : 1024 < (l3.length : Int)
   ·
    have R : Aside0 (mayB a0 l1 l2 l3 l4 l5 = false) := ⟨MB.out.trans (by simp [listOk, e1])⟩
    have e1b : decide (1024 < (l3.length : Int)) = true := decide_eq_true e1
    have e1c : decide (1024 < l3.length) = true := decide_eq_true (by omega)
    clear e1
    go_wp2
    go_ret
    exact ⟨by rw [R.out]; rfl, HM.out.below⟩
   ·
    have e1b : decide (1024 < (l3.length : Int)) = false := decide_eq_false e1
    have e1c : decide (1024 < l3.length) = false := decide_eq_false (by omega)
    clear e1
    have hcall := HQ.out wr HM.out A3 c3 l3 HM.out.h3
    cases hq : l3.any (beyW V) with
    | true =>
     have R : Aside0 (mayB a0 l1 l2 l3 l4 l5 = false) := ⟨MB.out.trans (by simp [listOk, hq])⟩
     rw [hq] at hcall
     clear hq
     have hcall := Aside0.mk hcall
     go_wp2_with (go_at_call 139; refine hcall.out.mono ?_; rintro e w3 ⟨rfl, hb'⟩)
     go_ret
     exact ⟨by rw [R.out]; rfl, below_step HM.out.below hb'⟩
    | false =>
     have R : Aside0 (mayB a0 l1 l2 l3 l4 l5 = (([l3, l4, l5].drop 1).all (listOk V) && (l1.all (latchOk V) && gatesOk (IntKind.u32.wrap (wrap64 (a0 + (l1.length : Int)))) l2))) := ⟨MB.out.trans (by simp [listOk, hq, e1b, e1c]; try omega)⟩
     rw [hq] at hcall
     clear hq
     have hcall := Aside0.mk hcall
     go_wp2_with (go_at_call 139; refine hcall.out.mono ?_; rintro e w3 ⟨rfl, hb'⟩)
     go_roundg (2 - 0)
     case measure => omega
     case rel => exact ⟨1, by omega, by omega, by go_num, ⟨HM.out.step hb'⟩, ⟨blk_below BS.out hb'⟩, R⟩
  | 1, _ =>
   by_cases e1 : 1024 < (l4.length : Int)
   ·
    have R : Aside0 (mayB a0 l1 l2 l3 l4 l5 = false) := ⟨MB.out.trans (by simp [listOk, e1])⟩
    have e1b : decide (1024 < (l4.length : Int)) = true := decide_eq_true e1
    have e1c : decide (1024 < l4.length) = true := decide_eq_true (by omega)
    clear e1
    go_wp2
    go_ret
    exact ⟨by rw [R.out]; rfl, HM.out.below⟩
   ·
    have e1b : decide (1024 < (l4.length : Int)) = false := decide_eq_false e1
    have e1c : decide (1024 < l4.length) = false := decide_eq_false (by omega)
    clear e1
    have hcall := HQ.out wr HM.out A4 c4 l4 HM.out.h4
    cases hq : l4.any (beyW V) with
    | true =>
     have R : Aside0 (mayB a0 l1 l2 l3 l4 l5 = false) := ⟨MB.out.trans (by simp [listOk, hq])⟩
     rw [hq] at hcall
     clear hq
     have hcall := Aside0.mk hcall
     go_wp2_with (go_at_call 139; refine hcall.out.mono ?_; rintro e w3 ⟨rfl, hb'⟩)
     go_ret
     exact ⟨by rw [R.out]; rfl, below_step HM.out.below hb'⟩
    | false =>
     have R : Aside0 (mayB a0 l1 l2 l3 l4 l5 = (([l3, l4, l5].drop 2).all (listOk V) && (l1.all (latchOk V) && gatesOk (IntKind.u32.wrap (wrap64 (a0 + (l1.length : Int)))) l2))) := ⟨MB.out.trans (by simp [listOk, hq, e1b, e1c]; try omega)⟩
     rw [hq] at hcall
     clear hq
     have hcall := Aside0.mk hcall
     go_wp2_with (go_at_call 139; refine hcall.out.mono ?_; rintro e w3 ⟨rfl, hb'⟩)
     go_roundg (2 - 1)
     case measure => omega
     case rel => exact ⟨2, by omega, by omega, by go_num, ⟨HM.out.step hb'⟩, ⟨blk_below BS.out hb'⟩, R⟩
  | 2, _ =>
   by_cases e1 : 1024 < (l5.length : Int)
   ·
    have R : Aside0 (mayB a0 l1 l2 l3 l4 l5 = false) := ⟨MB.out.trans (by simp [listOk, e1])⟩
    have e1b : decide (1024 < (l5.length : Int)) = true := decide_eq_true e1
    have e1c : decide (1024 < l5.length) = true := decide_eq_true (by omega)
    clear e1
    go_wp2
    go_ret
    exact ⟨by rw [R.out]; rfl, HM.out.below⟩
   ·
    have e1b : decide (1024 < (l5.length : Int)) = false := decide_eq_false e1
    have e1c : decide (1024 < l5.length) = false := decide_eq_false (by omega)
    clear e1
    have hcall := HQ.out wr HM.out A5 c5 l5 HM.out.h5
    cases hq : l5.any (beyW V) with
    | true =>
     have R : Aside0 (mayB a0 l1 l2 l3 l4 l5 = false) := ⟨MB.out.trans (by simp [listOk, hq])⟩
     rw [hq] at hcall
     clear hq
     have hcall := Aside0.mk hcall
     go_wp2_with (go_at_call 139; refine hcall.out.mono ?_; rintro e w3 ⟨rfl, hb'⟩)
     go_ret
     exact ⟨by rw [R.out]; rfl, below_step HM.out.below hb'⟩
    | false =>
     have R : Aside0 (mayB a0 l1 l2 l3 l4 l5 = (([l3, l4, l5].drop 3).all (listOk V) && (l1.all (latchOk V) && gatesOk (IntKind.u32.wrap (wrap64 (a0 + (l1.length : Int)))) l2))) := ⟨MB.out.trans (by simp [listOk, hq, e1b, e1c]; try omega)⟩
     rw [hq] at hcall
     clear hq
     have hcall := Aside0.mk hcall
     go_wp2_with (go_at_call 139; refine hcall.out.mono ?_; rintro e w3 ⟨rfl, hb'⟩)
     go_roundg (2 - 2)
     case measure => omega
     case rel => exact ⟨3, by omega, by omega, by go_num, ⟨HM.out.step hb'⟩, ⟨blk_below BS.out hb'⟩, R⟩
  | 3, _ =>
   clear s0 s1 s2
   have z0 : wr.cell? ⟨w.heap.size, 0, none⟩ = some (.int .i64 a0) := (blk_cell HM.out.blk 0).trans rfl
   have z1 : wr.cell? ⟨w.heap.size, 1, none⟩ = some (.slice A1 l1.length c1) := (blk_cell HM.out.blk 1).trans rfl
   have z2 : wr.cell? ⟨w.heap.size, 2, none⟩ = some (.slice A2 l2.length c2) := (blk_cell HM.out.blk 2).trans rfl
   have z3 : wr.cell? ⟨w.heap.size, 3, none⟩ = some (.slice A3 l3.length c3) := (blk_cell HM.out.blk 3).trans rfl
   have z4 : wr.cell? ⟨w.heap.size, 4, none⟩ = some (.slice A4 l4.length c4) := (blk_cell HM.out.blk 4).trans rfl
   have z5 : wr.cell? ⟨w.heap.size, 5, none⟩ = some (.slice A5 l5.length c5) := (blk_cell HM.out.blk 5).trans rfl
   have MB := Aside0.mk (MB.out.trans (by simp : _ = (l1.all (latchOk V) && gatesOk (IntKind.u32.wrap (wrap64 (a0 + (l1.length : Int)))) l2)))
   have n1 := HM.out.h1.2.1
   have n2 := HM.out.h2.2.1
   go_wp2
   go_loopg [49] l1.length (fun gg v49 wq => ∃ k : Nat, k ≤ l1.length ∧ l1.length - k ≤ gg ∧ v49 = .int .i64 k ∧ Aside0 (MayAt a0 A1 c1 l1 A2 c2 l2 A3 c3 l3 A4 c4 l4 A5 c5 l5 w.heap.size w wq)
    ∧ Aside0 (mayB a0 l1 l2 l3 l4 l5 = ((l1.drop k).all (latchOk V) && gatesOk (IntKind.u32.wrap (wrap64 (a0 + (l1.length : Int)))) l2)))
   case atStart => exact ⟨0, by omega, by omega, rfl, HM, MB⟩
   case round =>
    clear z0 z1 z2 z3 z4 z5 MB HM BS
    obtain ⟨k, hk, hg, rfl, HM, MB⟩ := hrel
    by_cases hlt : k < l1.length
    ·
     have hltz : (k : Int) < (l1.length : Int) := by omega
     obtain ⟨ad, e, x0, x1⟩ := at_T41 HM.out.h1 (k : Int) (by omega) hltz
     cases e
     have ek : (k : Int).toNat = k := by omega
     rw [ek] at x0 x1
     clear ek
     have E : Aside0 ((l1.drop k).all (latchOk V) = (latchOk V (rd_T41 l1 k) && (l1.drop (k + 1)).all (latchOk V))) := ⟨by rw [List.drop_eq_getElem_cons hlt, List.all_cons]; simp [rd_T41, List.getD_eq_getElem?_getD, List.getElem?_eq_getElem hlt]⟩
     generalize rd_T41 l1 (k : Int) = y at x0 x1 E
     by_cases e1 : 2 < y.f1
     ·
      have R : Aside0 (mayB a0 l1 l2 l3 l4 l5 = false) := ⟨MB.out.trans (by rw [E.out]; simp [latchOk, e1])⟩
      have e1b : decide (2 < y.f1) = true := decide_eq_true e1
      clear e1
      go_wp2_with ((with_reducible refine gate_dst (N := 7) rfl ?_); (try (refine gate_guard (by rfl) ?_; dsimp only)); refine box_event ?hg (N := 7) ?hd (cs := #[.int .u32 0, .int .u8 0]) (t := 41) ?hr ?_; (case hd => rfl); (case hg => rfl); (case hr => first | (go_simp; done) | (go_simp; rfl)); intro g7 hg_ w7 bk7 hb7; have ge7 := Aside0.mk (Nat.le_of_eq hg_.symm); clear hg_; have y0 : w7.cell? ⟨g7, 0, none⟩ = some (.int .u32 0) := (blk_cell bk7 0).trans rfl; have y1 : w7.cell? ⟨g7, 1, none⟩ = some (.int .u8 0) := (blk_cell bk7 1).trans rfl; have f7_0 := blk_frozen bk7 0; have f7_1 := blk_frozen bk7 1)
      go_ret
      exact ⟨by rw [R.out]; rfl, below_step HM.out.below ((hb7.setCell (p := ⟨g7, 0, none⟩) ge7.out _).setCell (p := ⟨g7, 1, none⟩) ge7.out _)⟩
     ·
      have e1b : decide (2 < y.f1) = false := decide_eq_false e1
      clear e1
      have hcall := Aside0.mk (fun W hb => HB1.out W hb y.f0)
      cases hq : beyW V y.f0 with
      | true =>
       have R : Aside0 (mayB a0 l1 l2 l3 l4 l5 = false) := ⟨MB.out.trans (by rw [E.out]; simp [latchOk, hq])⟩
       rw [hq] at hcall
       clear hq
       go_wp2_with (first | ((with_reducible refine gate_dst (N := 7) rfl ?_); (try (refine gate_guard (by rfl) ?_; dsimp only)); refine box_event ?hg (N := 7) ?hd (cs := #[.int .u32 0, .int .u8 0]) (t := 41) ?hr ?_; (case hd => rfl); (case hg => rfl); (case hr => first | (go_simp; done) | (go_simp; rfl)); intro g7 hg_ w7 bk7 hb7; have ge7 := Aside0.mk (Nat.le_of_eq hg_.symm); clear hg_; have y0 : w7.cell? ⟨g7, 0, none⟩ = some (.int .u32 0) := (blk_cell bk7 0).trans rfl; have y1 : w7.cell? ⟨g7, 1, none⟩ = some (.int .u8 0) := (blk_cell bk7 1).trans rfl; have f7_0 := blk_frozen bk7 0; have f7_1 := blk_frozen bk7 1) | (go_at_call 144; refine (hcall.out _ (HM.out.step ((hb7.setCell (p := ⟨g7, 0, none⟩) ge7.out _).setCell (p := ⟨g7, 1, none⟩) ge7.out _))).mono ?_; rintro e w8 ⟨rfl, hb8⟩))
       go_ret
       exact ⟨by rw [R.out]; rfl, below_step HM.out.below (below_step ((hb7.setCell (p := ⟨g7, 0, none⟩) ge7.out _).setCell (p := ⟨g7, 1, none⟩) ge7.out _) hb8)⟩
      | false =>
       have R : Aside0 (mayB a0 l1 l2 l3 l4 l5 = ((l1.drop (k + 1)).all (latchOk V) && gatesOk (IntKind.u32.wrap (wrap64 (a0 + (l1.length : Int)))) l2)) := ⟨MB.out.trans (by rw [E.out]; simp [latchOk, hq, e1b]; try omega)⟩
       rw [hq] at hcall
       clear hq
       go_wp2_with (first | ((with_reducible refine gate_dst (N := 7) rfl ?_); (try (refine gate_guard (by rfl) ?_; dsimp only)); refine box_event ?hg (N := 7) ?hd (cs := #[.int .u32 0, .int .u8 0]) (t := 41) ?hr ?_; (case hd => rfl); (case hg => rfl); (case hr => first | (go_simp; done) | (go_simp; rfl)); intro g7 hg_ w7 bk7 hb7; have ge7 := Aside0.mk (Nat.le_of_eq hg_.symm); clear hg_; have y0 : w7.cell? ⟨g7, 0, none⟩ = some (.int .u32 0) := (blk_cell bk7 0).trans rfl; have y1 : w7.cell? ⟨g7, 1, none⟩ = some (.int .u8 0) := (blk_cell bk7 1).trans rfl; have f7_0 := blk_frozen bk7 0; have f7_1 := blk_frozen bk7 1) | (go_at_call 144; refine (hcall.out _ (HM.out.step ((hb7.setCell (p := ⟨g7, 0, none⟩) ge7.out _).setCell (p := ⟨g7, 1, none⟩) ge7.out _))).mono ?_; rintro e w8 ⟨rfl, hb8⟩))
       go_roundg (l1.length - (k + 1))
       case measure => omega
       case rel => exact ⟨k + 1, by omega, by omega, by go_num, ⟨HM.out.step (below_step ((hb7.setCell (p := ⟨g7, 0, none⟩) ge7.out _).setCell (p := ⟨g7, 1, none⟩) ge7.out _) hb8)⟩, R⟩
    ·
     have hltz : ¬ (k : Int) < (l1.length : Int) := by omega
     have MB : Aside0 (mayB a0 l1 l2 l3 l4 l5 = gatesOk (IntKind.u32.wrap (wrap64 (a0 + (l1.length : Int)))) l2) := ⟨MB.out.trans (by rw [List.drop_eq_nil_of_le (by omega)]; simp)⟩
     have z0 : wr.cell? ⟨w.heap.size, 0, none⟩ = some (.int .i64 a0) := (blk_cell HM.out.blk 0).trans rfl
     have z1 : wr.cell? ⟨w.heap.size, 1, none⟩ = some (.slice A1 l1.length c1) := (blk_cell HM.out.blk 1).trans rfl
     have z2 : wr.cell? ⟨w.heap.size, 2, none⟩ = some (.slice A2 l2.length c2) := (blk_cell HM.out.blk 2).trans rfl
     have z3 : wr.cell? ⟨w.heap.size, 3, none⟩ = some (.slice A3 l3.length c3) := (blk_cell HM.out.blk 3).trans rfl
     have z4 : wr.cell? ⟨w.heap.size, 4, none⟩ = some (.slice A4 l4.length c4) := (blk_cell HM.out.blk 4).trans rfl
     have z5 : wr.cell? ⟨w.heap.size, 5, none⟩ = some (.slice A5 l5.length c5) := (blk_cell HM.out.blk 5).trans rfl
     go_wp2
     go_loopg [8, 73] l2.length (fun gg v8 v73 wp => ∃ (k : Nat) (o : Int), k ≤ l2.length ∧ l2.length - k ≤ gg ∧ v8 = .int .u32 o ∧ v73 = .int .i64 k ∧ Aside0 (MayAt a0 A1 c1 l1 A2 c2 l2 A3 c3 l3 A4 c4 l4 A5 c5 l5 w.heap.size w wp)
      ∧ Aside0 (mayB a0 l1 l2 l3 l4 l5 = gatesOk o (l2.drop k)))
     case atStart => exact ⟨0, _, by omega, by omega, rfl, rfl, HM, MB⟩
     case round =>
      clear z0 z1 z2 z3 z4 z5 MB HM hltz hk hg
      obtain ⟨k, o, hk, hg, rfl, rfl, HM, MB⟩ := hrel
      by_cases hlt : k < l2.length
      ·
       have hltz : (k : Int) < (l2.length : Int) := by omega
       obtain ⟨ad, e, x0, x1⟩ := at_T68 HM.out.h2 (k : Int) (by omega) hltz
       cases e
       have ek : (k : Int).toNat = k := by omega
       rw [ek] at x0 x1
       clear ek
       have E : Aside0 (gatesOk o (l2.drop k) = (!decide (IntKind.u32.wrap (o + 1) ≤ (rd_T68 l2 k).f0 / 2) && !decide ((rd_T68 l2 k).f0 < (rd_T68 l2 k).f1) && gatesOk (IntKind.u32.wrap (o + 1)) (l2.drop (k + 1)))) := ⟨by rw [List.drop_eq_getElem_cons hlt, gatesOk]; simp [rd_T68, List.getD_eq_getElem?_getD, List.getElem?_eq_getElem hlt]⟩
       generalize rd_T68 l2 (k : Int) = y at x0 x1 E
       generalize ho : IntKind.u32.wrap (o + 1) = o1 at E
       by_cases e1 : o1 ≤ y.f0 / 2
       ·
        have R : Aside0 (mayB a0 l1 l2 l3 l4 l5 = false) := ⟨MB.out.trans (by rw [E.out]; simp [e1])⟩
        have e1b : decide (o1 ≤ y.f0 / 2) = true := decide_eq_true e1
        clear e1
        go_wp2_with ((with_reducible refine gate_dst (N := 10) rfl ?_); (try (refine gate_guard (by rfl) ?_; dsimp only)); refine box_event ?hg (N := 10) ?hd (cs := #[.int .u32 0, .int .u32 0]) (t := 68) ?hr ?_; (case hd => rfl); (case hg => rfl); (case hr => first | (go_simp; done) | (go_simp; rfl)); intro g7 hg_ w7 bk7 hb7; have ge7 := Aside0.mk (Nat.le_of_eq hg_.symm); clear hg_; have y0 : w7.cell? ⟨g7, 0, none⟩ = some (.int .u32 0) := (blk_cell bk7 0).trans rfl; have y1 : w7.cell? ⟨g7, 1, none⟩ = some (.int .u32 0) := (blk_cell bk7 1).trans rfl; have f7_0 := blk_frozen bk7 0; have f7_1 := blk_frozen bk7 1)
        go_ret
        exact ⟨by rw [R.out]; rfl, below_step HM.out.below ((hb7.setCell (p := ⟨g7, 0, none⟩) ge7.out _).setCell (p := ⟨g7, 1, none⟩) ge7.out _)⟩
       ·
        have e1b : decide (o1 ≤ y.f0 / 2) = false := decide_eq_false e1
        clear e1
        by_cases e2 : y.f0 < y.f1
        ·
         have R : Aside0 (mayB a0 l1 l2 l3 l4 l5 = false) := ⟨MB.out.trans (by rw [E.out]; simp [e2])⟩
         have e2b : decide (y.f0 < y.f1) = true := decide_eq_true e2
         clear e2
         go_wp2_with ((with_reducible refine gate_dst (N := 10) rfl ?_); (try (refine gate_guard (by rfl) ?_; dsimp only)); refine box_event ?hg (N := 10) ?hd (cs := #[.int .u32 0, .int .u32 0]) (t := 68) ?hr ?_; (case hd => rfl); (case hg => rfl); (case hr => first | (go_simp; done) | (go_simp; rfl)); intro g7 hg_ w7 bk7 hb7; have ge7 := Aside0.mk (Nat.le_of_eq hg_.symm); clear hg_; have y0 : w7.cell? ⟨g7, 0, none⟩ = some (.int .u32 0) := (blk_cell bk7 0).trans rfl; have y1 : w7.cell? ⟨g7, 1, none⟩ = some (.int .u32 0) := (blk_cell bk7 1).trans rfl; have f7_0 := blk_frozen bk7 0; have f7_1 := blk_frozen bk7 1)
         go_ret
         exact ⟨by rw [R.out]; rfl, below_step HM.out.below ((hb7.setCell (p := ⟨g7, 0, none⟩) ge7.out _).setCell (p := ⟨g7, 1, none⟩) ge7.out _)⟩
        ·
         have e2b : decide (y.f0 < y.f1) = false := decide_eq_false e2
         have R : Aside0 (mayB a0 l1 l2 l3 l4 l5 = gatesOk o1 (l2.drop (k + 1))) := ⟨MB.out.trans (by rw [E.out, e1b, e2b]; simp)⟩
         clear e2
         go_wp2_with ((with_reducible refine gate_dst (N := 10) rfl ?_); (try (refine gate_guard (by rfl) ?_; dsimp only)); refine box_event ?hg (N := 10) ?hd (cs := #[.int .u32 0, .int .u32 0]) (t := 68) ?hr ?_; (case hd => rfl); (case hg => rfl); (case hr => first | (go_simp; done) | (go_simp; rfl)); intro g7 hg_ w7 bk7 hb7; have ge7 := Aside0.mk (Nat.le_of_eq hg_.symm); clear hg_; have y0 : w7.cell? ⟨g7, 0, none⟩ = some (.int .u32 0) := (blk_cell bk7 0).trans rfl; have y1 : w7.cell? ⟨g7, 1, none⟩ = some (.int .u32 0) := (blk_cell bk7 1).trans rfl; have f7_0 := blk_frozen bk7 0; have f7_1 := blk_frozen bk7 1)
         go_roundg (l2.length - (k + 1))
         case measure => omega
         case rel => exact ⟨k + 1, o1, by omega, by omega, rfl, by go_num, ⟨HM.out.step ((hb7.setCell (p := ⟨g7, 0, none⟩) ge7.out _).setCell (p := ⟨g7, 1, none⟩) ge7.out _)⟩, R⟩
      ·
       have hltz : ¬ (k : Int) < (l2.length : Int) := by omega
       have R : Aside0 (mayB a0 l1 l2 l3 l4 l5 = true) := ⟨MB.out.trans (by rw [List.drop_eq_nil_of_le (by omega)]; rfl)⟩
       go_wp2
       go_ret
       exact ⟨by rw [R.out]; rfl, HM.out.below⟩
end Go.Proofs.Yteiiodlgdbiimaa.F
end
section
namespace Go.Proofs.Yteiiodlgdbiimaa.F
open Go.RowKit Go.Shelf Go.Proofs.YteiiodlgdbiimaaW.PrintWords Go.Proofs.YteiiodlgdbiimaaW.PrintLast Go.Proofs.YteiiodlgdbiimaaW.PrintMore
set_option linter.unusedVariables false
set_option linter.unusedSimpArgs false
def u32s (l : List Int) : Bool := l.all fun x => decide (0 ≤ x) && decide (x < 4294967296)
theorem u32s_mem {l : List Int} (h : u32s l = true) {x : Int} (hx : x ∈ l) : 0 ≤ x ∧ x < 4294967296 := by
  have := List.all_eq_true.1 h x hx
  simpa using this
def okIn (l1 : List S41) (l2 : List S68) : Bool := decide (l1.length ≤ 1099511627776) && decide (l2.length ≤ 1099511627776) && u32s (l1.map (·.f0)) && u32s (l2.map (·.f0)) && u32s (l2.map (·.f1))
theorem wrap64_id {x : Int} (h0 : -9223372036854775808 ≤ x) (h1 : x < 9223372036854775808) : wrap64 x = x := by unfold wrap64; omega
theorem u32_id {x : Int} (h0 : 0 ≤ x) (h1 : x < 4294967296) : IntKind.u32.wrap x = x := by
  simp [IntKind.wrap, IntKind.bits, IntKind.signed]
  omega
theorem gatesOk_at : ∀ (l : List S68) (o : Int), 0 ≤ o → o + (l.length : Int) < 4294967296 → gatesOk o l = true → ∀ k (h : k < l.length), l[k].f0 / 2 < o + 1 + (k : Int) ∧ l[k].f1 ≤ l[k].f0
  | [], o, _, _, _, k, h => by simp at h
  | x :: l, o, h0, h1, hg, k, h => by
    simp only [gatesOk, Bool.and_eq_true, Bool.not_eq_true', decide_eq_false_iff_not] at hg
    rw [List.length_cons] at h1
    rw [u32_id (by omega) (by omega)] at hg
    obtain ⟨⟨ha, hb⟩, hc⟩ := hg
    cases k with
    | zero => simp only [List.getElem_cons_zero]; omega
    | succ k =>
      have := gatesOk_at l (o + 1) (by omega) (by omega) hc k (by simpa using h)
      simp only [List.getElem_cons_succ]
      omega
structure Valid (a0 : Int) (l1 : List S41) (l2 : List S68) (l3 l4 l5 : List Int) : Prop where
  pos : 0 ≤ a0
  le : a0 + (l1.length : Int) + (l2.length : Int) ≤ 16384
  next : ∀ k (h : k < l1.length), 0 ≤ l1[k].f0 ∧ l1[k].f0 / 2 ≤ a0 + (l1.length : Int) + (l2.length : Int)
  reset : ∀ k (h : k < l1.length), l1[k].f1 ≤ 2
  gate : ∀ k (h : k < l2.length), 0 ≤ l2[k].f1 ∧ l2[k].f1 ≤ l2[k].f0 ∧ l2[k].f0 / 2 < a0 + (l1.length : Int) + 1 + (k : Int)
  outs : l3.length ≤ 1024 ∧ ∀ x ∈ l3, wrap64 (x / 2) ≤ a0 + (l1.length : Int) + (l2.length : Int)
  bads : l4.length ≤ 1024 ∧ ∀ x ∈ l4, wrap64 (x / 2) ≤ a0 + (l1.length : Int) + (l2.length : Int)
  cons : l5.length ≤ 1024 ∧ ∀ x ∈ l5, wrap64 (x / 2) ≤ a0 + (l1.length : Int) + (l2.length : Int)
theorem varsW_id {a0 : Int} {n m : Nat} (h0 : -9223372036854775808 ≤ a0) (h1 : a0 < 4611686018427387904) (hn : n ≤ 1099511627776) (hm : m ≤ 1099511627776) : varsW a0 n m = a0 + (n : Int) + (m : Int) := by
  unfold varsW
  rw [wrap64_id (x := a0 + (n : Int)) (by omega) (by omega), wrap64_id (by omega) (by omega)]
theorem listOk_iff {V : Int} {l : List Int} : listOk V l = true ↔ l.length ≤ 1024 ∧ ∀ x ∈ l, wrap64 (x / 2) ≤ V := by
  unfold listOk beyW
  simp only [Bool.and_eq_true, Bool.not_eq_true', decide_eq_false_iff_not, List.any_eq_false, decide_eq_true_eq]
  constructor
  · rintro ⟨h, k⟩
    exact ⟨by omega, fun x hx => by have := k x hx; omega⟩
  · rintro ⟨h, k⟩
    exact ⟨by omega, fun x hx => by have := k x hx; omega⟩
theorem valid_of_may {a0 : Int} {l1 : List S41} {l2 : List S68} {l3 l4 l5 : List Int} (hk : okIn l1 l2 = true) (h : mayB a0 l1 l2 l3 l4 l5 = true) : Valid a0 l1 l2 l3 l4 l5 ∧ varsW a0 l1.length l2.length = a0 + (l1.length : Int) + (l2.length : Int) := by
  simp only [okIn, Bool.and_eq_true, decide_eq_true_eq] at hk
  obtain ⟨⟨⟨⟨hn, hm⟩, h10⟩, h20⟩, h21⟩ := hk
  simp only [mayB, Bool.and_eq_true, Bool.not_eq_true', decide_eq_false_iff_not] at h
  obtain ⟨⟨⟨⟨⟨⟨⟨ha, hb⟩, hc⟩, hd⟩, he⟩, hf⟩, hg⟩, hi⟩ := h
  have hV := varsW_id (a0 := a0) (n := l1.length) (m := l2.length) (by omega) (by omega) hn hm
  rw [hV] at hc hd he hf hg
  rw [wrap64_id (by omega) (by omega), u32_id (by omega) (by omega)] at hi
  refine ⟨⟨by omega, by omega, fun k h => ?_, fun k h => ?_, fun k h => ?_, listOk_iff.1 hd, listOk_iff.1 he, listOk_iff.1 hf⟩, hV⟩
  · have h1 := List.all_eq_true.1 hg l1[k] (List.getElem_mem h)
    have h2 := u32s_mem h10 (List.mem_map_of_mem (List.getElem_mem h))
    simp only [latchOk, beyW, Bool.and_eq_true, Bool.not_eq_true', decide_eq_false_iff_not] at h1
    rw [wrap64_id (by omega) (by omega)] at h1
    omega
  · have h1 := List.all_eq_true.1 hg l1[k] (List.getElem_mem h)
    simp only [latchOk, beyW, Bool.and_eq_true, Bool.not_eq_true', decide_eq_false_iff_not] at h1
    omega
  · have h1 := gatesOk_at l2 _ (by omega) (by omega) hi k h
    have h2 := u32s_mem h21 (List.mem_map_of_mem (List.getElem_mem h))
    exact ⟨h2.1, h1.2, by omega⟩
end Go.Proofs.Yteiiodlgdbiimaa.F
end
section
namespace Go.Proofs.Yteiiodlgdbiimaa.F
open Go.RowKit Go.Proofs.YteiiodlgdbiimaaW.PrintWords Go.Proofs.YteiiodlgdbiimaaW.PrintLast Go.Proofs.YteiiodlgdbiimaaW.PrintMore
attribute [local go_sem] max2_int min2_int max_two min_two max_three min_three max_four min_four
set_option linter.unusedVariables false
set_option linter.unusedSimpArgs false
def norm_Vars.f (a0_0 : Int) (l0_1 : List (S41)) (l0_2 : List (S68)) (l0_3 : List Int) (l0_4 : List Int) (l0_5 : List Int) : Option (Int) := (norm_May.f a0_0 l0_1 l0_2 l0_3 l0_4 l0_5).bind fun t105 => (if t105 = true then ((norm_vars.f a0_0 l0_1 l0_2 l0_3 l0_4 l0_5).bind fun t106 => (some t106)) else (some 0))
set_option maxHeartbeats 8000000 in
set_option maxRecDepth 100000 in
theorem norm_Vars.calls (a0_0 : Int) (A0_1 : Option Addr) (c0_1 : Nat) (l0_1 : List (S41)) (A0_2 : Option Addr) (c0_2 : Nat) (l0_2 : List (S68)) (A0_3 : Option Addr) (c0_3 : Nat) (l0_3 : List Int) (A0_4 : Option Addr) (c0_4 : Nat) (l0_4 : List Int) (A0_5 : Option Addr) (c0_5 : Nat) (l0_5 : List Int) (r : Int) (w : World) (hr0_1 : Kd.C k41 w A0_1 l0_1.length l0_1) (hc0_1 : l0_1.length ≤ c0_1) (hr0_2 : Kd.C k68 w A0_2 l0_2.length l0_2) (hc0_2 : l0_2.length ≤ c0_2) (hr0_3 : Kd.C (Kd.int .u32) w A0_3 l0_3.length l0_3) (hc0_3 : l0_3.length ≤ c0_3) (hr0_4 : Kd.C (Kd.int .u32) w A0_4 l0_4.length l0_4) (hc0_4 : l0_4.length ≤ c0_4) (hr0_5 : Kd.C (Kd.int .u32) w A0_5 l0_5.length l0_5) (hc0_5 : l0_5.length ≤ c0_5) (h : norm_Vars.f a0_0 l0_1 l0_2 l0_3 l0_4 l0_5 = some r) :
  Calls Try.prog 101 #[.agg #[.int .i64 a0_0, .slice A0_1 l0_1.length c0_1, .slice A0_2 l0_2.length c0_2, .slice A0_3 l0_3.length c0_3, .slice A0_4 l0_4.length c0_4, .slice A0_5 l0_5.length c0_5]] w fun e w' => e = .returned (.int .i64 r) ∧ Below w.heap.size w w' := by
 have hu26 := Try.underlying26
 have HR0_1 := Aside0.mk hr0_1
 have HC0_1 := Aside0.mk hc0_1
 clear hr0_1 hc0_1
 have HR0_2 := Aside0.mk hr0_2
 have HC0_2 := Aside0.mk hc0_2
 clear hr0_2 hc0_2
 have HR0_3 := Aside0.mk hr0_3
 have HC0_3 := Aside0.mk hc0_3
 clear hr0_3 hc0_3
 have HR0_4 := Aside0.mk hr0_4
 have HC0_4 := Aside0.mk hc0_4
 clear hr0_4 hc0_4
 have HR0_5 := Aside0.mk hr0_5
 have HC0_5 := Aside0.mk hc0_5
 clear hr0_5 hc0_5
 have HB := Aside0.mk (Below.refl w.heap.size w)
 have H : ((norm_May.f a0_0 l0_1 l0_2 l0_3 l0_4 l0_5).bind fun t105 => (if t105 = true then ((norm_vars.f a0_0 l0_1 l0_2 l0_3 l0_4 l0_5).bind fun t106 => (some t106)) else (some 0))) = some r := h
 clear h
 replace H := Option.bind_eq_some_iff.mp H
 obtain ⟨t105, A20, H⟩ := H
 replace H : (if t105 = true then ((norm_vars.f a0_0 l0_1 l0_2 l0_3 l0_4 l0_5).bind fun t106 => (some t106)) else (some 0)) = some r := H
 have A2 := Aside0.mk A20
 clear A20
 by_cases c3 : t105 = true
 ·
  subst c3
  have H1 : ((norm_vars.f a0_0 l0_1 l0_2 l0_3 l0_4 l0_5).bind fun t106 => (some t106)) = some r := by rw [if_pos rfl] at H; exact H
  clear H
  have H := H1
  clear H1
  replace H := Option.bind_eq_some_iff.mp H
  obtain ⟨t106, A40, H⟩ := H
  replace H : (some t106) = some r := H
  have A4 := Aside0.mk A40
  clear A40
  obtain rfl := Option.some.inj H
  go_enter Try.func101, Try.ntmps101
  go_wp2_with (first | ((with_reducible refine gate_dst (N := 1) rfl ?_); refine box_event ?hg (N := 1) ?hd (cs := #[.int .i64 a0_0, .slice A0_1 l0_1.length c0_1, .slice A0_2 l0_2.length c0_2, .slice A0_3 l0_3.length c0_3, .slice A0_4 l0_4.length c0_4, .slice A0_5 l0_5.length c0_5]) (t := 26) ?hr ?_; (case hd => rfl); (case hg => rfl); (case hr => first | (go_simp; done) | (go_simp; rfl)); intro gb104 hg w5 hbox hb; have n0_ := Aside0.mk (below_step (by repeat (first | (with_reducible first | exact HB.out | apply below_alloc | apply pw_below_drewN | apply below_drew1) | exact HB.out)) hb); have n1_ := Aside0.mk (hbox); have n2_ := Aside0.mk ((by rw [hg]; exact (below_size (by repeat (first | (with_reducible first | exact HB.out | apply below_alloc | apply pw_below_drewN | apply below_drew1) | exact HB.out))) : w.heap.size ≤ gb104)); have n3_ := Aside0.mk ((by rw [hg]; exact (below_size (by repeat (first | (with_reducible first | exact HB.out | apply below_alloc | apply pw_below_drewN | apply below_drew1) | exact HB.out))) : w.heap.size ≤ gb104)); clear HB; have HB := n0_; have BK104 := n1_; have GW104 := n2_; have GE104 := n3_; clear n0_ n1_ n2_ n3_; clear hb hbox hg; have hcz6_0 : w5.cell? ⟨gb104, 0, none⟩ = some (.int .i64 a0_0) := (blk_cell BK104.out 0).trans rfl; have hcz6_1 : w5.cell? ⟨gb104, 1, none⟩ = some (.slice A0_1 l0_1.length c0_1) := (blk_cell BK104.out 1).trans rfl; have hcz6_2 : w5.cell? ⟨gb104, 2, none⟩ = some (.slice A0_2 l0_2.length c0_2) := (blk_cell BK104.out 2).trans rfl; have hcz6_3 : w5.cell? ⟨gb104, 3, none⟩ = some (.slice A0_3 l0_3.length c0_3) := (blk_cell BK104.out 3).trans rfl; have hcz6_4 : w5.cell? ⟨gb104, 4, none⟩ = some (.slice A0_4 l0_4.length c0_4) := (blk_cell BK104.out 4).trans rfl; have hcz6_5 : w5.cell? ⟨gb104, 5, none⟩ = some (.slice A0_5 l0_5.length c0_5) := (blk_cell BK104.out 5).trans rfl; have hfz6_0 := blk_frozen BK104.out 0; have hfz6_1 := blk_frozen BK104.out 1; have hfz6_2 := blk_frozen BK104.out 2; have hfz6_3 := blk_frozen BK104.out 3; have hfz6_4 := blk_frozen BK104.out 4; have hfz6_5 := blk_frozen BK104.out 5) | ((with_reducible refine gate_callee (f := 92) rfl ?_); refine goesL_ (some 4) rfl rfl Try.func92 (by kernel_rfl) rfl #[.agg #[.int .i64 a0_0, .slice A0_1 l0_1.length c0_1, .slice A0_2 l0_2.length c0_2, .slice A0_3 l0_3.length c0_3, .slice A0_4 l0_4.length c0_4, .slice A0_5 l0_5.length c0_5]] rfl (by (try simp only [List.map_toArray, List.map_cons, List.map_nil]); first | done | rfl | (simp only [List.length_drop, List.length_take]; rfl)) ?_; (with_reducible refine (norm_May.calls a0_0 _ _ l0_1 _ _ l0_2 _ _ l0_3 _ _ l0_4 _ _ l0_5 true _ ?side1 ?side2 ?side3 ?side4 ?side5 ?side6 ?side7 ?side8 ?side9 ?side10 A2.out).mono ?_); (case side1 => repeat (first | exact (Kd.C_below HR0_1.out HB.out) | (with_reducible refine Kd.C_alloc ?_ _) | (with_reducible refine Kd.C_drewN ?_ _) | (with_reducible refine Kd.C_drew ?_))); (case side2 => exact HC0_1.out); (case side3 => repeat (first | exact (Kd.C_below HR0_2.out HB.out) | (with_reducible refine Kd.C_alloc ?_ _) | (with_reducible refine Kd.C_drewN ?_ _) | (with_reducible refine Kd.C_drew ?_))); (case side4 => exact HC0_2.out); (case side5 => repeat (first | exact (Kd.C_below HR0_3.out HB.out) | (with_reducible refine Kd.C_alloc ?_ _) | (with_reducible refine Kd.C_drewN ?_ _) | (with_reducible refine Kd.C_drew ?_))); (case side6 => exact HC0_3.out); (case side7 => repeat (first | exact (Kd.C_below HR0_4.out HB.out) | (with_reducible refine Kd.C_alloc ?_ _) | (with_reducible refine Kd.C_drewN ?_ _) | (with_reducible refine Kd.C_drew ?_))); (case side8 => exact HC0_4.out); (case side9 => repeat (first | exact (Kd.C_below HR0_5.out HB.out) | (with_reducible refine Kd.C_alloc ?_ _) | (with_reducible refine Kd.C_drewN ?_ _) | (with_reducible refine Kd.C_drew ?_))); (case side10 => exact HC0_5.out); rintro e w7 ⟨rfl, hb⟩; refine ⟨_, rfl, ?_⟩; have n0_ := Aside0.mk (blk_below (g := gb104) (o := .cells #[.int .i64 a0_0, .slice A0_1 l0_1.length c0_1, .slice A0_2 l0_2.length c0_2, .slice A0_3 l0_3.length c0_3, .slice A0_4 l0_4.length c0_4, .slice A0_5 l0_5.length c0_5] 26 (0, 0)) (by (with_reducible repeat (first | refine blk_drewN ?_ _ | refine blk_drew ?_ | refine blk_alloc ?_ _)); exact BK104.out) hb); have n1_ := Aside0.mk (below_step (by repeat (first | (with_reducible first | exact HB.out | apply below_alloc | apply pw_below_drewN | apply below_drew1 | refine below_set ?_ GE104.out) | exact HB.out)) hb); clear BK104; clear HB; have BK104 := n0_; have HB := n1_; clear n0_ n1_; (try clear hb); (try clear hb2); (try clear hk); (try clear hi); have hcz8_0 : w7.cell? ⟨gb104, 0, none⟩ = some (.int .i64 a0_0) := (blk_cell BK104.out 0).trans rfl; have hcz8_1 : w7.cell? ⟨gb104, 1, none⟩ = some (.slice A0_1 l0_1.length c0_1) := (blk_cell BK104.out 1).trans rfl; have hcz8_2 : w7.cell? ⟨gb104, 2, none⟩ = some (.slice A0_2 l0_2.length c0_2) := (blk_cell BK104.out 2).trans rfl; have hcz8_3 : w7.cell? ⟨gb104, 3, none⟩ = some (.slice A0_3 l0_3.length c0_3) := (blk_cell BK104.out 3).trans rfl; have hcz8_4 : w7.cell? ⟨gb104, 4, none⟩ = some (.slice A0_4 l0_4.length c0_4) := (blk_cell BK104.out 4).trans rfl; have hcz8_5 : w7.cell? ⟨gb104, 5, none⟩ = some (.slice A0_5 l0_5.length c0_5) := (blk_cell BK104.out 5).trans rfl; have hfz8_0 := blk_frozen BK104.out 0; have hfz8_1 := blk_frozen BK104.out 1; have hfz8_2 := blk_frozen BK104.out 2; have hfz8_3 := blk_frozen BK104.out 3; have hfz8_4 := blk_frozen BK104.out 4; have hfz8_5 := blk_frozen BK104.out 5) | ((with_reducible refine gate_callee (f := 143) rfl ?_); refine goesL_ (some 7) rfl rfl Try.func143 (by kernel_rfl) rfl #[.agg #[.int .i64 a0_0, .slice A0_1 l0_1.length c0_1, .slice A0_2 l0_2.length c0_2, .slice A0_3 l0_3.length c0_3, .slice A0_4 l0_4.length c0_4, .slice A0_5 l0_5.length c0_5]] rfl (by (try simp only [List.map_toArray, List.map_cons, List.map_nil]); first | done | rfl | (simp only [List.length_drop, List.length_take]; rfl)) ?_; (with_reducible refine (norm_vars.calls a0_0 _ _ l0_1 _ _ l0_2 _ _ l0_3 _ _ l0_4 _ _ l0_5 t106 _ ?side1 ?side2 ?side3 ?side4 ?side5 ?side6 ?side7 ?side8 ?side9 ?side10 A4.out).mono ?_); (case side1 => repeat (first | exact (Kd.C_below HR0_1.out HB.out) | (with_reducible refine Kd.C_alloc ?_ _) | (with_reducible refine Kd.C_drewN ?_ _) | (with_reducible refine Kd.C_drew ?_))); (case side2 => exact HC0_1.out); (case side3 => repeat (first | exact (Kd.C_below HR0_2.out HB.out) | (with_reducible refine Kd.C_alloc ?_ _) | (with_reducible refine Kd.C_drewN ?_ _) | (with_reducible refine Kd.C_drew ?_))); (case side4 => exact HC0_2.out); (case side5 => repeat (first | exact (Kd.C_below HR0_3.out HB.out) | (with_reducible refine Kd.C_alloc ?_ _) | (with_reducible refine Kd.C_drewN ?_ _) | (with_reducible refine Kd.C_drew ?_))); (case side6 => exact HC0_3.out); (case side7 => repeat (first | exact (Kd.C_below HR0_4.out HB.out) | (with_reducible refine Kd.C_alloc ?_ _) | (with_reducible refine Kd.C_drewN ?_ _) | (with_reducible refine Kd.C_drew ?_))); (case side8 => exact HC0_4.out); (case side9 => repeat (first | exact (Kd.C_below HR0_5.out HB.out) | (with_reducible refine Kd.C_alloc ?_ _) | (with_reducible refine Kd.C_drewN ?_ _) | (with_reducible refine Kd.C_drew ?_))); (case side10 => exact HC0_5.out); rintro e w9 ⟨rfl, hb⟩; refine ⟨_, rfl, ?_⟩; have n0_ := Aside0.mk (blk_below (g := gb104) (o := .cells #[.int .i64 a0_0, .slice A0_1 l0_1.length c0_1, .slice A0_2 l0_2.length c0_2, .slice A0_3 l0_3.length c0_3, .slice A0_4 l0_4.length c0_4, .slice A0_5 l0_5.length c0_5] 26 (0, 0)) (by (with_reducible repeat (first | refine blk_drewN ?_ _ | refine blk_drew ?_ | refine blk_alloc ?_ _)); exact BK104.out) hb); have n1_ := Aside0.mk (below_step (by repeat (first | (with_reducible first | exact HB.out | apply below_alloc | apply pw_below_drewN | apply below_drew1 | refine below_set ?_ GE104.out) | exact HB.out)) hb); clear BK104; clear HB; have BK104 := n0_; have HB := n1_; clear n0_ n1_; (try clear hb); (try clear hb2); (try clear hk); (try clear hi)))
  go_ret
  exact ⟨by first | rfl | (simp [errW_none, errW_some] <;> rfl) | (simp [*, errW_none, errW_some] <;> rfl), by repeat (first | (with_reducible first | exact HB.out | apply below_alloc | apply pw_below_drewN | apply below_drew1 | refine below_set ?_ GE104.out) | exact HB.out)⟩
 ·
  replace c3 := Bool.eq_false_iff.mpr c3
  subst c3
  have H1 : (some 0) = some r := by rw [if_neg (show ¬ (false = true) by decide)] at H; exact H
  clear H
  have H := H1
  clear H1
  obtain rfl := Option.some.inj H
  go_enter Try.func101, Try.ntmps101
  go_wp2_with (first | ((with_reducible refine gate_dst (N := 1) rfl ?_); refine box_event ?hg (N := 1) ?hd (cs := #[.int .i64 a0_0, .slice A0_1 l0_1.length c0_1, .slice A0_2 l0_2.length c0_2, .slice A0_3 l0_3.length c0_3, .slice A0_4 l0_4.length c0_4, .slice A0_5 l0_5.length c0_5]) (t := 26) ?hr ?_; (case hd => rfl); (case hg => rfl); (case hr => first | (go_simp; done) | (go_simp; rfl)); intro gb104 hg w10 hbox hb; have n0_ := Aside0.mk (below_step (by repeat (first | (with_reducible first | exact HB.out | apply below_alloc | apply pw_below_drewN | apply below_drew1) | exact HB.out)) hb); have n1_ := Aside0.mk (hbox); have n2_ := Aside0.mk ((by rw [hg]; exact (below_size (by repeat (first | (with_reducible first | exact HB.out | apply below_alloc | apply pw_below_drewN | apply below_drew1) | exact HB.out))) : w.heap.size ≤ gb104)); have n3_ := Aside0.mk ((by rw [hg]; exact (below_size (by repeat (first | (with_reducible first | exact HB.out | apply below_alloc | apply pw_below_drewN | apply below_drew1) | exact HB.out))) : w.heap.size ≤ gb104)); clear HB; have HB := n0_; have BK104 := n1_; have GW104 := n2_; have GE104 := n3_; clear n0_ n1_ n2_ n3_; clear hb hbox hg; have hcz11_0 : w10.cell? ⟨gb104, 0, none⟩ = some (.int .i64 a0_0) := (blk_cell BK104.out 0).trans rfl; have hcz11_1 : w10.cell? ⟨gb104, 1, none⟩ = some (.slice A0_1 l0_1.length c0_1) := (blk_cell BK104.out 1).trans rfl; have hcz11_2 : w10.cell? ⟨gb104, 2, none⟩ = some (.slice A0_2 l0_2.length c0_2) := (blk_cell BK104.out 2).trans rfl; have hcz11_3 : w10.cell? ⟨gb104, 3, none⟩ = some (.slice A0_3 l0_3.length c0_3) := (blk_cell BK104.out 3).trans rfl; have hcz11_4 : w10.cell? ⟨gb104, 4, none⟩ = some (.slice A0_4 l0_4.length c0_4) := (blk_cell BK104.out 4).trans rfl; have hcz11_5 : w10.cell? ⟨gb104, 5, none⟩ = some (.slice A0_5 l0_5.length c0_5) := (blk_cell BK104.out 5).trans rfl; have hfz11_0 := blk_frozen BK104.out 0; have hfz11_1 := blk_frozen BK104.out 1; have hfz11_2 := blk_frozen BK104.out 2; have hfz11_3 := blk_frozen BK104.out 3; have hfz11_4 := blk_frozen BK104.out 4; have hfz11_5 := blk_frozen BK104.out 5) | ((with_reducible refine gate_callee (f := 92) rfl ?_); refine goesL_ (some 4) rfl rfl Try.func92 (by kernel_rfl) rfl #[.agg #[.int .i64 a0_0, .slice A0_1 l0_1.length c0_1, .slice A0_2 l0_2.length c0_2, .slice A0_3 l0_3.length c0_3, .slice A0_4 l0_4.length c0_4, .slice A0_5 l0_5.length c0_5]] rfl (by (try simp only [List.map_toArray, List.map_cons, List.map_nil]); first | done | rfl | (simp only [List.length_drop, List.length_take]; rfl)) ?_; (with_reducible refine (norm_May.calls a0_0 _ _ l0_1 _ _ l0_2 _ _ l0_3 _ _ l0_4 _ _ l0_5 false _ ?side1 ?side2 ?side3 ?side4 ?side5 ?side6 ?side7 ?side8 ?side9 ?side10 A2.out).mono ?_); (case side1 => repeat (first | exact (Kd.C_below HR0_1.out HB.out) | (with_reducible refine Kd.C_alloc ?_ _) | (with_reducible refine Kd.C_drewN ?_ _) | (with_reducible refine Kd.C_drew ?_))); (case side2 => exact HC0_1.out); (case side3 => repeat (first | exact (Kd.C_below HR0_2.out HB.out) | (with_reducible refine Kd.C_alloc ?_ _) | (with_reducible refine Kd.C_drewN ?_ _) | (with_reducible refine Kd.C_drew ?_))); (case side4 => exact HC0_2.out); (case side5 => repeat (first | exact (Kd.C_below HR0_3.out HB.out) | (with_reducible refine Kd.C_alloc ?_ _) | (with_reducible refine Kd.C_drewN ?_ _) | (with_reducible refine Kd.C_drew ?_))); (case side6 => exact HC0_3.out); (case side7 => repeat (first | exact (Kd.C_below HR0_4.out HB.out) | (with_reducible refine Kd.C_alloc ?_ _) | (with_reducible refine Kd.C_drewN ?_ _) | (with_reducible refine Kd.C_drew ?_))); (case side8 => exact HC0_4.out); (case side9 => repeat (first | exact (Kd.C_below HR0_5.out HB.out) | (with_reducible refine Kd.C_alloc ?_ _) | (with_reducible refine Kd.C_drewN ?_ _) | (with_reducible refine Kd.C_drew ?_))); (case side10 => exact HC0_5.out); rintro e w12 ⟨rfl, hb⟩; refine ⟨_, rfl, ?_⟩; have n0_ := Aside0.mk (blk_below (g := gb104) (o := .cells #[.int .i64 a0_0, .slice A0_1 l0_1.length c0_1, .slice A0_2 l0_2.length c0_2, .slice A0_3 l0_3.length c0_3, .slice A0_4 l0_4.length c0_4, .slice A0_5 l0_5.length c0_5] 26 (0, 0)) (by (with_reducible repeat (first | refine blk_drewN ?_ _ | refine blk_drew ?_ | refine blk_alloc ?_ _)); exact BK104.out) hb); have n1_ := Aside0.mk (below_step (by repeat (first | (with_reducible first | exact HB.out | apply below_alloc | apply pw_below_drewN | apply below_drew1 | refine below_set ?_ GE104.out) | exact HB.out)) hb); clear BK104; clear HB; have BK104 := n0_; have HB := n1_; clear n0_ n1_; (try clear hb); (try clear hb2); (try clear hk); (try clear hi)))
  go_ret
  exact ⟨by first | rfl | (simp [errW_none, errW_some] <;> rfl) | (simp [*, errW_none, errW_some] <;> rfl), by repeat (first | (with_reducible first | exact HB.out | apply below_alloc | apply pw_below_drewN | apply below_drew1 | refine below_set ?_ GE104.out) | exact HB.out)⟩
end Go.Proofs.Yteiiodlgdbiimaa.F
end
section
namespace Go.Proofs.Yteiiodlgdbiimaa.F
open Go.RowKit Go.Shelf Go.Proofs.YteiiodlgdbiimaaW.PrintWords Go.Proofs.YteiiodlgdbiimaaW.PrintLast Go.Proofs.YteiiodlgdbiimaaW.PrintMore
set_option linter.unusedVariables false
set_option linter.unusedSimpArgs false
section
variable {P : Program} {ops : Array Oper} {o : Oper} {a : Act} {Q : Exit → Act → World → Prop} {Kc : Act → World → Prop}
theorem skip_step {W w1 : World} (hw : Region.wanted o (yielded ops a.tmps) = true) (hN : o.dst = none) (hrun : (execOp a.eval o).run P W = .ok .skip w1) (h : Kc a w1) : if Region.wanted o (yielded ops a.tmps) = true then Oper.wp P o a W Kc Q else Kc (a.put none undef) W := by
  rw [if_pos hw]
  unfold Oper.wp
  rw [hrun]
  show Kc (a.put o.dst undef) w1
  rw [hN]
  exact h
end
section
variable {P : Program} {ops : Array Oper} {rest : List Oper} {o : Oper} {a : Act} {Q : Exit → Act → World → Prop} {m : Nat}
end
section
variable {a0 : Int} {A1 : Option Addr} {c1 : Nat} {l1 : List S41} {A2 : Option Addr} {c2 : Nat} {l2 : List S68} {A3 : Option Addr} {c3 : Nat} {l3 : List Int} {A4 : Option Addr} {c4 : Nat} {l4 : List Int} {A5 : Option Addr} {c5 : Nat} {l5 : List Int} {w0 : World} {b8 b9 g n : Nat} {v9 : Value} {rows : Nat → List Bool} {W W' : World}
end
end Go.Proofs.Yteiiodlgdbiimaa.F
end
section
namespace Go.Proofs.Yteiiodlgdbiimaa.F
open Go.RowKit Go.Shelf Go.ChangeMaps Go.MapKept Go.Proofs.YteiiodlgdbiimaaW.PrintWords Go.Proofs.YteiiodlgdbiimaaW.PrintLast Go.Proofs.YteiiodlgdbiimaaW.PrintMore
set_option linter.unusedVariables false
set_option linter.unusedSimpArgs false
theorem laid68 : laidOutB Try.prog = true := by kernel_rfl
theorem klaw68 : WideMaps.KeyLaw Try.prog 68 := deep_law_gate laid68 (of_decide_eq_true (by kernel_rfl)) (of_decide_eq_true (by kernel_rfl)) (by kernel_rfl) (by kernel_rfl)
def keyG (a b : Int) : Value := .agg #[.int .u32 a, .int .u32 b]
theorem wf_u32_mk {x : Int} (h : 0 ≤ x ∧ x < 4294967296) : (Lit.int .u32 x).wf = true := by
  simp only [Lit.wf, Bool.and_eq_true, decide_eq_true_eq]
  rw [show IntKind.u32.min = 0 from by decide, show IntKind.u32.max = 4294967295 from by decide]
  omega
theorem key_isG {a b : Int} (ha : 0 ≤ a ∧ a < 4294967296) (hb : 0 ≤ b ∧ b < 4294967296) : ∃ l, keyOf Try.prog 68 (keyG a b) = some l := by
  obtain ⟨m, hm⟩ : ∃ m, Try.prog.types.size = m + 1 := ⟨Try.prog.types.size - 1, by have : 0 < Try.prog.types.size := of_decide_eq_true (by kernel_rfl); omega⟩
  have e1 : Try.prog.keyType 68 = true := by kernel_rfl
  have e2 : (keyG a b).formed Try.prog 68 = true := by kernel_rfl
  have e3 : ∃ ls, Try.prog.keyLits (Try.prog.types.size + 1) 68 (keyG a b).cells.toList = some ls := by
    rw [hm]
    have c68 : Try.prog.cellsOf 68 = 2 := by kernel_rfl
    have c39 : Try.prog.cellsOf 39 = 1 := by kernel_rfl
    simp [Program.keyLits, keyG, Value.cells, Try.underlying68, Try.underlying39, c68, c39, wf_u32_mk ha, wf_u32_mk hb]
  obtain ⟨ls, e3⟩ := e3
  unfold keyOf
  rw [Try.underlying68]
  simp only [e1, e2, e3, Bool.and_self, if_true, Option.map_some]
  exact ⟨_, rfl⟩
def Gate32 (g : S68) : Prop := (0 ≤ g.f0 ∧ g.f0 < 4294967296) ∧ (0 ≤ g.f1 ∧ g.f1 < 4294967296)
def entG (first : Int) (gs : List S68) : List MapEntry := gs.zipIdx.map fun p => { key := keyG p.1.f0 p.1.f1, val := .int .u32 (2 * (first + (p.2 : Int))), born := p.2 }
theorem entG_snoc (first : Int) (gs : List S68) (g : S68) : entG first (gs ++ [g]) = entG first gs ++ [{ key := keyG g.f0 g.f1, val := .int .u32 (2 * (first + (gs.length : Int))), born := gs.length }] := by
  simp [entG, List.zipIdx_append]
theorem entG_len (first : Int) (gs : List S68) : (entG first gs).length = gs.length := by simp [entG]
theorem entG_at {first : Int} {gs : List S68} {j : Nat} {e : MapEntry} (h : (entG first gs)[j]? = some e) : ∃ g, gs[j]? = some g ∧ e = { key := keyG g.f0 g.f1, val := .int .u32 (2 * (first + (j : Int))), born := j } := by
  simp only [entG, List.getElem?_map, List.getElem?_zipIdx] at h
  cases hg : gs[j]? with
  | none => rw [hg] at h; cases h
  | some g =>
    rw [hg] at h
    simp only [Option.map_some, Nat.zero_add, Option.some.injEq] at h
    exact ⟨g, rfl, h.symm⟩
theorem entG_mem {first : Int} {gs : List S68} {g : S68} {j : Nat} (h : gs[j]? = some g) : ({ key := keyG g.f0 g.f1, val := .int .u32 (2 * (first + (j : Int))), born := j } : MapEntry) ∈ entG first gs := by
  refine List.mem_of_getElem? (i := j) ?_
  simp [entG, List.getElem?_zipIdx, h]
def idxG : List S68 → Int → Int → Option Nat
  | [], _, _ => none
  | g :: r, a, b => if g.f0 = a ∧ g.f1 = b then some 0 else (idxG r a b).map (· + 1)
theorem idxG_none {a b : Int} : ∀ gs : List S68, idxG gs a b = none → ∀ g ∈ gs, ¬ (g.f0 = a ∧ g.f1 = b)
  | [], _, g, hg => by cases hg
  | x :: r, h, g, hg => by
    unfold idxG at h
    split at h
    · cases h
    · rename_i hc
      rcases List.mem_cons.1 hg with rfl | hg
      · exact hc
      · exact idxG_none r (by simpa using h) g hg
theorem idxG_some {a b : Int} : ∀ (gs : List S68) (j : Nat), idxG gs a b = some j → (∃ g, gs[j]? = some g ∧ g.f0 = a ∧ g.f1 = b) ∧ ∀ i, i < j → ∀ g, gs[i]? = some g → ¬ (g.f0 = a ∧ g.f1 = b)
  | [], j, h => by cases h
  | x :: r, j, h => by
    unfold idxG at h
    split at h
    · rename_i hc
      cases h
      exact ⟨⟨x, rfl, hc⟩, fun i hi => by omega⟩
    · rename_i hc
      obtain ⟨k, hk, rfl⟩ := Option.map_eq_some_iff.1 h
      obtain ⟨h1, h2⟩ := idxG_some r k hk
      refine ⟨by simpa using h1, fun i hi g hg => ?_⟩
      cases i with
      | zero =>
        cases hg
        exact hc
      | succ i => exact h2 i (by omega) g (by simpa using hg)
def Apart68 (gs : List S68) : Prop := ∀ (i j : Nat) (g h : S68), gs[i]? = some g → gs[j]? = some h → g.f0 = h.f0 → g.f1 = h.f1 → i = j
theorem zero39 (w : World) : (zeroValue 39).run Try.prog w = .ok (.int .u32 0) w := by kernel_rfl
section
variable {first : Int} {gs : List S68} {w : World} {mb : Nat} {a b : Int}
theorem keys68 (hg : ∀ g ∈ gs, Gate32 g) : ∀ e ∈ entG first gs, ∃ l, keyOf Try.prog 68 e.key = some l := by
  intro e he
  obtain ⟨j, hj⟩ := List.getElem?_of_mem he
  obtain ⟨g, h1, rfl⟩ := entG_at hj
  have := hg g (List.mem_of_getElem? h1)
  exact key_isG this.1 this.2
theorem keyG_inj {a b c d : Int} (h : keyG a b = keyG c d) : a = c ∧ b = d := by
  unfold keyG at h
  injection h with h
  have h1 : [Value.int .u32 a, Value.int .u32 b] = [Value.int .u32 c, Value.int .u32 d] := congrArg Array.toList h
  injection h1 with e1 h2
  injection h2 with e2 _
  injection e1 with _ e1
  injection e2 with _ e2
  exact ⟨e1, e2⟩
theorem find_none (hg : ∀ g ∈ gs, Gate32 g) (ha : 0 ≤ a ∧ a < 4294967296) (hb : 0 ≤ b ∧ b < 4294967296) (hn : ∀ g ∈ gs, ¬ (g.f0 = a ∧ g.f1 = b)) (w : World) : (Instr.findKey 68 (keyG a b) (entG first gs)).run Try.prog w = .ok none w := by
  obtain ⟨l, hl⟩ := key_isG ha hb
  rcases klaw68.find w hl (entG first gs) (keys68 hg) with ⟨h1, _⟩ | ⟨j, e, _, h2, h3⟩
  · exact h1
  · obtain ⟨g, hg1, rfl⟩ := entG_at h2
    obtain ⟨e1, e2⟩ := keyG_inj h3
    exact absurd ⟨e1, e2⟩ (hn g (List.mem_of_getElem? hg1))
theorem find_some (hg : ∀ g ∈ gs, Gate32 g) (hd : Apart68 gs) (ha : 0 ≤ a ∧ a < 4294967296) (hb : 0 ≤ b ∧ b < 4294967296) {j : Nat} {g : S68} (hj : gs[j]? = some g) (h0 : g.f0 = a) (h1 : g.f1 = b) (w : World) :
    (Instr.findKey 68 (keyG a b) (entG first gs)).run Try.prog w = .ok (some (j, .int .u32 (2 * (first + (j : Int))))) w := by
  obtain ⟨l, hl⟩ := key_isG ha hb
  rcases klaw68.find w hl (entG first gs) (keys68 hg) with ⟨_, h2⟩ | ⟨i, e, hr, h2, h3⟩
  · exact absurd (show keyG g.f0 g.f1 = keyG a b by rw [h0, h1]) (h2 _ (entG_mem hj))
  · obtain ⟨g', hg1, rfl⟩ := entG_at h2
    obtain ⟨e1, e2⟩ := keyG_inj h3
    obtain rfl : i = j := hd i j g' g hg1 hj (by rw [e1, h0]) (by rw [e2, h1])
    exact hr
theorem lookG_none (hm : w.heap[mb]? = some (.map (entG first gs).toArray gs.length)) (hg : ∀ g ∈ gs, Gate32 g) (ha : 0 ≤ a ∧ a < 4294967296) (hb : 0 ≤ b ∧ b < 4294967296) (hn : ∀ g ∈ gs, ¬ (g.f0 = a ∧ g.f1 = b)) :
    (Instr.lookup 121 (.map (some mb)) (keyG a b) true).run Try.prog w = .ok (.tuple #[.int .u32 0, .bool false]) w := by
  obtain ⟨l, hl⟩ := key_isG ha hb
  have h1 := find_none (first := first) hg ha hb hn w
  simp [Instr.lookup, run_underlying Try.underlying121, MapKept.run_getObj_map hm, klaw68.check w _ hl, h1, zero39, Result.andThen]
theorem lookG_some (hm : w.heap[mb]? = some (.map (entG first gs).toArray gs.length)) (hg : ∀ g ∈ gs, Gate32 g) (hd : Apart68 gs) (ha : 0 ≤ a ∧ a < 4294967296) (hb : 0 ≤ b ∧ b < 4294967296) {j : Nat} {g : S68} (hj : gs[j]? = some g) (h0 : g.f0 = a) (h1 : g.f1 = b) :
    (Instr.lookup 121 (.map (some mb)) (keyG a b) true).run Try.prog w = .ok (.tuple #[.int .u32 (2 * (first + (j : Int))), .bool true]) w := by
  obtain ⟨l, hl⟩ := key_isG ha hb
  have h2 := find_some (first := first) hg hd ha hb hj h0 h1 w
  simp [Instr.lookup, run_underlying Try.underlying121, MapKept.run_getObj_map hm, klaw68.check w _ hl, h2, Result.andThen]
theorem mapG_entry (hm : w.heap[mb]? = some (.map (entG first gs).toArray gs.length)) (hg : ∀ g ∈ gs, Gate32 g) (ha : 0 ≤ a ∧ a < 4294967296) (hb : 0 ≤ b ∧ b < 4294967296) (hn : ∀ g ∈ gs, ¬ (g.f0 = a ∧ g.f1 = b)) :
    (Instr.mapEntry 121 (.map (some mb)) (keyG a b)).run Try.prog w = .ok (.tuple #[.int .u32 0, .int .i64 gs.length]) (setBlock w mb (.map ((entG first gs).toArray.push ⟨keyG a b, .int .u32 0, gs.length⟩) (gs.length + 1))) := by
  obtain ⟨l, hl⟩ := key_isG ha hb
  have h1 := find_none (first := first) hg ha hb hn w
  simp [Instr.mapEntry, run_underlying Try.underlying121, MapKept.run_getObj_map hm, klaw68.check w false hl, h1, zero39, MapKept.run_setObj_map _ hm, Result.andThen, setBlock, goInt]
theorem mapG_store (v : Value) (hm : w.heap[mb]? = some (.map ((entG first gs).toArray.push ⟨keyG a b, .int .u32 0, gs.length⟩) (gs.length + 1))) :
    (Instr.entryStore 121 (.map (some mb)) (.int .i64 gs.length) v).run Try.prog w = .ok () (setBlock w mb (.map ((entG first gs).toArray.push ⟨keyG a b, v, gs.length⟩) (gs.length + 1))) := by
  have hidx : ((entG first gs).toArray.push ⟨keyG a b, .int .u32 0, gs.length⟩).findIdx? (fun e => ((e.born : Nat) : Int) == ((gs.length : Nat) : Int)) = some gs.length := by
    rw [WideElems.findIdx_arr]
    refine WideElems.findIdx_born (e0 := ⟨keyG a b, .int .u32 0, gs.length⟩) ?_ ?_
    · have e : ((entG first gs).toArray.push ⟨keyG a b, .int .u32 0, gs.length⟩).toList.map (·.born) = List.range (gs.length + 1) := by
        apply List.ext_getElem?
        intro i
        simp [entG, List.getElem?_append, List.getElem?_range, List.getElem?_zipIdx, List.range_succ]
        by_cases hi : i < gs.length
        · simp [hi]
        · simp [hi]
      rw [e]
      exact List.nodup_range
    · simp [entG_len]
  have hmod : ((entG first gs).toArray.push ⟨keyG a b, .int .u32 0, gs.length⟩).modify gs.length (fun e => { e with val := v }) = (entG first gs).toArray.push ⟨keyG a b, v, gs.length⟩ := by
    apply Array.ext'
    have := WideElems.modify_last (fun e : MapEntry => { e with val := v }) (⟨keyG a b, .int .u32 0, gs.length⟩ : MapEntry) (entG first gs)
    rw [entG_len] at this
    rw [Array.toList_modify, Array.toList_push, Array.toList_push]
    simpa using this
  generalize (entG first gs).toArray.push ⟨keyG a b, .int .u32 0, gs.length⟩ = es at hm hidx hmod
  generalize (entG first gs).toArray.push ⟨keyG a b, v, gs.length⟩ = es' at hmod ⊢
  simp [Instr.entryStore, MapKept.run_getObj_map hm, asInt, asIntOf, hidx, hmod, MapKept.run_setObj_map _ hm, Result.andThen, setBlock]
end
end Go.Proofs.Yteiiodlgdbiimaa.F
end
