/- What the proof of the law StrashRuns needs, part 2: the walks of the functions that it reaches, and the plain words on what these compute. -/
import Derived.ArgAppend
import Derived.Below
import Derived.BigQuiet
import Derived.ChangeOld
import Derived.ChangeSame
import Derived.Deep.AppendLies
import Derived.Deep.CutBlock
import Derived.Deep.DeepCutAuto
import Derived.Deep.Draws
import Derived.Deep.Fields
import Derived.Deep.LoopGhost
import Derived.Deep.OwnRows
import Derived.Deep.QuietTactic
import Derived.Deep.RegionHeld3
import Derived.Deep.RegionLaw
import Derived.Deep.Slices
import Derived.DeepKeys5
import Derived.IntWalk
import Derived.KernelRfl
import Derived.Laws.BitsAllLaws
import Derived.Laws.BitsLemmas
import Derived.Laws.BytesArg
import Derived.Laws.CopyOwn
import Derived.Laws.IdiomCopy
import Derived.Laws.MakeOwn
import Derived.Laws.OwnMore
import Derived.Laws.Rows
import Derived.Laws.Slices
import Derived.Lib.AppendStr
import Derived.Lib.ConvBytes
import Derived.Lib.SmallJoins
import Derived.LoopIn
import Derived.LoopNIn
import Derived.Maps.AppendAt
import Derived.OpenShut
import Derived.OrdersHeld
import Derived.OwnWalk
import Derived.OwnWalkIn
import Derived.ProofKit
import Derived.RangeFuncBound
import Derived.RangeFuncCalls
import Derived.RangeFuncLeaves
import Derived.RangeFuncNested
import Derived.RowKit
import Derived.RowKit3
import Derived.Shelf.Abstract
import Derived.Shelf.RegionOpen
import Derived.SizedLaws
import Derived.StillTailTactics
import Derived.Tactics
import Derived.TacticsInMore
import Derived.Test.YteiiodlgdbiimaaProg
import Derived.Test.YteiiodlgdbiimaaRows
import Derived.WalkKit
import Derived.WideKeyEntry
import Derived.WideLaws
import Derived.Test.YteiiodlgdbiimaaRa
section
namespace Go.Proofs.Yteiiodlgdbiimaa
theorem strip_cut (r : List (List Char)) : stripLifts liftWords ("cut".toList :: r) = ([], "cut".toList :: r) := by kernel_rfl
theorem may_enter_of (P : Program) (p q : String) (h : P.initOrder = p ++ q) (hs : ∀ r, behindMainWord (wordsSigns (p.toList ++ r)) = "cut".toList :: wordsSigns r) (hl : P.laysLater = false) (hb : P.bearsReflect = false) (hd : P.doorFits [] = true) : P.mayEnter = true := by
  unfold Program.mayEnter
  rw [h, String.toList_append, hs]
  have hs2 := strip_cut (wordsSigns q.toList)
  dsimp only
  generalize stripLifts liftWords ("cut".toList :: wordsSigns q.toList) = sl at hs2 ⊢
  subst hs2
  simp [hl, hb, hd]
theorem make_of (P : Program) (p q : String) (h : P.initOrder = p ++ q) (hs : ∀ r, behindMainWord (wordsSigns (p.toList ++ r)) = "cut".toList :: wordsSigns r) : P.make = some .cut := by
  unfold Program.make
  rw [h, String.toList_append, hs]
  rfl
theorem lifts_of (P : Program) (p q : String) (h : P.initOrder = p ++ q) (hs : ∀ r, behindMainWord (wordsSigns (p.toList ++ r)) = "cut".toList :: wordsSigns r) : P.liftsFinal = false := by
  have hw : behindMainWord (wordsSigns P.initOrder.toList) = "cut".toList :: wordsSigns q.toList := by rw [h, String.toList_append, hs]
  have hs2 := strip_cut (wordsSigns q.toList)
  unfold Program.liftsFinal Program.headLifts
  rw [hw]
  dsimp only
  generalize stripLifts liftWords ("cut".toList :: wordsSigns q.toList) = sl at hs2 ⊢
  subst hs2
  simp
theorem order_eq : Try.pinned.checked.prog.initOrder = "harness 8bc95be9aef776efc07c83d12f0bd9a4e60c13404288aaedbc3ff7bc00220b1d cut " ++ "at inquest/inquestlaw09.ConeGrows inquest/inquestlaw25.ExtractKeeps inquest/inquestlaw24.StrashTells inquest/inquestlaw24.StrashRuns inquest/inquestlaw24.StrashSmall inquest/inquestlaw26.StuckFolds inquest/inquestlaw24.StrashWith inquest/inquestlaw24.StrashLits inquest/inquestlaw09.ConeTells inquest/inquestlaw09.ConeCounts inquest/inquestlaw23.WatchTells inquest/inquestlaw23.WatchLong inquest/inquestlaw23.WatchSure inquest/inquestlaw25.ExtractTells inquest/inquestlaw25.ExtractFails inquest/inquestlaw25.ExtractParts inquest/inquestlaw26.StuckEver inquest/inquestlaw26.StuckAgain inquest/inquestlaw23.WatchExtends inquest/inquestlaw26.StuckTells" := by kernel_rfl
theorem signs_eq (r : List Char) : behindMainWord (wordsSigns (("harness 8bc95be9aef776efc07c83d12f0bd9a4e60c13404288aaedbc3ff7bc00220b1d cut " : String).toList ++ r)) = "cut".toList :: wordsSigns r := by kernel_rfl
theorem lays_no : Try.pinned.checked.prog.laysLater = false := by kernel_rfl
theorem bears_no : Try.pinned.checked.prog.bearsReflect = false := by kernel_rfl
theorem door_yes : Try.pinned.checked.prog.doorFits [] = true := by kernel_rfl
theorem may_enter : Try.pinned.checked.prog.mayEnter = true := may_enter_of _ _ _ order_eq signs_eq lays_no bears_no door_yes
theorem make_is : Try.pinned.checked.prog.make = some .cut := make_of _ _ _ order_eq signs_eq
theorem lifts_no : Try.pinned.checked.prog.liftsFinal = false := lifts_of _ _ _ order_eq signs_eq
end Go.Proofs.Yteiiodlgdbiimaa
end
section
namespace Go.Proofs.Yteiiodlgdbiimaa.F
open Go.RowKit Go.Proofs.YteiiodlgdbiimaaW.PrintWords Go.Proofs.YteiiodlgdbiimaaW.PrintLast Go.Proofs.YteiiodlgdbiimaaW.PrintMore
attribute [local go_sem] max2_int min2_int max_two min_two max_three min_three max_four min_four
set_option linter.unusedVariables false
set_option linter.unusedSimpArgs false
theorem info5 : (Try.prog.info? 5).map (fun i => (i.zero, i.size, i.bytes)) = some (some (.int .u8 0), 1, 1) := by kernel_rfl
theorem info28 : (Try.prog.info? 28).map (fun i => (i.zero, i.size, i.bytes)) = some (some (.slice none 0 0), 1, 24) := by kernel_rfl
theorem info39 : (Try.prog.info? 39).map (fun i => (i.zero, i.size, i.bytes)) = some (some (.int .u32 0), 1, 4) := by kernel_rfl
theorem info41 : (Try.prog.info? 41).map (fun i => (i.zero, i.size, i.bytes)) = some (some (.agg #[(.int .u32 0), (.int .u8 0)]), 2, 8) := by kernel_rfl
theorem info68 : (Try.prog.info? 68).map (fun i => (i.zero, i.size, i.bytes)) = some (some (.agg #[(.int .u32 0), (.int .u32 0)]), 2, 8) := by kernel_rfl
structure S41 where
  f0 : Int
  f1 : Int
def z41 : S41 := ⟨(0 : Int), (0 : Int)⟩
def k41 : Kd S41 := Kd.iso (Kd.pair (Kd.int .u32) (Kd.int .u8)) (fun x : S41 => (x.f0, x.f1))
theorem k41_open {w : World} {x : S41} {cs : List Value} (h : k41.K w x cs) : cs = [.int .u32 x.f0, .int .u8 x.f1] := by
  obtain ⟨_, _, rfl, rfl, rfl⟩ := h
  exact rfl
theorem k41_mk (w : World) (x : S41)  : k41.K w x [.int .u32 x.f0, .int .u8 x.f1] := ⟨[.int .u32 x.f0], [.int .u8 x.f1], rfl, rfl, rfl⟩
theorem k41_mkM (w : World) (base : Nat) (ok : Nat → Prop) (x : S41)  : k41.M w base ok x [.int .u32 x.f0, .int .u8 x.f1] := ⟨[.int .u32 x.f0], [.int .u8 x.f1], rfl, rfl, rfl⟩
def rd_T41 (xs : List S41) (i : Int) : S41 := xs.getD i.toNat z41
theorem at_T41 {w : World} {A : Option Addr} {n : Nat} {xs : List S41} (h : Kd.C k41 w A n xs) (i : Int) (h0 : 0 ≤ i) (h1 : i < n) : ∃ ad , A = some ad ∧ w.cell? (ad.add (i.toNat * 2)) = some (.int .u32 (rd_T41 xs i).f0) ∧ w.cell? ⟨(ad.add (i.toNat * 2)).block, (ad.add (i.toNat * 2)).off + 1, none⟩ = some (.int .u8 (rd_T41 xs i).f1) := by
  obtain ⟨ad, c, e, _, hK, hc0⟩ := Kd.C_get h z41 i h0 h1
  have hc : ∀ j u, c[j]? = some u → w.cell? (ad.add (i.toNat * 2 + j)) = some u := hc0
  obtain rfl := k41_open hK
  exact ⟨ad, e, hc 0 _ rfl, by rw [← add_field _ _ 1 (by omega)]; exact hc 1 _ rfl⟩
structure S68 where
  f0 : Int
  f1 : Int
def z68 : S68 := ⟨(0 : Int), (0 : Int)⟩
def k68 : Kd S68 := Kd.iso (Kd.pair (Kd.int .u32) (Kd.int .u32)) (fun x : S68 => (x.f0, x.f1))
theorem k68_open {w : World} {x : S68} {cs : List Value} (h : k68.K w x cs) : cs = [.int .u32 x.f0, .int .u32 x.f1] := by
  obtain ⟨_, _, rfl, rfl, rfl⟩ := h
  exact rfl
theorem k68_mk (w : World) (x : S68)  : k68.K w x [.int .u32 x.f0, .int .u32 x.f1] := ⟨[.int .u32 x.f0], [.int .u32 x.f1], rfl, rfl, rfl⟩
theorem k68_mkM (w : World) (base : Nat) (ok : Nat → Prop) (x : S68)  : k68.M w base ok x [.int .u32 x.f0, .int .u32 x.f1] := ⟨[.int .u32 x.f0], [.int .u32 x.f1], rfl, rfl, rfl⟩
def rd_T68 (xs : List S68) (i : Int) : S68 := xs.getD i.toNat z68
theorem at_T68 {w : World} {A : Option Addr} {n : Nat} {xs : List S68} (h : Kd.C k68 w A n xs) (i : Int) (h0 : 0 ≤ i) (h1 : i < n) : ∃ ad , A = some ad ∧ w.cell? (ad.add (i.toNat * 2)) = some (.int .u32 (rd_T68 xs i).f0) ∧ w.cell? ⟨(ad.add (i.toNat * 2)).block, (ad.add (i.toNat * 2)).off + 1, none⟩ = some (.int .u32 (rd_T68 xs i).f1) := by
  obtain ⟨ad, c, e, _, hK, hc0⟩ := Kd.C_get h z68 i h0 h1
  have hc : ∀ j u, c[j]? = some u → w.cell? (ad.add (i.toNat * 2 + j)) = some u := hc0
  obtain rfl := k68_open hK
  exact ⟨ad, e, hc 0 _ rfl, by rw [← add_field _ _ 1 (by omega)]; exact hc 1 _ rfl⟩
def rd_L9 (xs : List (List Int)) (i : Int) : (List Int) := xs.getD i.toNat ([] : List Int)
theorem at_L9 {w : World} {A : Option Addr} {n : Nat} {xs : List (List Int)} (h : Kd.C (Kd.slice 5 (Kd.int .u8)) w A n xs) (i : Int) (h0 : 0 ≤ i) (h1 : i < n) : ∃ ad A0 c0, A = some ad ∧ w.cell? (ad.add i.toNat) = some (.slice A0 (rd_L9 xs i).length c0) ∧ (rd_L9 xs i).length ≤ c0 ∧ (Kd.int .u8).C w A0 (rd_L9 xs i).length (rd_L9 xs i) := by
  obtain ⟨ad, c, e, _, hK, hc0⟩ := Kd.C_get h ([] : List Int) i h0 h1
  have hc : ∀ j u, c[j]? = some u → w.cell? (ad.add (i.toNat * 1 + j)) = some u := hc0
  obtain ⟨A0, c0, rfl, l0, g0⟩ := hK
  exact ⟨ad, A0, c0, e, by have hq := hc 0 _ rfl; rwa [Nat.mul_one, Nat.add_zero] at hq, l0, g0⟩
end Go.Proofs.Yteiiodlgdbiimaa.F
end
section
namespace Go.Proofs.Yteiiodlgdbiimaa.F
open Go.RowKit Go.Proofs.YteiiodlgdbiimaaW.PrintWords Go.Proofs.YteiiodlgdbiimaaW.PrintLast Go.Proofs.YteiiodlgdbiimaaW.PrintMore
attribute [local go_sem] max2_int min2_int max_two min_two max_three min_three max_four min_four
set_option linter.unusedVariables false
set_option linter.unusedSimpArgs false
def inquestref03_lits.l0 : Nat → List Int → Int → Int → Option (Bool)
  | 0, _, _, _ => none
  | k + 1, x0, x1, x5 => if x5 < (x0.length : Int) then (if 0 ≤ x5 then (if ((Int.tdiv (rd x0 x5) 2) % 4294967296) > x1 then (some false) else (inquestref03_lits.l0 k x0 x1 (wrap64 (x5 + 1)))) else (none)) else (some (decide ((x0.length : Int) ≤ 1024)))
def inquestref03_lits.f (k : Nat) (l0 : List Int) (a1 : Int) : Option (Bool) := inquestref03_lits.l0 k l0 a1 0
set_option maxHeartbeats 8000000 in
set_option maxRecDepth 100000 in
theorem inquestref03_lits.calls (k : Nat) (A0 : Option Addr) (c0 : Nat) (l0 : List Int) (a1 : Int) (r : Bool) (w : World) (hr0 : Kd.C (Kd.int .u32) w A0 l0.length l0) (hc0 : l0.length ≤ c0) (h : inquestref03_lits.f k l0 a1 = some r) :
    Calls Try.prog 91 #[.slice A0 l0.length c0, .int .i64 a1] w fun e w' => e = .returned (.bool r) ∧ Drawn0 w w' := by
  have HR0 := Aside0.mk hr0
  have HC0 := Aside0.mk hc0
  clear hr0 hc0
  have H : (inquestref03_lits.l0 k l0 a1 0) = some r := h
  clear h
  have H' := Aside0.mk H
  clear H
  go_enter Try.func91, Try.ntmps91
  go_wp2
  go_loopg [5] k (fun kq v5 w' => ∃ (x5_1 : Int), v5 = .int .i64 x5_1 ∧ Aside0 (inquestref03_lits.l0 kq l0 a1 x5_1 = some r) ∧ Aside0 (kq ≤ k) ∧ Drawn0 w w')
  case atStart => exact ⟨(0), (by first | rfl | (simp; done) | (simp [*]; done)), H', ⟨Nat.le_refl _⟩, by repeat (first | exact Drawn0.refl _ | apply Drawn0.step)⟩
  case round =>
    clear H'
    try clear p2
    obtain ⟨x5_1, rfl, HA, HK1, ⟨m1, rfl⟩⟩ := hrel
    cases gk with
    | zero => exact absurd HA.out (by simp [inquestref03_lits.l0])
    | succ k1 =>
      have H := HA.out
      clear HA
      simp only [inquestref03_lits.l0] at H
      by_cases c3 : x5_1 < (l0.length : Int)
      · rw [if_pos c3] at H
        have c3b0 : decide (x5_1 < (l0.length : Int)) = true := decide_eq_true c3
        clear c3
        by_cases c4 : 0 ≤ x5_1
        · rw [if_pos c4] at H
          have c4b0 : decide (0 ≤ x5_1) = true := decide_eq_true c4
          clear c4
          by_cases c5 : ((Int.tdiv (rd l0 x5_1) 2) % 4294967296) > a1
          · rw [if_pos c5] at H
            have c5b0 : decide (a1 < ((Int.tdiv (rd l0 x5_1) 2) % 4294967296)) = true := decide_eq_true c5
            clear c5
            obtain rfl := Option.some.inj H
            have p160 : 0 ≤ (x5_1 : Int) := of_decide_eq_true (by first | (with_reducible assumption) | assumption)
            have q160 : x5_1 < (l0.length : Int) := of_decide_eq_true (by first | (with_reducible assumption) | assumption)
            obtain ⟨ad160, e160, hx160_0⟩ := Kd.at_int HR0.out x5_1 p160 q160
            cases e160
            replace p160 := eq_true p160
            replace q160 := eq_true q160
            go_wp2
            go_ret
            exact ⟨by first | rfl | (simp; done) | (simp [*]; done), by repeat (first | exact Drawn0.refl _ | apply Drawn0.step)⟩
          · rw [if_neg c5] at H
            have c5b0 : decide (a1 < ((Int.tdiv (rd l0 x5_1) 2) % 4294967296)) = false := decide_eq_false c5
            clear c5
            have H' := Aside0.mk H
            clear H
            have p160 : 0 ≤ (x5_1 : Int) := of_decide_eq_true (by first | (with_reducible assumption) | assumption)
            have q160 : x5_1 < (l0.length : Int) := of_decide_eq_true (by first | (with_reducible assumption) | assumption)
            obtain ⟨ad160, e160, hx160_0⟩ := Kd.at_int HR0.out x5_1 p160 q160
            cases e160
            replace p160 := eq_true p160
            replace q160 := eq_true q160
            go_wp2
            go_roundg k1
            case measure => have := HK1.out; omega
            case rel => exact ⟨(wrap64 (x5_1 + 1)), (by first | rfl | (simp; done) | (simp [*]; done)), H', ⟨by have := HK1.out; omega⟩, by repeat (first | exact Drawn0.refl _ | apply Drawn0.step)⟩
        · rw [if_neg c4] at H
          exact absurd H (by simp)
      · rw [if_neg c3] at H
        have c3b0 : decide (x5_1 < (l0.length : Int)) = false := decide_eq_false c3
        clear c3
        obtain rfl := Option.some.inj H
        go_wp2
        go_ret
        exact ⟨by first | rfl | (simp; done) | (simp [*]; done), by repeat (first | exact Drawn0.refl _ | apply Drawn0.step)⟩
end Go.Proofs.Yteiiodlgdbiimaa.F
end
section
namespace Go.Proofs.Yteiiodlgdbiimaa.F
open Go.RowKit Go.Proofs.YteiiodlgdbiimaaW.PrintWords Go.Proofs.YteiiodlgdbiimaaW.PrintLast Go.Proofs.YteiiodlgdbiimaaW.PrintMore
attribute [local go_sem] max2_int min2_int max_two min_two max_three min_three max_four min_four
set_option linter.unusedVariables false
set_option linter.unusedSimpArgs false
mutual
def inquestref03_May.j0 : Nat → Bool → Int → List (S41) → List (S68) → List Int → List Int → List Int → Option (Bool)
  | 0, _, _, _, _, _, _, _ => none
  | k + 1, x26, x162000, x162001, x162002, x162003, x162004, x162005 => if x26 = true then (some false) else (if (wrap64 ((wrap64 (x162000 + (x162001.length : Int))) + (x162002.length : Int))) > 16384 then (some false) else (inquestref03_May.l0 k (wrap64 ((wrap64 (x162000 + (x162001.length : Int))) + (x162002.length : Int))) 0 x162000 x162001 x162002 x162003 x162004 x162005))
def inquestref03_May.l0 : Nat → Int → Int → Int → List (S41) → List (S68) → List Int → List Int → List Int → Option (Bool)
  | 0, _, _, _, _, _, _, _, _ => none
  | k + 1, x3, x4, x162000, x162001, x162002, x162003, x162004, x162005 => if x4 < (x162001.length : Int) then (if 0 ≤ x4 then (if ((Int.tdiv ((rd_T41 x162001 x4).f0) 2) % 4294967296) > x3 then (some false) else (if ((rd_T41 x162001 x4).f1) > 2 then (some false) else (inquestref03_May.l0 k x3 (wrap64 (x4 + 1)) x162000 x162001 x162002 x162003 x162004 x162005))) else (none)) else (inquestref03_May.l1 k x3 0 x162000 x162001 x162002 x162003 x162004 x162005)
def inquestref03_May.l1 : Nat → Int → Int → Int → List (S41) → List (S68) → List Int → List Int → List Int → Option (Bool)
  | 0, _, _, _, _, _, _, _, _ => none
  | k + 1, x3, x5, x162000, x162001, x162002, x162003, x162004, x162005 => if x5 < (x162002.length : Int) then (if 0 ≤ x5 then (if ((Int.tdiv ((rd_T68 x162002 x5).f0) 2) % 4294967296) ≥ (wrap64 ((wrap64 ((wrap64 (x162000 + (x162001.length : Int))) + 1)) + x5)) then (some false) else (if ((rd_T68 x162002 x5).f0) < ((rd_T68 x162002 x5).f1) then (some false) else (inquestref03_May.l1 k x3 (wrap64 (x5 + 1)) x162000 x162001 x162002 x162003 x162004 x162005))) else (none)) else ((inquestref03_lits.f k x162003 x3).bind fun t166 => (if t166 = true then ((inquestref03_lits.f k x162004 x3).bind fun t167 => (if t167 = true then ((inquestref03_lits.f k x162005 x3).bind fun t168 => (some t168)) else (some false))) else (some false)))
end
def inquestref03_May.f (k : Nat) (a0_0 : Int) (l0_1 : List (S41)) (l0_2 : List (S68)) (l0_3 : List Int) (l0_4 : List Int) (l0_5 : List Int) : Option (Bool) := if a0_0 < 0 then (inquestref03_May.j0 k true a0_0 l0_1 l0_2 l0_3 l0_4 l0_5) else (if a0_0 > 16384 then (inquestref03_May.j0 k true a0_0 l0_1 l0_2 l0_3 l0_4 l0_5) else (if (l0_1.length : Int) > 16384 then (inquestref03_May.j0 k true a0_0 l0_1 l0_2 l0_3 l0_4 l0_5) else (inquestref03_May.j0 k (decide ((l0_2.length : Int) > 16384)) a0_0 l0_1 l0_2 l0_3 l0_4 l0_5)))
set_option maxHeartbeats 8000000 in
set_option maxRecDepth 100000 in
theorem inquestref03_May.calls (k : Nat) (a0_0 : Int) (A0_1 : Option Addr) (c0_1 : Nat) (l0_1 : List (S41)) (A0_2 : Option Addr) (c0_2 : Nat) (l0_2 : List (S68)) (A0_3 : Option Addr) (c0_3 : Nat) (l0_3 : List Int) (A0_4 : Option Addr) (c0_4 : Nat) (l0_4 : List Int) (A0_5 : Option Addr) (c0_5 : Nat) (l0_5 : List Int) (r : Bool) (w : World) (hr0_1 : Kd.C k41 w A0_1 l0_1.length l0_1) (hc0_1 : l0_1.length ≤ c0_1) (hr0_2 : Kd.C k68 w A0_2 l0_2.length l0_2) (hc0_2 : l0_2.length ≤ c0_2) (hr0_3 : Kd.C (Kd.int .u32) w A0_3 l0_3.length l0_3) (hc0_3 : l0_3.length ≤ c0_3) (hr0_4 : Kd.C (Kd.int .u32) w A0_4 l0_4.length l0_4) (hc0_4 : l0_4.length ≤ c0_4) (hr0_5 : Kd.C (Kd.int .u32) w A0_5 l0_5.length l0_5) (hc0_5 : l0_5.length ≤ c0_5) (h : inquestref03_May.f k a0_0 l0_1 l0_2 l0_3 l0_4 l0_5 = some r) :
  Calls Try.prog 26 #[.agg #[.int .i64 a0_0, .slice A0_1 l0_1.length c0_1, .slice A0_2 l0_2.length c0_2, .slice A0_3 l0_3.length c0_3, .slice A0_4 l0_4.length c0_4, .slice A0_5 l0_5.length c0_5]] w fun e w' => e = .returned (.bool r) ∧ Below w.heap.size w w' := by
 have hu26 := Try.underlying26
 have hu68 := Try.underlying68
 have HR0_1 := Aside0.mk hr0_1
 have HC0_1 := Aside0.mk hc0_1
 clear hr0_1 hc0_1
 have HR0_2 := Aside0.mk hr0_2
 have HC0_2 := Aside0.mk hc0_2
 clear hr0_2 hc0_2
 have HR0_3 := Aside0.mk hr0_3
 have HC0_3 := Aside0.mk hc0_3
 clear hr0_3 hc0_3
 have HR0_4 := Aside0.mk hr0_4
 have HC0_4 := Aside0.mk hc0_4
 clear hr0_4 hc0_4
 have HR0_5 := Aside0.mk hr0_5
 have HC0_5 := Aside0.mk hc0_5
 clear hr0_5 hc0_5
 have HB := Aside0.mk (Below.refl w.heap.size w)
 have H : (if a0_0 < 0 then (inquestref03_May.j0 k true a0_0 l0_1 l0_2 l0_3 l0_4 l0_5) else (if a0_0 > 16384 then (inquestref03_May.j0 k true a0_0 l0_1 l0_2 l0_3 l0_4 l0_5) else (if (l0_1.length : Int) > 16384 then (inquestref03_May.j0 k true a0_0 l0_1 l0_2 l0_3 l0_4 l0_5) else (inquestref03_May.j0 k (decide ((l0_2.length : Int) > 16384)) a0_0 l0_1 l0_2 l0_3 l0_4 l0_5)))) = some r := h
 clear h
 have HC2 := Aside0.mk H
 clear H
 go_enter Try.func26, Try.ntmps26
 go_upto_region 1 with (first | ((with_reducible refine gate_dst (N := 1) rfl ?_); (try (refine gate_guard (by rfl) ?_; dsimp only)); refine box_event ?hg (N := 1) ?hd (cs := #[.int .i64 a0_0, .slice A0_1 l0_1.length c0_1, .slice A0_2 l0_2.length c0_2, .slice A0_3 l0_3.length c0_3, .slice A0_4 l0_4.length c0_4, .slice A0_5 l0_5.length c0_5]) (t := 26) ?hr ?_; (case hd => rfl); (case hg => rfl); (case hr => first | (go_simp; done) | (go_simp; rfl)); intro gb161 hg w3 hbox hb; have n0_ := Aside0.mk (below_step (by exact HB.out) hb); have n1_ := Aside0.mk (hbox); have n2_ := Aside0.mk ((by rw [hg]; exact (below_size (by exact HB.out)) : w.heap.size ≤ gb161)); have n3_ := Aside0.mk ((by rw [hg]; exact (below_size (by exact HB.out)) : w.heap.size ≤ gb161)); clear HB; have HB := n0_; have BK161 := n1_; have GW161 := n2_; have GE161 := n3_; clear n0_ n1_ n2_ n3_; clear hb hbox hg))
 (try simp only [Act.put, List.setIfInBounds_toArray, List.set_cons_zero, List.set_cons_succ])
 go_cut [26] (fun v26 wc => ∃ (kq : Nat) (x26_1 : Bool), v26 = .bool x26_1 ∧ Aside0 (inquestref03_May.j0 kq x26_1 a0_0 l0_1 l0_2 l0_3 l0_4 l0_5 = some r) ∧ Aside0 (kq ≤ k) ∧ Aside0 (wc.heap[gb161]? = some (.cells #[.int .i64 a0_0, (.slice A0_1 l0_1.length c0_1), (.slice A0_2 l0_2.length c0_2), (.slice A0_3 l0_3.length c0_3), (.slice A0_4 l0_4.length c0_4), (.slice A0_5 l0_5.length c0_5)] 26 (0, 0))) ∧ Aside0 (Below w.heap.size w wc))
 case first =>
  have H := HC2.out
  clear HC2
  by_cases c4 : a0_0 < 0
  ·
   rw [if_pos c4] at H
   have c4b0 : decide (a0_0 < 0) = true := decide_eq_true c4
   clear c4
   (first | rw [c4b0] | (simp only [i64_w, i32_w]; rw [c4b0]) | skip)
   have H' := Aside0.mk H
   clear H
   have hcz5_0 : w3.cell? ⟨gb161, 0, none⟩ = some (.int .i64 a0_0) := (blk_cell BK161.out 0).trans rfl
   have hcz5_1 : w3.cell? ⟨gb161, 1, none⟩ = some (.slice A0_1 l0_1.length c0_1) := (blk_cell BK161.out 1).trans rfl
   have hcz5_2 : w3.cell? ⟨gb161, 2, none⟩ = some (.slice A0_2 l0_2.length c0_2) := (blk_cell BK161.out 2).trans rfl
   have hcz5_3 : w3.cell? ⟨gb161, 3, none⟩ = some (.slice A0_3 l0_3.length c0_3) := (blk_cell BK161.out 3).trans rfl
   have hcz5_4 : w3.cell? ⟨gb161, 4, none⟩ = some (.slice A0_4 l0_4.length c0_4) := (blk_cell BK161.out 4).trans rfl
   have hcz5_5 : w3.cell? ⟨gb161, 5, none⟩ = some (.slice A0_5 l0_5.length c0_5) := (blk_cell BK161.out 5).trans rfl
   have hfz5_0 := blk_frozen BK161.out 0
   have hfz5_1 := blk_frozen BK161.out 1
   have hfz5_2 := blk_frozen BK161.out 2
   have hfz5_3 := blk_frozen BK161.out 3
   have hfz5_4 := blk_frozen BK161.out 4
   have hfz5_5 := blk_frozen BK161.out 5
   go_wp2
   go_meet
   case rel => exact ⟨_, (true), (by first | rfl | (simp; done) | (simp [*]; done)), H', ⟨by first | omega | exact Nat.le_refl _⟩, ⟨by exact BK161.out⟩, ⟨by exact HB.out⟩⟩
  ·
   rw [if_neg c4] at H
   have c4b0 : decide (a0_0 < 0) = false := decide_eq_false c4
   clear c4
   (first | rw [c4b0] | (simp only [i64_w, i32_w]; rw [c4b0]) | skip)
   by_cases c6 : a0_0 > 16384
   ·
    rw [if_pos c6] at H
    have c6b0 : decide (16384 < a0_0) = true := decide_eq_true c6
    clear c6
    have H' := Aside0.mk H
    clear H
    have hcz7_0 : w3.cell? ⟨gb161, 0, none⟩ = some (.int .i64 a0_0) := (blk_cell BK161.out 0).trans rfl
    have hcz7_1 : w3.cell? ⟨gb161, 1, none⟩ = some (.slice A0_1 l0_1.length c0_1) := (blk_cell BK161.out 1).trans rfl
    have hcz7_2 : w3.cell? ⟨gb161, 2, none⟩ = some (.slice A0_2 l0_2.length c0_2) := (blk_cell BK161.out 2).trans rfl
    have hcz7_3 : w3.cell? ⟨gb161, 3, none⟩ = some (.slice A0_3 l0_3.length c0_3) := (blk_cell BK161.out 3).trans rfl
    have hcz7_4 : w3.cell? ⟨gb161, 4, none⟩ = some (.slice A0_4 l0_4.length c0_4) := (blk_cell BK161.out 4).trans rfl
    have hcz7_5 : w3.cell? ⟨gb161, 5, none⟩ = some (.slice A0_5 l0_5.length c0_5) := (blk_cell BK161.out 5).trans rfl
    have hfz7_0 := blk_frozen BK161.out 0
    have hfz7_1 := blk_frozen BK161.out 1
    have hfz7_2 := blk_frozen BK161.out 2
    have hfz7_3 := blk_frozen BK161.out 3
    have hfz7_4 := blk_frozen BK161.out 4
    have hfz7_5 := blk_frozen BK161.out 5
    go_wp2
    go_meet
    case rel => exact ⟨_, (true), (by first | rfl | (simp; done) | (simp [*]; done)), H', ⟨by first | omega | exact Nat.le_refl _⟩, ⟨by exact BK161.out⟩, ⟨by exact HB.out⟩⟩
   ·
    rw [if_neg c6] at H
    have c6b0 : decide (16384 < a0_0) = false := decide_eq_false c6
    clear c6
    by_cases c8 : (l0_1.length : Int) > 16384
    ·
     rw [if_pos c8] at H
     have c8b0 : decide (16384 < (l0_1.length : Int)) = true := decide_eq_true c8
     have c8b1 : decide (16384 < l0_1.length) = true := decide_eq_true (by omega)
     clear c8
     have H' := Aside0.mk H
     clear H
     have hcz9_0 : w3.cell? ⟨gb161, 0, none⟩ = some (.int .i64 a0_0) := (blk_cell BK161.out 0).trans rfl
     have hcz9_1 : w3.cell? ⟨gb161, 1, none⟩ = some (.slice A0_1 l0_1.length c0_1) := (blk_cell BK161.out 1).trans rfl
     have hcz9_2 : w3.cell? ⟨gb161, 2, none⟩ = some (.slice A0_2 l0_2.length c0_2) := (blk_cell BK161.out 2).trans rfl
     have hcz9_3 : w3.cell? ⟨gb161, 3, none⟩ = some (.slice A0_3 l0_3.length c0_3) := (blk_cell BK161.out 3).trans rfl
     have hcz9_4 : w3.cell? ⟨gb161, 4, none⟩ = some (.slice A0_4 l0_4.length c0_4) := (blk_cell BK161.out 4).trans rfl
     have hcz9_5 : w3.cell? ⟨gb161, 5, none⟩ = some (.slice A0_5 l0_5.length c0_5) := (blk_cell BK161.out 5).trans rfl
     have hfz9_0 := blk_frozen BK161.out 0
     have hfz9_1 := blk_frozen BK161.out 1
     have hfz9_2 := blk_frozen BK161.out 2
     have hfz9_3 := blk_frozen BK161.out 3
     have hfz9_4 := blk_frozen BK161.out 4
     have hfz9_5 := blk_frozen BK161.out 5
     go_wp2
     go_meet
     case rel => exact ⟨_, (true), (by first | rfl | (simp; done) | (simp [*]; done)), H', ⟨by first | omega | exact Nat.le_refl _⟩, ⟨by exact BK161.out⟩, ⟨by exact HB.out⟩⟩
    ·
     rw [if_neg c8] at H
     have c8b0 : decide (16384 < (l0_1.length : Int)) = false := decide_eq_false c8
     have c8b1 : decide (16384 < l0_1.length) = false := decide_eq_false (by omega)
     clear c8
     have H' := Aside0.mk H
     clear H
     have hcz10_0 : w3.cell? ⟨gb161, 0, none⟩ = some (.int .i64 a0_0) := (blk_cell BK161.out 0).trans rfl
     have hcz10_1 : w3.cell? ⟨gb161, 1, none⟩ = some (.slice A0_1 l0_1.length c0_1) := (blk_cell BK161.out 1).trans rfl
     have hcz10_2 : w3.cell? ⟨gb161, 2, none⟩ = some (.slice A0_2 l0_2.length c0_2) := (blk_cell BK161.out 2).trans rfl
     have hcz10_3 : w3.cell? ⟨gb161, 3, none⟩ = some (.slice A0_3 l0_3.length c0_3) := (blk_cell BK161.out 3).trans rfl
     have hcz10_4 : w3.cell? ⟨gb161, 4, none⟩ = some (.slice A0_4 l0_4.length c0_4) := (blk_cell BK161.out 4).trans rfl
     have hcz10_5 : w3.cell? ⟨gb161, 5, none⟩ = some (.slice A0_5 l0_5.length c0_5) := (blk_cell BK161.out 5).trans rfl
     have hfz10_0 := blk_frozen BK161.out 0
     have hfz10_1 := blk_frozen BK161.out 1
     have hfz10_2 := blk_frozen BK161.out 2
     have hfz10_3 := blk_frozen BK161.out 3
     have hfz10_4 := blk_frozen BK161.out 4
     have hfz10_5 := blk_frozen BK161.out 5
     go_wp2
     go_meet
     case rel => exact ⟨_, (decide ((l0_2.length : Int) > 16384)), (by first | rfl | (simp; done) | (simp [*]; done)), H', ⟨by first | omega | exact Nat.le_refl _⟩, ⟨by exact BK161.out⟩, ⟨by exact HB.out⟩⟩
 case rest =>
  clear HC2
  try clear c2
  try clear p2
  try clear c4
  try clear c4b0
  try clear c6
  try clear c6b0
  try clear c8
  try clear c8b0
  try clear c8b1
  try clear hcz10_0
  try clear hcz10_1
  try clear hcz10_2
  try clear hcz10_3
  try clear hcz10_4
  try clear hcz10_5
  try clear hcz5_0
  try clear hcz5_1
  try clear hcz5_2
  try clear hcz5_3
  try clear hcz5_4
  try clear hcz5_5
  try clear hcz7_0
  try clear hcz7_1
  try clear hcz7_2
  try clear hcz7_3
  try clear hcz7_4
  try clear hcz7_5
  try clear hcz9_0
  try clear hcz9_1
  try clear hcz9_2
  try clear hcz9_3
  try clear hcz9_4
  try clear hcz9_5
  try clear hfz10_0
  try clear hfz10_1
  try clear hfz10_2
  try clear hfz10_3
  try clear hfz10_4
  try clear hfz10_5
  try clear hfz5_0
  try clear hfz5_1
  try clear hfz5_2
  try clear hfz5_3
  try clear hfz5_4
  try clear hfz5_5
  try clear hfz7_0
  try clear hfz7_1
  try clear hfz7_2
  try clear hfz7_3
  try clear hfz7_4
  try clear hfz7_5
  try clear hfz9_0
  try clear hfz9_1
  try clear hfz9_2
  try clear hfz9_3
  try clear hfz9_4
  try clear hfz9_5
  obtain ⟨kq, x26_1, rfl, HA, HJ1, BK161, HB⟩ := hcut
  cases kq with
  | zero => exact absurd HA.out (by simp [inquestref03_May.j0])
  | succ kj1 =>
   have H := HA.out
   clear HA
   simp only [inquestref03_May.j0] at H
   by_cases c11 : x26_1 = true
   ·
    subst c11
    have H1 : (some false) = some r := by rw [if_pos rfl] at H; exact H
    clear H
    have H := H1
    clear H1
    obtain rfl := Option.some.inj H
    go_wp2
    go_ret
    exact ⟨by first | rfl | (simp [errW_none, errW_some] <;> rfl) | (simp [*, errW_none, errW_some] <;> rfl), by exact HB.out⟩
   ·
    replace c11 := Bool.eq_false_iff.mpr c11
    subst c11
    have H1 : (if (wrap64 ((wrap64 (a0_0 + (l0_1.length : Int))) + (l0_2.length : Int))) > 16384 then (some false) else (inquestref03_May.l0 kj1 (wrap64 ((wrap64 (a0_0 + (l0_1.length : Int))) + (l0_2.length : Int))) 0 a0_0 l0_1 l0_2 l0_3 l0_4 l0_5)) = some r := by rw [if_neg (show ¬ (false = true) by decide)] at H; exact H
    clear H
    have H := H1
    clear H1
    by_cases c12 : (wrap64 ((wrap64 (a0_0 + (l0_1.length : Int))) + (l0_2.length : Int))) > 16384
    ·
     rw [if_pos c12] at H
     have c12b0 : decide (16384 < (wrap64 ((wrap64 (a0_0 + (l0_1.length : Int))) + (l0_2.length : Int)))) = true := decide_eq_true c12
     clear c12
     obtain rfl := Option.some.inj H
     have hcz13_0 : wc.cell? ⟨gb161, 0, none⟩ = some (.int .i64 a0_0) := (blk_cell BK161.out 0).trans rfl
     have hcz13_1 : wc.cell? ⟨gb161, 1, none⟩ = some (.slice A0_1 l0_1.length c0_1) := (blk_cell BK161.out 1).trans rfl
     have hcz13_2 : wc.cell? ⟨gb161, 2, none⟩ = some (.slice A0_2 l0_2.length c0_2) := (blk_cell BK161.out 2).trans rfl
     have hcz13_3 : wc.cell? ⟨gb161, 3, none⟩ = some (.slice A0_3 l0_3.length c0_3) := (blk_cell BK161.out 3).trans rfl
     have hcz13_4 : wc.cell? ⟨gb161, 4, none⟩ = some (.slice A0_4 l0_4.length c0_4) := (blk_cell BK161.out 4).trans rfl
     have hcz13_5 : wc.cell? ⟨gb161, 5, none⟩ = some (.slice A0_5 l0_5.length c0_5) := (blk_cell BK161.out 5).trans rfl
     have hfz13_0 := blk_frozen BK161.out 0
     have hfz13_1 := blk_frozen BK161.out 1
     have hfz13_2 := blk_frozen BK161.out 2
     have hfz13_3 := blk_frozen BK161.out 3
     have hfz13_4 := blk_frozen BK161.out 4
     have hfz13_5 := blk_frozen BK161.out 5
     go_wp2
     go_ret
     exact ⟨by first | rfl | (simp [errW_none, errW_some] <;> rfl) | (simp [*, errW_none, errW_some] <;> rfl), by exact HB.out⟩
    ·
     rw [if_neg c12] at H
     have c12b0 : decide (16384 < (wrap64 ((wrap64 (a0_0 + (l0_1.length : Int))) + (l0_2.length : Int)))) = false := decide_eq_false c12
     clear c12
     have H' := Aside0.mk H
     clear H
     have hcz14_0 : wc.cell? ⟨gb161, 0, none⟩ = some (.int .i64 a0_0) := (blk_cell BK161.out 0).trans rfl
     have hcz14_1 : wc.cell? ⟨gb161, 1, none⟩ = some (.slice A0_1 l0_1.length c0_1) := (blk_cell BK161.out 1).trans rfl
     have hcz14_2 : wc.cell? ⟨gb161, 2, none⟩ = some (.slice A0_2 l0_2.length c0_2) := (blk_cell BK161.out 2).trans rfl
     have hcz14_3 : wc.cell? ⟨gb161, 3, none⟩ = some (.slice A0_3 l0_3.length c0_3) := (blk_cell BK161.out 3).trans rfl
     have hcz14_4 : wc.cell? ⟨gb161, 4, none⟩ = some (.slice A0_4 l0_4.length c0_4) := (blk_cell BK161.out 4).trans rfl
     have hcz14_5 : wc.cell? ⟨gb161, 5, none⟩ = some (.slice A0_5 l0_5.length c0_5) := (blk_cell BK161.out 5).trans rfl
     have hfz14_0 := blk_frozen BK161.out 0
     have hfz14_1 := blk_frozen BK161.out 1
     have hfz14_2 := blk_frozen BK161.out 2
     have hfz14_3 := blk_frozen BK161.out 3
     have hfz14_4 := blk_frozen BK161.out 4
     have hfz14_5 := blk_frozen BK161.out 5
     go_wp2
     go_loopg [4] kj1 (fun kq v4 w' => ∃ (x4_2 : Int), v4 = .int .i64 x4_2 ∧ Aside0 (inquestref03_May.l0 kq (wrap64 ((wrap64 (a0_0 + (l0_1.length : Int))) + (l0_2.length : Int))) x4_2 a0_0 l0_1 l0_2 l0_3 l0_4 l0_5 = some r) ∧ Aside0 (kq ≤ kj1) ∧ Aside0 (w'.heap[gb161]? = some (.cells #[.int .i64 a0_0, (.slice A0_1 l0_1.length c0_1), (.slice A0_2 l0_2.length c0_2), (.slice A0_3 l0_3.length c0_3), (.slice A0_4 l0_4.length c0_4), (.slice A0_5 l0_5.length c0_5)] 26 (0, 0))) ∧ Aside0 (Below w.heap.size w w'))
     case atStart => exact ⟨(0), (by first | rfl | (simp; done) | (simp [*]; done)), H', ⟨Nat.le_refl _⟩, ⟨by exact BK161.out⟩, ⟨by exact HB.out⟩⟩
     case round =>
      clear H'
      try clear c1
      try clear c2
      try clear p2
      try clear c4
      try clear c4b0
      try clear c6
      try clear c6b0
      try clear p6
      try clear c8
      try clear c8b0
      try clear c8b1
      try clear c11
      try clear c12
      try clear c12b0
      try clear hcz10_0
      try clear hcz10_1
      try clear hcz10_2
      try clear hcz10_3
      try clear hcz10_4
      try clear hcz10_5
      try clear hcz13_0
      try clear hcz13_1
      try clear hcz13_2
      try clear hcz13_3
      try clear hcz13_4
      try clear hcz13_5
      try clear hcz14_0
      try clear hcz14_1
      try clear hcz14_2
      try clear hcz14_3
      try clear hcz14_4
      try clear hcz14_5
      try clear hcz5_0
      try clear hcz5_1
      try clear hcz5_2
      try clear hcz5_3
      try clear hcz5_4
      try clear hcz5_5
      try clear hcz7_0
      try clear hcz7_1
      try clear hcz7_2
      try clear hcz7_3
      try clear hcz7_4
      try clear hcz7_5
      try clear hcz9_0
      try clear hcz9_1
      try clear hcz9_2
      try clear hcz9_3
      try clear hcz9_4
      try clear hcz9_5
      try clear hfz10_0
      try clear hfz10_1
      try clear hfz10_2
      try clear hfz10_3
      try clear hfz10_4
      try clear hfz10_5
      try clear hfz13_0
      try clear hfz13_1
      try clear hfz13_2
      try clear hfz13_3
      try clear hfz13_4
      try clear hfz13_5
      try clear hfz14_0
      try clear hfz14_1
      try clear hfz14_2
      try clear hfz14_3
      try clear hfz14_4
      try clear hfz14_5
      try clear hfz5_0
      try clear hfz5_1
      try clear hfz5_2
      try clear hfz5_3
      try clear hfz5_4
      try clear hfz5_5
      try clear hfz7_0
      try clear hfz7_1
      try clear hfz7_2
      try clear hfz7_3
      try clear hfz7_4
      try clear hfz7_5
      try clear hfz9_0
      try clear hfz9_1
      try clear hfz9_2
      try clear hfz9_3
      try clear hfz9_4
      try clear hfz9_5
      try clear p2
      obtain ⟨x4_2, rfl, HA, HK2, BK161, HB⟩ := hrel
      cases gk with
      | zero => exact absurd HA.out (by simp [inquestref03_May.l0])
      | succ k2 =>
       have H := HA.out
       clear HA
       simp only [inquestref03_May.l0] at H
       by_cases c15 : x4_2 < (l0_1.length : Int)
       ·
        rw [if_pos c15] at H
        have c15b0 : decide (x4_2 < (l0_1.length : Int)) = true := decide_eq_true c15
        clear c15
        by_cases c16 : 0 ≤ x4_2
        ·
         rw [if_pos c16] at H
         have c16b0 : decide (0 ≤ x4_2) = true := decide_eq_true c16
         clear c16
         by_cases c17 : ((Int.tdiv ((rd_T41 l0_1 x4_2).f0) 2) % 4294967296) > (wrap64 ((wrap64 (a0_0 + (l0_1.length : Int))) + (l0_2.length : Int)))
         ·
          rw [if_pos c17] at H
          have c17b0 : decide ((wrap64 ((wrap64 (a0_0 + (l0_1.length : Int))) + (l0_2.length : Int))) < ((Int.tdiv ((rd_T41 l0_1 x4_2).f0) 2) % 4294967296)) = true := decide_eq_true c17
          clear c17
          obtain rfl := Option.some.inj H
          have hcz18_0 : wr.cell? ⟨gb161, 0, none⟩ = some (.int .i64 a0_0) := (blk_cell BK161.out 0).trans rfl
          have hcz18_1 : wr.cell? ⟨gb161, 1, none⟩ = some (.slice A0_1 l0_1.length c0_1) := (blk_cell BK161.out 1).trans rfl
          have hcz18_2 : wr.cell? ⟨gb161, 2, none⟩ = some (.slice A0_2 l0_2.length c0_2) := (blk_cell BK161.out 2).trans rfl
          have hcz18_3 : wr.cell? ⟨gb161, 3, none⟩ = some (.slice A0_3 l0_3.length c0_3) := (blk_cell BK161.out 3).trans rfl
          have hcz18_4 : wr.cell? ⟨gb161, 4, none⟩ = some (.slice A0_4 l0_4.length c0_4) := (blk_cell BK161.out 4).trans rfl
          have hcz18_5 : wr.cell? ⟨gb161, 5, none⟩ = some (.slice A0_5 l0_5.length c0_5) := (blk_cell BK161.out 5).trans rfl
          have hfz18_0 := blk_frozen BK161.out 0
          have hfz18_1 := blk_frozen BK161.out 1
          have hfz18_2 := blk_frozen BK161.out 2
          have hfz18_3 := blk_frozen BK161.out 3
          have hfz18_4 := blk_frozen BK161.out 4
          have hfz18_5 := blk_frozen BK161.out 5
          have p162 : 0 ≤ (x4_2 : Int) := of_decide_eq_true (by first | (with_reducible assumption) | assumption)
          have q162 : x4_2 < (l0_1.length : Int) := of_decide_eq_true (by first | (with_reducible assumption) | assumption)
          obtain ⟨ad162, e162, hx162_0, hx162_1⟩ := at_T41 HR0_1.out x4_2 p162 q162
          cases e162
          replace hx162_0 := (HB.out.cell (World.block_lt_of_cell? w _ hx162_0)).trans hx162_0
          replace hx162_1 := (HB.out.cell (World.block_lt_of_cell? w _ hx162_1)).trans hx162_1
          replace p162 := eq_true p162
          replace q162 := eq_true q162
          go_wp2
          go_ret
          exact ⟨by first | rfl | (simp [errW_none, errW_some] <;> rfl) | (simp [*, errW_none, errW_some] <;> rfl), by exact HB.out⟩
         ·
          rw [if_neg c17] at H
          have c17b0 : decide ((wrap64 ((wrap64 (a0_0 + (l0_1.length : Int))) + (l0_2.length : Int))) < ((Int.tdiv ((rd_T41 l0_1 x4_2).f0) 2) % 4294967296)) = false := decide_eq_false c17
          clear c17
          by_cases c19 : ((rd_T41 l0_1 x4_2).f1) > 2
          ·
           rw [if_pos c19] at H
           have c19b0 : decide (2 < ((rd_T41 l0_1 x4_2).f1)) = true := decide_eq_true c19
           clear c19
           obtain rfl := Option.some.inj H
           have hcz20_0 : wr.cell? ⟨gb161, 0, none⟩ = some (.int .i64 a0_0) := (blk_cell BK161.out 0).trans rfl
           have hcz20_1 : wr.cell? ⟨gb161, 1, none⟩ = some (.slice A0_1 l0_1.length c0_1) := (blk_cell BK161.out 1).trans rfl
           have hcz20_2 : wr.cell? ⟨gb161, 2, none⟩ = some (.slice A0_2 l0_2.length c0_2) := (blk_cell BK161.out 2).trans rfl
           have hcz20_3 : wr.cell? ⟨gb161, 3, none⟩ = some (.slice A0_3 l0_3.length c0_3) := (blk_cell BK161.out 3).trans rfl
           have hcz20_4 : wr.cell? ⟨gb161, 4, none⟩ = some (.slice A0_4 l0_4.length c0_4) := (blk_cell BK161.out 4).trans rfl
           have hcz20_5 : wr.cell? ⟨gb161, 5, none⟩ = some (.slice A0_5 l0_5.length c0_5) := (blk_cell BK161.out 5).trans rfl
           have hfz20_0 := blk_frozen BK161.out 0
           have hfz20_1 := blk_frozen BK161.out 1
           have hfz20_2 := blk_frozen BK161.out 2
           have hfz20_3 := blk_frozen BK161.out 3
           have hfz20_4 := blk_frozen BK161.out 4
           have hfz20_5 := blk_frozen BK161.out 5
           have p162 : 0 ≤ (x4_2 : Int) := of_decide_eq_true (by first | (with_reducible assumption) | assumption)
           have q162 : x4_2 < (l0_1.length : Int) := of_decide_eq_true (by first | (with_reducible assumption) | assumption)
           obtain ⟨ad162, e162, hx162_0, hx162_1⟩ := at_T41 HR0_1.out x4_2 p162 q162
           cases e162
           replace hx162_0 := (HB.out.cell (World.block_lt_of_cell? w _ hx162_0)).trans hx162_0
           replace hx162_1 := (HB.out.cell (World.block_lt_of_cell? w _ hx162_1)).trans hx162_1
           replace p162 := eq_true p162
           replace q162 := eq_true q162
           have p163 : 0 ≤ (x4_2 : Int) := of_decide_eq_true (by first | (with_reducible assumption) | assumption)
           have q163 : x4_2 < (l0_1.length : Int) := of_decide_eq_true (by first | (with_reducible assumption) | assumption)
           obtain ⟨ad163, e163, hx163_0, hx163_1⟩ := at_T41 HR0_1.out x4_2 p163 q163
           obtain rfl : ad162 = ad163 := (by injection e163)
           replace hx163_0 := (HB.out.cell (World.block_lt_of_cell? w _ hx163_0)).trans hx163_0
           replace hx163_1 := (HB.out.cell (World.block_lt_of_cell? w _ hx163_1)).trans hx163_1
           replace p163 := eq_true p163
           replace q163 := eq_true q163
           go_wp2
           go_ret
           exact ⟨by first | rfl | (simp [errW_none, errW_some] <;> rfl) | (simp [*, errW_none, errW_some] <;> rfl), by exact HB.out⟩
          ·
           rw [if_neg c19] at H
           have c19b0 : decide (2 < ((rd_T41 l0_1 x4_2).f1)) = false := decide_eq_false c19
           clear c19
           have H' := Aside0.mk H
           clear H
           have hcz21_0 : wr.cell? ⟨gb161, 0, none⟩ = some (.int .i64 a0_0) := (blk_cell BK161.out 0).trans rfl
           have hcz21_1 : wr.cell? ⟨gb161, 1, none⟩ = some (.slice A0_1 l0_1.length c0_1) := (blk_cell BK161.out 1).trans rfl
           have hcz21_2 : wr.cell? ⟨gb161, 2, none⟩ = some (.slice A0_2 l0_2.length c0_2) := (blk_cell BK161.out 2).trans rfl
           have hcz21_3 : wr.cell? ⟨gb161, 3, none⟩ = some (.slice A0_3 l0_3.length c0_3) := (blk_cell BK161.out 3).trans rfl
           have hcz21_4 : wr.cell? ⟨gb161, 4, none⟩ = some (.slice A0_4 l0_4.length c0_4) := (blk_cell BK161.out 4).trans rfl
           have hcz21_5 : wr.cell? ⟨gb161, 5, none⟩ = some (.slice A0_5 l0_5.length c0_5) := (blk_cell BK161.out 5).trans rfl
           have hfz21_0 := blk_frozen BK161.out 0
           have hfz21_1 := blk_frozen BK161.out 1
           have hfz21_2 := blk_frozen BK161.out 2
           have hfz21_3 := blk_frozen BK161.out 3
           have hfz21_4 := blk_frozen BK161.out 4
           have hfz21_5 := blk_frozen BK161.out 5
           have p162 : 0 ≤ (x4_2 : Int) := of_decide_eq_true (by first | (with_reducible assumption) | assumption)
           have q162 : x4_2 < (l0_1.length : Int) := of_decide_eq_true (by first | (with_reducible assumption) | assumption)
           obtain ⟨ad162, e162, hx162_0, hx162_1⟩ := at_T41 HR0_1.out x4_2 p162 q162
           cases e162
           replace hx162_0 := (HB.out.cell (World.block_lt_of_cell? w _ hx162_0)).trans hx162_0
           replace hx162_1 := (HB.out.cell (World.block_lt_of_cell? w _ hx162_1)).trans hx162_1
           replace p162 := eq_true p162
           replace q162 := eq_true q162
           have p163 : 0 ≤ (x4_2 : Int) := of_decide_eq_true (by first | (with_reducible assumption) | assumption)
           have q163 : x4_2 < (l0_1.length : Int) := of_decide_eq_true (by first | (with_reducible assumption) | assumption)
           obtain ⟨ad163, e163, hx163_0, hx163_1⟩ := at_T41 HR0_1.out x4_2 p163 q163
           obtain rfl : ad162 = ad163 := (by injection e163)
           replace hx163_0 := (HB.out.cell (World.block_lt_of_cell? w _ hx163_0)).trans hx163_0
           replace hx163_1 := (HB.out.cell (World.block_lt_of_cell? w _ hx163_1)).trans hx163_1
           replace p163 := eq_true p163
           replace q163 := eq_true q163
           go_wp2
           go_roundg k2
           case measure => have := HJ1.out; have := HK2.out; omega
           case rel => exact ⟨(wrap64 (x4_2 + 1)), (by first | rfl | (simp; done) | (simp [*]; done)), H', ⟨by have := HJ1.out; have := HK2.out; omega⟩, ⟨by exact BK161.out⟩, ⟨by exact HB.out⟩⟩
        ·
         rw [if_neg c16] at H
         exact absurd H (by simp)
       ·
        rw [if_neg c15] at H
        have c15b0 : decide (x4_2 < (l0_1.length : Int)) = false := decide_eq_false c15
        clear c15
        have H' := Aside0.mk H
        clear H
        have hcz22_0 : wr.cell? ⟨gb161, 0, none⟩ = some (.int .i64 a0_0) := (blk_cell BK161.out 0).trans rfl
        have hcz22_1 : wr.cell? ⟨gb161, 1, none⟩ = some (.slice A0_1 l0_1.length c0_1) := (blk_cell BK161.out 1).trans rfl
        have hcz22_2 : wr.cell? ⟨gb161, 2, none⟩ = some (.slice A0_2 l0_2.length c0_2) := (blk_cell BK161.out 2).trans rfl
        have hcz22_3 : wr.cell? ⟨gb161, 3, none⟩ = some (.slice A0_3 l0_3.length c0_3) := (blk_cell BK161.out 3).trans rfl
        have hcz22_4 : wr.cell? ⟨gb161, 4, none⟩ = some (.slice A0_4 l0_4.length c0_4) := (blk_cell BK161.out 4).trans rfl
        have hcz22_5 : wr.cell? ⟨gb161, 5, none⟩ = some (.slice A0_5 l0_5.length c0_5) := (blk_cell BK161.out 5).trans rfl
        have hfz22_0 := blk_frozen BK161.out 0
        have hfz22_1 := blk_frozen BK161.out 1
        have hfz22_2 := blk_frozen BK161.out 2
        have hfz22_3 := blk_frozen BK161.out 3
        have hfz22_4 := blk_frozen BK161.out 4
        have hfz22_5 := blk_frozen BK161.out 5
        go_wp2
        go_loopg [5] k2 (fun kq v5 w' => ∃ (x5_3 : Int), v5 = .int .i64 x5_3 ∧ Aside0 (inquestref03_May.l1 kq (wrap64 ((wrap64 (a0_0 + (l0_1.length : Int))) + (l0_2.length : Int))) x5_3 a0_0 l0_1 l0_2 l0_3 l0_4 l0_5 = some r) ∧ Aside0 (kq ≤ k2) ∧ Aside0 (w'.heap[gb161]? = some (.cells #[.int .i64 a0_0, (.slice A0_1 l0_1.length c0_1), (.slice A0_2 l0_2.length c0_2), (.slice A0_3 l0_3.length c0_3), (.slice A0_4 l0_4.length c0_4), (.slice A0_5 l0_5.length c0_5)] 26 (0, 0))) ∧ Aside0 (Below w.heap.size w w'))
        case atStart => exact ⟨(0), (by first | rfl | (simp; done) | (simp [*]; done)), H', ⟨Nat.le_refl _⟩, ⟨by exact BK161.out⟩, ⟨by exact HB.out⟩⟩
        case round =>
         clear H'
         try clear c1
         try clear p1
         try clear q1
         try clear hx1
         try clear c2
         try clear p2
         try clear c4
         try clear c4b0
         try clear c6
         try clear c6b0
         try clear p6
         try clear c8
         try clear c8b0
         try clear c8b1
         try clear c11
         try clear c12
         try clear c12b0
         try clear c15
         try clear c15b0
         try clear c16
         try clear c16b0
         try clear p16
         try clear q16
         try clear hx16
         try clear c17
         try clear c17b0
         try clear c19
         try clear c19b0
         try clear hcz10_0
         try clear hcz10_1
         try clear hcz10_2
         try clear hcz10_3
         try clear hcz10_4
         try clear hcz10_5
         try clear hcz13_0
         try clear hcz13_1
         try clear hcz13_2
         try clear hcz13_3
         try clear hcz13_4
         try clear hcz13_5
         try clear hcz14_0
         try clear hcz14_1
         try clear hcz14_2
         try clear hcz14_3
         try clear hcz14_4
         try clear hcz14_5
         try clear hcz18_0
         try clear hcz18_1
         try clear hcz18_2
         try clear hcz18_3
         try clear hcz18_4
         try clear hcz18_5
         try clear hcz20_0
         try clear hcz20_1
         try clear hcz20_2
         try clear hcz20_3
         try clear hcz20_4
         try clear hcz20_5
         try clear hcz21_0
         try clear hcz21_1
         try clear hcz21_2
         try clear hcz21_3
         try clear hcz21_4
         try clear hcz21_5
         try clear hcz22_0
         try clear hcz22_1
         try clear hcz22_2
         try clear hcz22_3
         try clear hcz22_4
         try clear hcz22_5
         try clear hcz5_0
         try clear hcz5_1
         try clear hcz5_2
         try clear hcz5_3
         try clear hcz5_4
         try clear hcz5_5
         try clear hcz7_0
         try clear hcz7_1
         try clear hcz7_2
         try clear hcz7_3
         try clear hcz7_4
         try clear hcz7_5
         try clear hcz9_0
         try clear hcz9_1
         try clear hcz9_2
         try clear hcz9_3
         try clear hcz9_4
         try clear hcz9_5
         try clear hfz10_0
         try clear hfz10_1
         try clear hfz10_2
         try clear hfz10_3
         try clear hfz10_4
         try clear hfz10_5
         try clear hfz13_0
         try clear hfz13_1
         try clear hfz13_2
         try clear hfz13_3
         try clear hfz13_4
         try clear hfz13_5
         try clear hfz14_0
         try clear hfz14_1
         try clear hfz14_2
         try clear hfz14_3
         try clear hfz14_4
         try clear hfz14_5
         try clear hfz18_0
         try clear hfz18_1
         try clear hfz18_2
         try clear hfz18_3
         try clear hfz18_4
         try clear hfz18_5
         try clear hfz20_0
         try clear hfz20_1
         try clear hfz20_2
         try clear hfz20_3
         try clear hfz20_4
         try clear hfz20_5
         try clear hfz21_0
         try clear hfz21_1
         try clear hfz21_2
         try clear hfz21_3
         try clear hfz21_4
         try clear hfz21_5
         try clear hfz22_0
         try clear hfz22_1
         try clear hfz22_2
         try clear hfz22_3
         try clear hfz22_4
         try clear hfz22_5
         try clear hfz5_0
         try clear hfz5_1
         try clear hfz5_2
         try clear hfz5_3
         try clear hfz5_4
         try clear hfz5_5
         try clear hfz7_0
         try clear hfz7_1
         try clear hfz7_2
         try clear hfz7_3
         try clear hfz7_4
         try clear hfz7_5
         try clear hfz9_0
         try clear hfz9_1
         try clear hfz9_2
         try clear hfz9_3
         try clear hfz9_4
         try clear hfz9_5
         try clear hx162_0
         try clear hx162_1
         try clear hx163_0
         try clear hx163_1
         try clear p162
         try clear p163
         try clear p2
         try clear p6
         try clear q162
         try clear q163
         obtain ⟨x5_3, rfl, HA, HK3, BK161, HB⟩ := hrel
         cases gk with
         | zero => exact absurd HA.out (by simp [inquestref03_May.l1])
         | succ k3 =>
          have H := HA.out
          clear HA
          simp only [inquestref03_May.l1] at H
          by_cases c23 : x5_3 < (l0_2.length : Int)
          ·
           rw [if_pos c23] at H
           have c23b0 : decide (x5_3 < (l0_2.length : Int)) = true := decide_eq_true c23
           clear c23
           by_cases c24 : 0 ≤ x5_3
           ·
            rw [if_pos c24] at H
            have c24b0 : decide (0 ≤ x5_3) = true := decide_eq_true c24
            clear c24
            by_cases c25 : ((Int.tdiv ((rd_T68 l0_2 x5_3).f0) 2) % 4294967296) ≥ (wrap64 ((wrap64 ((wrap64 (a0_0 + (l0_1.length : Int))) + 1)) + x5_3))
            ·
             rw [if_pos c25] at H
             have c25b0 : decide ((wrap64 ((wrap64 ((wrap64 (a0_0 + (l0_1.length : Int))) + 1)) + x5_3)) ≤ ((Int.tdiv ((rd_T68 l0_2 x5_3).f0) 2) % 4294967296)) = true := decide_eq_true c25
             clear c25
             obtain rfl := Option.some.inj H
             have hcz26_0 : wr.cell? ⟨gb161, 0, none⟩ = some (.int .i64 a0_0) := (blk_cell BK161.out 0).trans rfl
             have hcz26_1 : wr.cell? ⟨gb161, 1, none⟩ = some (.slice A0_1 l0_1.length c0_1) := (blk_cell BK161.out 1).trans rfl
             have hcz26_2 : wr.cell? ⟨gb161, 2, none⟩ = some (.slice A0_2 l0_2.length c0_2) := (blk_cell BK161.out 2).trans rfl
             have hcz26_3 : wr.cell? ⟨gb161, 3, none⟩ = some (.slice A0_3 l0_3.length c0_3) := (blk_cell BK161.out 3).trans rfl
             have hcz26_4 : wr.cell? ⟨gb161, 4, none⟩ = some (.slice A0_4 l0_4.length c0_4) := (blk_cell BK161.out 4).trans rfl
             have hcz26_5 : wr.cell? ⟨gb161, 5, none⟩ = some (.slice A0_5 l0_5.length c0_5) := (blk_cell BK161.out 5).trans rfl
             have hfz26_0 := blk_frozen BK161.out 0
             have hfz26_1 := blk_frozen BK161.out 1
             have hfz26_2 := blk_frozen BK161.out 2
             have hfz26_3 := blk_frozen BK161.out 3
             have hfz26_4 := blk_frozen BK161.out 4
             have hfz26_5 := blk_frozen BK161.out 5
             have p164 : 0 ≤ (x5_3 : Int) := of_decide_eq_true (by first | (with_reducible assumption) | assumption)
             have q164 : x5_3 < (l0_2.length : Int) := of_decide_eq_true (by first | (with_reducible assumption) | assumption)
             obtain ⟨ad164, e164, hx164_0, hx164_1⟩ := at_T68 HR0_2.out x5_3 p164 q164
             cases e164
             replace hx164_0 := (HB.out.cell (World.block_lt_of_cell? w _ hx164_0)).trans hx164_0
             replace hx164_1 := (HB.out.cell (World.block_lt_of_cell? w _ hx164_1)).trans hx164_1
             replace p164 := eq_true p164
             replace q164 := eq_true q164
             go_wp2_with (first | ((with_reducible refine gate_dst (N := 6) rfl ?_); (try (refine gate_guard (by rfl) ?_; dsimp only)); refine box_event ?hg (N := 6) ?hd (cs := #[.int .u32 0, .int .u32 0]) (t := 68) ?hr ?_; (case hd => rfl); (case hg => rfl); (case hr => first | (go_simp; done) | (go_simp; rfl)); intro gb165 hg w27 hbox hb; have n0_ := Aside0.mk (blk_below (g := gb161) (o := .cells #[.int .i64 a0_0, .slice A0_1 l0_1.length c0_1, .slice (some ad164) l0_2.length c0_2, .slice A0_3 l0_3.length c0_3, .slice A0_4 l0_4.length c0_4, .slice A0_5 l0_5.length c0_5] 26 (0, 0)) (by exact BK161.out) hb); have n1_ := Aside0.mk (below_step (by exact HB.out) hb); have n2_ := Aside0.mk (hbox); have n3_ := Aside0.mk ((by rw [hg]; exact (below_size (by exact HB.out)) : w.heap.size ≤ gb165)); have n4_ := Aside0.mk ((by rw [hg]; exact (below_size (by exact HB.out)) : w.heap.size ≤ gb165)); have n5_ := Aside0.mk ((by rw [hg]; exact Nat.ne_of_lt (blk_lt (g := gb161) (o := .cells #[.int .i64 a0_0, .slice A0_1 l0_1.length c0_1, .slice (some ad164) l0_2.length c0_2, .slice A0_3 l0_3.length c0_3, .slice A0_4 l0_4.length c0_4, .slice A0_5 l0_5.length c0_5] 26 (0, 0)) (by exact BK161.out)) : gb161 ≠ gb165)); have n6_ := Aside0.mk ((by rw [hg]; exact Nat.ne_of_gt (blk_lt (g := gb161) (o := .cells #[.int .i64 a0_0, .slice A0_1 l0_1.length c0_1, .slice (some ad164) l0_2.length c0_2, .slice A0_3 l0_3.length c0_3, .slice A0_4 l0_4.length c0_4, .slice A0_5 l0_5.length c0_5] 26 (0, 0)) (by exact BK161.out)) : gb165 ≠ gb161)); clear BK161; clear HB; have BK161 := n0_; have HB := n1_; have BK165 := n2_; have GW165 := n3_; have GE165 := n4_; have NB161_165 := n5_; have NB165_161 := n6_; clear n0_ n1_ n2_ n3_ n4_ n5_ n6_; clear hb hbox hg; have hnb28 := NB165_161.out; have hnc28 := NB161_165.out; have hcz29_0 : w27.cell? ⟨gb165, 0, none⟩ = some (.int .u32 0) := (blk_cell BK165.out 0).trans rfl; have hcz29_1 : w27.cell? ⟨gb165, 1, none⟩ = some (.int .u32 0) := (blk_cell BK165.out 1).trans rfl; have hfz29_0 := blk_frozen BK165.out 0; have hfz29_1 := blk_frozen BK165.out 1; have hcz30_0 : w27.cell? ⟨gb161, 0, none⟩ = some (.int .i64 a0_0) := (blk_cell BK161.out 0).trans rfl; have hcz30_1 : w27.cell? ⟨gb161, 1, none⟩ = some (.slice A0_1 l0_1.length c0_1) := (blk_cell BK161.out 1).trans rfl; have hcz30_2 : w27.cell? ⟨gb161, 2, none⟩ = some (.slice (some ad164) l0_2.length c0_2) := (blk_cell BK161.out 2).trans rfl; have hcz30_3 : w27.cell? ⟨gb161, 3, none⟩ = some (.slice A0_3 l0_3.length c0_3) := (blk_cell BK161.out 3).trans rfl; have hcz30_4 : w27.cell? ⟨gb161, 4, none⟩ = some (.slice A0_4 l0_4.length c0_4) := (blk_cell BK161.out 4).trans rfl; have hcz30_5 : w27.cell? ⟨gb161, 5, none⟩ = some (.slice A0_5 l0_5.length c0_5) := (blk_cell BK161.out 5).trans rfl; have hfz30_0 := blk_frozen BK161.out 0; have hfz30_1 := blk_frozen BK161.out 1; have hfz30_2 := blk_frozen BK161.out 2; have hfz30_3 := blk_frozen BK161.out 3; have hfz30_4 := blk_frozen BK161.out 4; have hfz30_5 := blk_frozen BK161.out 5))
             go_ret
             exact ⟨by first | rfl | (simp [errW_none, errW_some] <;> rfl) | (simp [*, errW_none, errW_some] <;> rfl), by repeat (first | (with_reducible first | exact HB.out | apply below_alloc | apply pw_below_drewN | apply below_drew1 | refine below_set ?_ GE161.out | refine below_set ?_ GE165.out) | exact HB.out)⟩
            ·
             rw [if_neg c25] at H
             have c25b0 : decide ((wrap64 ((wrap64 ((wrap64 (a0_0 + (l0_1.length : Int))) + 1)) + x5_3)) ≤ ((Int.tdiv ((rd_T68 l0_2 x5_3).f0) 2) % 4294967296)) = false := decide_eq_false c25
             clear c25
             by_cases c31 : ((rd_T68 l0_2 x5_3).f0) < ((rd_T68 l0_2 x5_3).f1)
             ·
              rw [if_pos c31] at H
              have c31b0 : decide (((rd_T68 l0_2 x5_3).f0) < ((rd_T68 l0_2 x5_3).f1)) = true := decide_eq_true c31
              clear c31
              obtain rfl := Option.some.inj H
              have hcz32_0 : wr.cell? ⟨gb161, 0, none⟩ = some (.int .i64 a0_0) := (blk_cell BK161.out 0).trans rfl
              have hcz32_1 : wr.cell? ⟨gb161, 1, none⟩ = some (.slice A0_1 l0_1.length c0_1) := (blk_cell BK161.out 1).trans rfl
              have hcz32_2 : wr.cell? ⟨gb161, 2, none⟩ = some (.slice A0_2 l0_2.length c0_2) := (blk_cell BK161.out 2).trans rfl
              have hcz32_3 : wr.cell? ⟨gb161, 3, none⟩ = some (.slice A0_3 l0_3.length c0_3) := (blk_cell BK161.out 3).trans rfl
              have hcz32_4 : wr.cell? ⟨gb161, 4, none⟩ = some (.slice A0_4 l0_4.length c0_4) := (blk_cell BK161.out 4).trans rfl
              have hcz32_5 : wr.cell? ⟨gb161, 5, none⟩ = some (.slice A0_5 l0_5.length c0_5) := (blk_cell BK161.out 5).trans rfl
              have hfz32_0 := blk_frozen BK161.out 0
              have hfz32_1 := blk_frozen BK161.out 1
              have hfz32_2 := blk_frozen BK161.out 2
              have hfz32_3 := blk_frozen BK161.out 3
              have hfz32_4 := blk_frozen BK161.out 4
              have hfz32_5 := blk_frozen BK161.out 5
              have p164 : 0 ≤ (x5_3 : Int) := of_decide_eq_true (by first | (with_reducible assumption) | assumption)
              have q164 : x5_3 < (l0_2.length : Int) := of_decide_eq_true (by first | (with_reducible assumption) | assumption)
              obtain ⟨ad164, e164, hx164_0, hx164_1⟩ := at_T68 HR0_2.out x5_3 p164 q164
              cases e164
              replace hx164_0 := (HB.out.cell (World.block_lt_of_cell? w _ hx164_0)).trans hx164_0
              replace hx164_1 := (HB.out.cell (World.block_lt_of_cell? w _ hx164_1)).trans hx164_1
              replace p164 := eq_true p164
              replace q164 := eq_true q164
              go_wp2_with (first | ((with_reducible refine gate_dst (N := 6) rfl ?_); (try (refine gate_guard (by rfl) ?_; dsimp only)); refine box_event ?hg (N := 6) ?hd (cs := #[.int .u32 0, .int .u32 0]) (t := 68) ?hr ?_; (case hd => rfl); (case hg => rfl); (case hr => first | (go_simp; done) | (go_simp; rfl)); intro gb165 hg w33 hbox hb; have n0_ := Aside0.mk (blk_below (g := gb161) (o := .cells #[.int .i64 a0_0, .slice A0_1 l0_1.length c0_1, .slice (some ad164) l0_2.length c0_2, .slice A0_3 l0_3.length c0_3, .slice A0_4 l0_4.length c0_4, .slice A0_5 l0_5.length c0_5] 26 (0, 0)) (by exact BK161.out) hb); have n1_ := Aside0.mk (below_step (by exact HB.out) hb); have n2_ := Aside0.mk (hbox); have n3_ := Aside0.mk ((by rw [hg]; exact (below_size (by exact HB.out)) : w.heap.size ≤ gb165)); have n4_ := Aside0.mk ((by rw [hg]; exact (below_size (by exact HB.out)) : w.heap.size ≤ gb165)); have n5_ := Aside0.mk ((by rw [hg]; exact Nat.ne_of_lt (blk_lt (g := gb161) (o := .cells #[.int .i64 a0_0, .slice A0_1 l0_1.length c0_1, .slice (some ad164) l0_2.length c0_2, .slice A0_3 l0_3.length c0_3, .slice A0_4 l0_4.length c0_4, .slice A0_5 l0_5.length c0_5] 26 (0, 0)) (by exact BK161.out)) : gb161 ≠ gb165)); have n6_ := Aside0.mk ((by rw [hg]; exact Nat.ne_of_gt (blk_lt (g := gb161) (o := .cells #[.int .i64 a0_0, .slice A0_1 l0_1.length c0_1, .slice (some ad164) l0_2.length c0_2, .slice A0_3 l0_3.length c0_3, .slice A0_4 l0_4.length c0_4, .slice A0_5 l0_5.length c0_5] 26 (0, 0)) (by exact BK161.out)) : gb165 ≠ gb161)); clear BK161; clear HB; have BK161 := n0_; have HB := n1_; have BK165 := n2_; have GW165 := n3_; have GE165 := n4_; have NB161_165 := n5_; have NB165_161 := n6_; clear n0_ n1_ n2_ n3_ n4_ n5_ n6_; clear hb hbox hg; have hnb34 := NB165_161.out; have hnc34 := NB161_165.out; have hcz35_0 : w33.cell? ⟨gb165, 0, none⟩ = some (.int .u32 0) := (blk_cell BK165.out 0).trans rfl; have hcz35_1 : w33.cell? ⟨gb165, 1, none⟩ = some (.int .u32 0) := (blk_cell BK165.out 1).trans rfl; have hfz35_0 := blk_frozen BK165.out 0; have hfz35_1 := blk_frozen BK165.out 1; have hcz36_0 : w33.cell? ⟨gb161, 0, none⟩ = some (.int .i64 a0_0) := (blk_cell BK161.out 0).trans rfl; have hcz36_1 : w33.cell? ⟨gb161, 1, none⟩ = some (.slice A0_1 l0_1.length c0_1) := (blk_cell BK161.out 1).trans rfl; have hcz36_2 : w33.cell? ⟨gb161, 2, none⟩ = some (.slice (some ad164) l0_2.length c0_2) := (blk_cell BK161.out 2).trans rfl; have hcz36_3 : w33.cell? ⟨gb161, 3, none⟩ = some (.slice A0_3 l0_3.length c0_3) := (blk_cell BK161.out 3).trans rfl; have hcz36_4 : w33.cell? ⟨gb161, 4, none⟩ = some (.slice A0_4 l0_4.length c0_4) := (blk_cell BK161.out 4).trans rfl; have hcz36_5 : w33.cell? ⟨gb161, 5, none⟩ = some (.slice A0_5 l0_5.length c0_5) := (blk_cell BK161.out 5).trans rfl; have hfz36_0 := blk_frozen BK161.out 0; have hfz36_1 := blk_frozen BK161.out 1; have hfz36_2 := blk_frozen BK161.out 2; have hfz36_3 := blk_frozen BK161.out 3; have hfz36_4 := blk_frozen BK161.out 4; have hfz36_5 := blk_frozen BK161.out 5))
              go_ret
              exact ⟨by first | rfl | (simp [errW_none, errW_some] <;> rfl) | (simp [*, errW_none, errW_some] <;> rfl), by repeat (first | (with_reducible first | exact HB.out | apply below_alloc | apply pw_below_drewN | apply below_drew1 | refine below_set ?_ GE161.out | refine below_set ?_ GE165.out) | exact HB.out)⟩
             ·
              rw [if_neg c31] at H
              have c31b0 : decide (((rd_T68 l0_2 x5_3).f0) < ((rd_T68 l0_2 x5_3).f1)) = false := decide_eq_false c31
              clear c31
              have H' := Aside0.mk H
              clear H
              have hcz37_0 : wr.cell? ⟨gb161, 0, none⟩ = some (.int .i64 a0_0) := (blk_cell BK161.out 0).trans rfl
              have hcz37_1 : wr.cell? ⟨gb161, 1, none⟩ = some (.slice A0_1 l0_1.length c0_1) := (blk_cell BK161.out 1).trans rfl
              have hcz37_2 : wr.cell? ⟨gb161, 2, none⟩ = some (.slice A0_2 l0_2.length c0_2) := (blk_cell BK161.out 2).trans rfl
              have hcz37_3 : wr.cell? ⟨gb161, 3, none⟩ = some (.slice A0_3 l0_3.length c0_3) := (blk_cell BK161.out 3).trans rfl
              have hcz37_4 : wr.cell? ⟨gb161, 4, none⟩ = some (.slice A0_4 l0_4.length c0_4) := (blk_cell BK161.out 4).trans rfl
              have hcz37_5 : wr.cell? ⟨gb161, 5, none⟩ = some (.slice A0_5 l0_5.length c0_5) := (blk_cell BK161.out 5).trans rfl
              have hfz37_0 := blk_frozen BK161.out 0
              have hfz37_1 := blk_frozen BK161.out 1
              have hfz37_2 := blk_frozen BK161.out 2
              have hfz37_3 := blk_frozen BK161.out 3
              have hfz37_4 := blk_frozen BK161.out 4
              have hfz37_5 := blk_frozen BK161.out 5
              have p164 : 0 ≤ (x5_3 : Int) := of_decide_eq_true (by first | (with_reducible assumption) | assumption)
              have q164 : x5_3 < (l0_2.length : Int) := of_decide_eq_true (by first | (with_reducible assumption) | assumption)
              obtain ⟨ad164, e164, hx164_0, hx164_1⟩ := at_T68 HR0_2.out x5_3 p164 q164
              cases e164
              replace hx164_0 := (HB.out.cell (World.block_lt_of_cell? w _ hx164_0)).trans hx164_0
              replace hx164_1 := (HB.out.cell (World.block_lt_of_cell? w _ hx164_1)).trans hx164_1
              replace p164 := eq_true p164
              replace q164 := eq_true q164
              go_wp2_with (first | ((with_reducible refine gate_dst (N := 6) rfl ?_); (try (refine gate_guard (by rfl) ?_; dsimp only)); refine box_event ?hg (N := 6) ?hd (cs := #[.int .u32 0, .int .u32 0]) (t := 68) ?hr ?_; (case hd => rfl); (case hg => rfl); (case hr => first | (go_simp; done) | (go_simp; rfl)); intro gb165 hg w38 hbox hb; have n0_ := Aside0.mk (blk_below (g := gb161) (o := .cells #[.int .i64 a0_0, .slice A0_1 l0_1.length c0_1, .slice (some ad164) l0_2.length c0_2, .slice A0_3 l0_3.length c0_3, .slice A0_4 l0_4.length c0_4, .slice A0_5 l0_5.length c0_5] 26 (0, 0)) (by exact BK161.out) hb); have n1_ := Aside0.mk (below_step (by exact HB.out) hb); have n2_ := Aside0.mk (hbox); have n3_ := Aside0.mk ((by rw [hg]; exact (below_size (by exact HB.out)) : w.heap.size ≤ gb165)); have n4_ := Aside0.mk ((by rw [hg]; exact (below_size (by exact HB.out)) : w.heap.size ≤ gb165)); have n5_ := Aside0.mk ((by rw [hg]; exact Nat.ne_of_lt (blk_lt (g := gb161) (o := .cells #[.int .i64 a0_0, .slice A0_1 l0_1.length c0_1, .slice (some ad164) l0_2.length c0_2, .slice A0_3 l0_3.length c0_3, .slice A0_4 l0_4.length c0_4, .slice A0_5 l0_5.length c0_5] 26 (0, 0)) (by exact BK161.out)) : gb161 ≠ gb165)); have n6_ := Aside0.mk ((by rw [hg]; exact Nat.ne_of_gt (blk_lt (g := gb161) (o := .cells #[.int .i64 a0_0, .slice A0_1 l0_1.length c0_1, .slice (some ad164) l0_2.length c0_2, .slice A0_3 l0_3.length c0_3, .slice A0_4 l0_4.length c0_4, .slice A0_5 l0_5.length c0_5] 26 (0, 0)) (by exact BK161.out)) : gb165 ≠ gb161)); clear BK161; clear HB; have BK161 := n0_; have HB := n1_; have BK165 := n2_; have GW165 := n3_; have GE165 := n4_; have NB161_165 := n5_; have NB165_161 := n6_; clear n0_ n1_ n2_ n3_ n4_ n5_ n6_; clear hb hbox hg; have hnb39 := NB165_161.out; have hnc39 := NB161_165.out; have hcz40_0 : w38.cell? ⟨gb165, 0, none⟩ = some (.int .u32 0) := (blk_cell BK165.out 0).trans rfl; have hcz40_1 : w38.cell? ⟨gb165, 1, none⟩ = some (.int .u32 0) := (blk_cell BK165.out 1).trans rfl; have hfz40_0 := blk_frozen BK165.out 0; have hfz40_1 := blk_frozen BK165.out 1; have hcz41_0 : w38.cell? ⟨gb161, 0, none⟩ = some (.int .i64 a0_0) := (blk_cell BK161.out 0).trans rfl; have hcz41_1 : w38.cell? ⟨gb161, 1, none⟩ = some (.slice A0_1 l0_1.length c0_1) := (blk_cell BK161.out 1).trans rfl; have hcz41_2 : w38.cell? ⟨gb161, 2, none⟩ = some (.slice (some ad164) l0_2.length c0_2) := (blk_cell BK161.out 2).trans rfl; have hcz41_3 : w38.cell? ⟨gb161, 3, none⟩ = some (.slice A0_3 l0_3.length c0_3) := (blk_cell BK161.out 3).trans rfl; have hcz41_4 : w38.cell? ⟨gb161, 4, none⟩ = some (.slice A0_4 l0_4.length c0_4) := (blk_cell BK161.out 4).trans rfl; have hcz41_5 : w38.cell? ⟨gb161, 5, none⟩ = some (.slice A0_5 l0_5.length c0_5) := (blk_cell BK161.out 5).trans rfl; have hfz41_0 := blk_frozen BK161.out 0; have hfz41_1 := blk_frozen BK161.out 1; have hfz41_2 := blk_frozen BK161.out 2; have hfz41_3 := blk_frozen BK161.out 3; have hfz41_4 := blk_frozen BK161.out 4; have hfz41_5 := blk_frozen BK161.out 5))
              go_roundg k3
              case measure => have := HJ1.out; have := HK2.out; have := HK3.out; omega
              case rel => exact ⟨(wrap64 (x5_3 + 1)), (by first | rfl | (simp; done) | (simp [*]; done)), H', ⟨by have := HJ1.out; have := HK2.out; have := HK3.out; omega⟩, ⟨by (with_reducible repeat (first | refine blk_drewN ?_ _ | refine blk_drew ?_ | refine blk_alloc ?_ _)); refine blk_far ?_ NB161_165.out _; (with_reducible repeat (first | refine blk_drewN ?_ _ | refine blk_drew ?_ | refine blk_alloc ?_ _)); refine blk_far ?_ NB161_165.out _; (with_reducible repeat (first | refine blk_drewN ?_ _ | refine blk_drew ?_ | refine blk_alloc ?_ _)); exact BK161.out⟩, ⟨by repeat (first | (with_reducible first | exact HB.out | apply below_alloc | apply pw_below_drewN | apply below_drew1 | refine below_set ?_ GE161.out | refine below_set ?_ GE165.out) | exact HB.out)⟩⟩
           ·
            rw [if_neg c24] at H
            exact absurd H (by simp)
          ·
           rw [if_neg c23] at H
           have c23b0 : decide (x5_3 < (l0_2.length : Int)) = false := decide_eq_false c23
           clear c23
           replace H := Option.bind_eq_some_iff.mp H
           obtain ⟨t166, A420, H⟩ := H
           replace H : (if t166 = true then ((inquestref03_lits.f k3 l0_4 (wrap64 ((wrap64 (a0_0 + (l0_1.length : Int))) + (l0_2.length : Int)))).bind fun t167 => (if t167 = true then ((inquestref03_lits.f k3 l0_5 (wrap64 ((wrap64 (a0_0 + (l0_1.length : Int))) + (l0_2.length : Int)))).bind fun t168 => (some t168)) else (some false))) else (some false)) = some r := H
           have A42 := Aside0.mk A420
           clear A420
           by_cases c43 : t166 = true
           ·
            subst c43
            have H1 : ((inquestref03_lits.f k3 l0_4 (wrap64 ((wrap64 (a0_0 + (l0_1.length : Int))) + (l0_2.length : Int)))).bind fun t167 => (if t167 = true then ((inquestref03_lits.f k3 l0_5 (wrap64 ((wrap64 (a0_0 + (l0_1.length : Int))) + (l0_2.length : Int)))).bind fun t168 => (some t168)) else (some false))) = some r := by rw [if_pos rfl] at H; exact H
            clear H
            have H := H1
            clear H1
            replace H := Option.bind_eq_some_iff.mp H
            obtain ⟨t167, A440, H⟩ := H
            replace H : (if t167 = true then ((inquestref03_lits.f k3 l0_5 (wrap64 ((wrap64 (a0_0 + (l0_1.length : Int))) + (l0_2.length : Int)))).bind fun t168 => (some t168)) else (some false)) = some r := H
            have A44 := Aside0.mk A440
            clear A440
            by_cases c45 : t167 = true
            ·
             subst c45
             have H1 : ((inquestref03_lits.f k3 l0_5 (wrap64 ((wrap64 (a0_0 + (l0_1.length : Int))) + (l0_2.length : Int)))).bind fun t168 => (some t168)) = some r := by rw [if_pos rfl] at H; exact H
             clear H
             have H := H1
             clear H1
             replace H := Option.bind_eq_some_iff.mp H
             obtain ⟨t168, A460, H⟩ := H
             replace H : (some t168) = some r := H
             have A46 := Aside0.mk A460
             clear A460
             obtain rfl := Option.some.inj H
             have hcz47_0 : wr.cell? ⟨gb161, 0, none⟩ = some (.int .i64 a0_0) := (blk_cell BK161.out 0).trans rfl
             have hcz47_1 : wr.cell? ⟨gb161, 1, none⟩ = some (.slice A0_1 l0_1.length c0_1) := (blk_cell BK161.out 1).trans rfl
             have hcz47_2 : wr.cell? ⟨gb161, 2, none⟩ = some (.slice A0_2 l0_2.length c0_2) := (blk_cell BK161.out 2).trans rfl
             have hcz47_3 : wr.cell? ⟨gb161, 3, none⟩ = some (.slice A0_3 l0_3.length c0_3) := (blk_cell BK161.out 3).trans rfl
             have hcz47_4 : wr.cell? ⟨gb161, 4, none⟩ = some (.slice A0_4 l0_4.length c0_4) := (blk_cell BK161.out 4).trans rfl
             have hcz47_5 : wr.cell? ⟨gb161, 5, none⟩ = some (.slice A0_5 l0_5.length c0_5) := (blk_cell BK161.out 5).trans rfl
             have hfz47_0 := blk_frozen BK161.out 0
             have hfz47_1 := blk_frozen BK161.out 1
             have hfz47_2 := blk_frozen BK161.out 2
             have hfz47_3 := blk_frozen BK161.out 3
             have hfz47_4 := blk_frozen BK161.out 4
             have hfz47_5 := blk_frozen BK161.out 5
             go_wp2_with (first | ((with_reducible refine gate_callee (f := 91) rfl ?_); refine goesL_ (some 101) rfl rfl Try.func91 (by kernel_rfl) rfl #[.slice A0_3 l0_3.length c0_3, .int .i64 (wrap64 ((wrap64 (a0_0 + (l0_1.length : Int))) + (l0_2.length : Int)))] rfl (by (try simp only [List.map_toArray, List.map_cons, List.map_nil]); first | done | rfl | (simp only [List.length_drop, List.length_take]; rfl)) ?_; (with_reducible refine (inquestref03_lits.calls k3 _ _ l0_3 (wrap64 ((wrap64 (a0_0 + (l0_1.length : Int))) + (l0_2.length : Int))) true _ ?side1 ?side2 A42.out).mono ?_); (case side1 => exact (Kd.C_below HR0_3.out HB.out)); (case side2 => exact HC0_3.out); rintro e w' ⟨rfl, ⟨nd, rfl⟩⟩; refine ⟨_, rfl, ?_⟩) | (go_at_call 91; (with_reducible refine (inquestref03_lits.calls k3 _ _ l0_4 (wrap64 ((wrap64 (a0_0 + (l0_1.length : Int))) + (l0_2.length : Int))) true _ ?side1 ?side2 A44.out).mono ?_); (case side1 => repeat (first | exact (Kd.C_below HR0_4.out (by exact HB.out)) | (with_reducible refine Kd.C_alloc ?_ _) | (with_reducible refine Kd.C_drewN ?_ _) | (with_reducible refine Kd.C_drew ?_))); (case side2 => exact HC0_4.out); rintro e w' ⟨rfl, ⟨nd, rfl⟩⟩) | (go_at_call 91; (with_reducible refine (inquestref03_lits.calls k3 _ _ l0_5 (wrap64 ((wrap64 (a0_0 + (l0_1.length : Int))) + (l0_2.length : Int))) t168 _ ?side1 ?side2 A46.out).mono ?_); (case side1 => repeat (first | exact (Kd.C_below HR0_5.out (by exact HB.out)) | (with_reducible refine Kd.C_alloc ?_ _) | (with_reducible refine Kd.C_drewN ?_ _) | (with_reducible refine Kd.C_drew ?_))); (case side2 => exact HC0_5.out); rintro e w' ⟨rfl, ⟨nd, rfl⟩⟩))
             go_ret
             exact ⟨by first | rfl | (simp [errW_none, errW_some] <;> rfl) | (simp [*, errW_none, errW_some] <;> rfl), by repeat (first | (with_reducible first | exact HB.out | apply below_alloc | apply pw_below_drewN | apply below_drew1 | refine below_set ?_ GE161.out) | exact HB.out)⟩
            ·
             replace c45 := Bool.eq_false_iff.mpr c45
             subst c45
             have H1 : (some false) = some r := by rw [if_neg (show ¬ (false = true) by decide)] at H; exact H
             clear H
             have H := H1
             clear H1
             obtain rfl := Option.some.inj H
             have hcz48_0 : wr.cell? ⟨gb161, 0, none⟩ = some (.int .i64 a0_0) := (blk_cell BK161.out 0).trans rfl
             have hcz48_1 : wr.cell? ⟨gb161, 1, none⟩ = some (.slice A0_1 l0_1.length c0_1) := (blk_cell BK161.out 1).trans rfl
             have hcz48_2 : wr.cell? ⟨gb161, 2, none⟩ = some (.slice A0_2 l0_2.length c0_2) := (blk_cell BK161.out 2).trans rfl
             have hcz48_3 : wr.cell? ⟨gb161, 3, none⟩ = some (.slice A0_3 l0_3.length c0_3) := (blk_cell BK161.out 3).trans rfl
             have hcz48_4 : wr.cell? ⟨gb161, 4, none⟩ = some (.slice A0_4 l0_4.length c0_4) := (blk_cell BK161.out 4).trans rfl
             have hcz48_5 : wr.cell? ⟨gb161, 5, none⟩ = some (.slice A0_5 l0_5.length c0_5) := (blk_cell BK161.out 5).trans rfl
             have hfz48_0 := blk_frozen BK161.out 0
             have hfz48_1 := blk_frozen BK161.out 1
             have hfz48_2 := blk_frozen BK161.out 2
             have hfz48_3 := blk_frozen BK161.out 3
             have hfz48_4 := blk_frozen BK161.out 4
             have hfz48_5 := blk_frozen BK161.out 5
             go_wp2_with (first | ((with_reducible refine gate_callee (f := 91) rfl ?_); refine goesL_ (some 101) rfl rfl Try.func91 (by kernel_rfl) rfl #[.slice A0_3 l0_3.length c0_3, .int .i64 (wrap64 ((wrap64 (a0_0 + (l0_1.length : Int))) + (l0_2.length : Int)))] rfl (by (try simp only [List.map_toArray, List.map_cons, List.map_nil]); first | done | rfl | (simp only [List.length_drop, List.length_take]; rfl)) ?_; (with_reducible refine (inquestref03_lits.calls k3 _ _ l0_3 (wrap64 ((wrap64 (a0_0 + (l0_1.length : Int))) + (l0_2.length : Int))) true _ ?side1 ?side2 A42.out).mono ?_); (case side1 => exact (Kd.C_below HR0_3.out HB.out)); (case side2 => exact HC0_3.out); rintro e w' ⟨rfl, ⟨nd, rfl⟩⟩; refine ⟨_, rfl, ?_⟩) | (go_at_call 91; (with_reducible refine (inquestref03_lits.calls k3 _ _ l0_4 (wrap64 ((wrap64 (a0_0 + (l0_1.length : Int))) + (l0_2.length : Int))) false _ ?side1 ?side2 A44.out).mono ?_); (case side1 => repeat (first | exact (Kd.C_below HR0_4.out (by exact HB.out)) | (with_reducible refine Kd.C_alloc ?_ _) | (with_reducible refine Kd.C_drewN ?_ _) | (with_reducible refine Kd.C_drew ?_))); (case side2 => exact HC0_4.out); rintro e w' ⟨rfl, ⟨nd, rfl⟩⟩))
             go_ret
             exact ⟨by first | rfl | (simp [errW_none, errW_some] <;> rfl) | (simp [*, errW_none, errW_some] <;> rfl), by repeat (first | (with_reducible first | exact HB.out | apply below_alloc | apply pw_below_drewN | apply below_drew1 | refine below_set ?_ GE161.out) | exact HB.out)⟩
           ·
            replace c43 := Bool.eq_false_iff.mpr c43
            subst c43
            have H1 : (some false) = some r := by rw [if_neg (show ¬ (false = true) by decide)] at H; exact H
            clear H
            have H := H1
            clear H1
            obtain rfl := Option.some.inj H
            have hcz49_0 : wr.cell? ⟨gb161, 0, none⟩ = some (.int .i64 a0_0) := (blk_cell BK161.out 0).trans rfl
            have hcz49_1 : wr.cell? ⟨gb161, 1, none⟩ = some (.slice A0_1 l0_1.length c0_1) := (blk_cell BK161.out 1).trans rfl
            have hcz49_2 : wr.cell? ⟨gb161, 2, none⟩ = some (.slice A0_2 l0_2.length c0_2) := (blk_cell BK161.out 2).trans rfl
            have hcz49_3 : wr.cell? ⟨gb161, 3, none⟩ = some (.slice A0_3 l0_3.length c0_3) := (blk_cell BK161.out 3).trans rfl
            have hcz49_4 : wr.cell? ⟨gb161, 4, none⟩ = some (.slice A0_4 l0_4.length c0_4) := (blk_cell BK161.out 4).trans rfl
            have hcz49_5 : wr.cell? ⟨gb161, 5, none⟩ = some (.slice A0_5 l0_5.length c0_5) := (blk_cell BK161.out 5).trans rfl
            have hfz49_0 := blk_frozen BK161.out 0
            have hfz49_1 := blk_frozen BK161.out 1
            have hfz49_2 := blk_frozen BK161.out 2
            have hfz49_3 := blk_frozen BK161.out 3
            have hfz49_4 := blk_frozen BK161.out 4
            have hfz49_5 := blk_frozen BK161.out 5
            go_wp2_with (first | ((with_reducible refine gate_callee (f := 91) rfl ?_); refine goesL_ (some 101) rfl rfl Try.func91 (by kernel_rfl) rfl #[.slice A0_3 l0_3.length c0_3, .int .i64 (wrap64 ((wrap64 (a0_0 + (l0_1.length : Int))) + (l0_2.length : Int)))] rfl (by (try simp only [List.map_toArray, List.map_cons, List.map_nil]); first | done | rfl | (simp only [List.length_drop, List.length_take]; rfl)) ?_; (with_reducible refine (inquestref03_lits.calls k3 _ _ l0_3 (wrap64 ((wrap64 (a0_0 + (l0_1.length : Int))) + (l0_2.length : Int))) false _ ?side1 ?side2 A42.out).mono ?_); (case side1 => exact (Kd.C_below HR0_3.out HB.out)); (case side2 => exact HC0_3.out); rintro e w' ⟨rfl, ⟨nd, rfl⟩⟩; refine ⟨_, rfl, ?_⟩))
            go_ret
            exact ⟨by first | rfl | (simp [errW_none, errW_some] <;> rfl) | (simp [*, errW_none, errW_some] <;> rfl), by repeat (first | (with_reducible first | exact HB.out | apply below_alloc | apply pw_below_drewN | apply below_drew1 | refine below_set ?_ GE161.out) | exact HB.out)⟩
end Go.Proofs.Yteiiodlgdbiimaa.F
end
section
namespace Go.Proofs.Yteiiodlgdbiimaa.F
open Go.RowKit Go.Proofs.YteiiodlgdbiimaaW.PrintWords Go.Proofs.YteiiodlgdbiimaaW.PrintLast Go.Proofs.YteiiodlgdbiimaaW.PrintMore
attribute [local go_sem] max2_int min2_int max_two min_two max_three min_three max_four min_four
set_option linter.unusedVariables false
set_option linter.unusedSimpArgs false
def inquestref03_Vars.f (k : Nat) (a0_0 : Int) (l0_1 : List (S41)) (l0_2 : List (S68)) (l0_3 : List Int) (l0_4 : List Int) (l0_5 : List Int) : Option (Int) := (inquestref03_May.f k a0_0 l0_1 l0_2 l0_3 l0_4 l0_5).bind fun t170 => (if t170 = true then (some (wrap64 ((wrap64 (a0_0 + (l0_1.length : Int))) + (l0_2.length : Int)))) else (some 0))
set_option maxHeartbeats 8000000 in
set_option maxRecDepth 100000 in
theorem inquestref03_Vars.calls (k : Nat) (a0_0 : Int) (A0_1 : Option Addr) (c0_1 : Nat) (l0_1 : List (S41)) (A0_2 : Option Addr) (c0_2 : Nat) (l0_2 : List (S68)) (A0_3 : Option Addr) (c0_3 : Nat) (l0_3 : List Int) (A0_4 : Option Addr) (c0_4 : Nat) (l0_4 : List Int) (A0_5 : Option Addr) (c0_5 : Nat) (l0_5 : List Int) (r : Int) (w : World) (hr0_1 : Kd.C k41 w A0_1 l0_1.length l0_1) (hc0_1 : l0_1.length ≤ c0_1) (hr0_2 : Kd.C k68 w A0_2 l0_2.length l0_2) (hc0_2 : l0_2.length ≤ c0_2) (hr0_3 : Kd.C (Kd.int .u32) w A0_3 l0_3.length l0_3) (hc0_3 : l0_3.length ≤ c0_3) (hr0_4 : Kd.C (Kd.int .u32) w A0_4 l0_4.length l0_4) (hc0_4 : l0_4.length ≤ c0_4) (hr0_5 : Kd.C (Kd.int .u32) w A0_5 l0_5.length l0_5) (hc0_5 : l0_5.length ≤ c0_5) (h : inquestref03_Vars.f k a0_0 l0_1 l0_2 l0_3 l0_4 l0_5 = some r) :
  Calls Try.prog 27 #[.agg #[.int .i64 a0_0, .slice A0_1 l0_1.length c0_1, .slice A0_2 l0_2.length c0_2, .slice A0_3 l0_3.length c0_3, .slice A0_4 l0_4.length c0_4, .slice A0_5 l0_5.length c0_5]] w fun e w' => e = .returned (.int .i64 r) ∧ Below w.heap.size w w' := by
 have hu26 := Try.underlying26
 have HR0_1 := Aside0.mk hr0_1
 have HC0_1 := Aside0.mk hc0_1
 clear hr0_1 hc0_1
 have HR0_2 := Aside0.mk hr0_2
 have HC0_2 := Aside0.mk hc0_2
 clear hr0_2 hc0_2
 have HR0_3 := Aside0.mk hr0_3
 have HC0_3 := Aside0.mk hc0_3
 clear hr0_3 hc0_3
 have HR0_4 := Aside0.mk hr0_4
 have HC0_4 := Aside0.mk hc0_4
 clear hr0_4 hc0_4
 have HR0_5 := Aside0.mk hr0_5
 have HC0_5 := Aside0.mk hc0_5
 clear hr0_5 hc0_5
 have HB := Aside0.mk (Below.refl w.heap.size w)
 have H : ((inquestref03_May.f k a0_0 l0_1 l0_2 l0_3 l0_4 l0_5).bind fun t170 => (if t170 = true then (some (wrap64 ((wrap64 (a0_0 + (l0_1.length : Int))) + (l0_2.length : Int)))) else (some 0))) = some r := h
 clear h
 replace H := Option.bind_eq_some_iff.mp H
 obtain ⟨t170, A20, H⟩ := H
 replace H : (if t170 = true then (some (wrap64 ((wrap64 (a0_0 + (l0_1.length : Int))) + (l0_2.length : Int)))) else (some 0)) = some r := H
 have A2 := Aside0.mk A20
 clear A20
 by_cases c3 : t170 = true
 ·
  subst c3
  have H1 : (some (wrap64 ((wrap64 (a0_0 + (l0_1.length : Int))) + (l0_2.length : Int)))) = some r := by rw [if_pos rfl] at H; exact H
  clear H
  have H := H1
  clear H1
  obtain rfl := Option.some.inj H
  go_enter Try.func27, Try.ntmps27
  go_wp2_with (first | ((with_reducible refine gate_dst (N := 1) rfl ?_); refine box_event ?hg (N := 1) ?hd (cs := #[.int .i64 a0_0, .slice A0_1 l0_1.length c0_1, .slice A0_2 l0_2.length c0_2, .slice A0_3 l0_3.length c0_3, .slice A0_4 l0_4.length c0_4, .slice A0_5 l0_5.length c0_5]) (t := 26) ?hr ?_; (case hd => rfl); (case hg => rfl); (case hr => first | (go_simp; done) | (go_simp; rfl)); intro gb169 hg w4 hbox hb; have n0_ := Aside0.mk (below_step (by repeat (first | (with_reducible first | exact HB.out | apply below_alloc | apply pw_below_drewN | apply below_drew1) | exact HB.out)) hb); have n1_ := Aside0.mk (hbox); have n2_ := Aside0.mk ((by rw [hg]; exact (below_size (by repeat (first | (with_reducible first | exact HB.out | apply below_alloc | apply pw_below_drewN | apply below_drew1) | exact HB.out))) : w.heap.size ≤ gb169)); have n3_ := Aside0.mk ((by rw [hg]; exact (below_size (by repeat (first | (with_reducible first | exact HB.out | apply below_alloc | apply pw_below_drewN | apply below_drew1) | exact HB.out))) : w.heap.size ≤ gb169)); clear HB; have HB := n0_; have BK169 := n1_; have GW169 := n2_; have GE169 := n3_; clear n0_ n1_ n2_ n3_; clear hb hbox hg; have hcz5_0 : w4.cell? ⟨gb169, 0, none⟩ = some (.int .i64 a0_0) := (blk_cell BK169.out 0).trans rfl; have hcz5_1 : w4.cell? ⟨gb169, 1, none⟩ = some (.slice A0_1 l0_1.length c0_1) := (blk_cell BK169.out 1).trans rfl; have hcz5_2 : w4.cell? ⟨gb169, 2, none⟩ = some (.slice A0_2 l0_2.length c0_2) := (blk_cell BK169.out 2).trans rfl; have hcz5_3 : w4.cell? ⟨gb169, 3, none⟩ = some (.slice A0_3 l0_3.length c0_3) := (blk_cell BK169.out 3).trans rfl; have hcz5_4 : w4.cell? ⟨gb169, 4, none⟩ = some (.slice A0_4 l0_4.length c0_4) := (blk_cell BK169.out 4).trans rfl; have hcz5_5 : w4.cell? ⟨gb169, 5, none⟩ = some (.slice A0_5 l0_5.length c0_5) := (blk_cell BK169.out 5).trans rfl; have hfz5_0 := blk_frozen BK169.out 0; have hfz5_1 := blk_frozen BK169.out 1; have hfz5_2 := blk_frozen BK169.out 2; have hfz5_3 := blk_frozen BK169.out 3; have hfz5_4 := blk_frozen BK169.out 4; have hfz5_5 := blk_frozen BK169.out 5) | ((with_reducible refine gate_callee (f := 26) rfl ?_); refine goesL_ (some 4) rfl rfl Try.func26 (by kernel_rfl) rfl #[.agg #[.int .i64 a0_0, .slice A0_1 l0_1.length c0_1, .slice A0_2 l0_2.length c0_2, .slice A0_3 l0_3.length c0_3, .slice A0_4 l0_4.length c0_4, .slice A0_5 l0_5.length c0_5]] rfl (by (try simp only [List.map_toArray, List.map_cons, List.map_nil]); first | done | rfl | (simp only [List.length_drop, List.length_take]; rfl)) ?_; (with_reducible refine (inquestref03_May.calls k a0_0 _ _ l0_1 _ _ l0_2 _ _ l0_3 _ _ l0_4 _ _ l0_5 true _ ?side1 ?side2 ?side3 ?side4 ?side5 ?side6 ?side7 ?side8 ?side9 ?side10 A2.out).mono ?_); (case side1 => repeat (first | exact (Kd.C_below HR0_1.out HB.out) | (with_reducible refine Kd.C_alloc ?_ _) | (with_reducible refine Kd.C_drewN ?_ _) | (with_reducible refine Kd.C_drew ?_))); (case side2 => exact HC0_1.out); (case side3 => repeat (first | exact (Kd.C_below HR0_2.out HB.out) | (with_reducible refine Kd.C_alloc ?_ _) | (with_reducible refine Kd.C_drewN ?_ _) | (with_reducible refine Kd.C_drew ?_))); (case side4 => exact HC0_2.out); (case side5 => repeat (first | exact (Kd.C_below HR0_3.out HB.out) | (with_reducible refine Kd.C_alloc ?_ _) | (with_reducible refine Kd.C_drewN ?_ _) | (with_reducible refine Kd.C_drew ?_))); (case side6 => exact HC0_3.out); (case side7 => repeat (first | exact (Kd.C_below HR0_4.out HB.out) | (with_reducible refine Kd.C_alloc ?_ _) | (with_reducible refine Kd.C_drewN ?_ _) | (with_reducible refine Kd.C_drew ?_))); (case side8 => exact HC0_4.out); (case side9 => repeat (first | exact (Kd.C_below HR0_5.out HB.out) | (with_reducible refine Kd.C_alloc ?_ _) | (with_reducible refine Kd.C_drewN ?_ _) | (with_reducible refine Kd.C_drew ?_))); (case side10 => exact HC0_5.out); rintro e w6 ⟨rfl, hb⟩; refine ⟨_, rfl, ?_⟩; have n0_ := Aside0.mk (blk_below (g := gb169) (o := .cells #[.int .i64 a0_0, .slice A0_1 l0_1.length c0_1, .slice A0_2 l0_2.length c0_2, .slice A0_3 l0_3.length c0_3, .slice A0_4 l0_4.length c0_4, .slice A0_5 l0_5.length c0_5] 26 (0, 0)) (by (with_reducible repeat (first | refine blk_drewN ?_ _ | refine blk_drew ?_ | refine blk_alloc ?_ _)); exact BK169.out) hb); have n1_ := Aside0.mk (below_step (by repeat (first | (with_reducible first | exact HB.out | apply below_alloc | apply pw_below_drewN | apply below_drew1 | refine below_set ?_ GE169.out) | exact HB.out)) hb); clear BK169; clear HB; have BK169 := n0_; have HB := n1_; clear n0_ n1_; (try clear hb); (try clear hb2); (try clear hk); (try clear hi); have hcz7_0 : w6.cell? ⟨gb169, 0, none⟩ = some (.int .i64 a0_0) := (blk_cell BK169.out 0).trans rfl; have hcz7_1 : w6.cell? ⟨gb169, 1, none⟩ = some (.slice A0_1 l0_1.length c0_1) := (blk_cell BK169.out 1).trans rfl; have hcz7_2 : w6.cell? ⟨gb169, 2, none⟩ = some (.slice A0_2 l0_2.length c0_2) := (blk_cell BK169.out 2).trans rfl; have hcz7_3 : w6.cell? ⟨gb169, 3, none⟩ = some (.slice A0_3 l0_3.length c0_3) := (blk_cell BK169.out 3).trans rfl; have hcz7_4 : w6.cell? ⟨gb169, 4, none⟩ = some (.slice A0_4 l0_4.length c0_4) := (blk_cell BK169.out 4).trans rfl; have hcz7_5 : w6.cell? ⟨gb169, 5, none⟩ = some (.slice A0_5 l0_5.length c0_5) := (blk_cell BK169.out 5).trans rfl; have hfz7_0 := blk_frozen BK169.out 0; have hfz7_1 := blk_frozen BK169.out 1; have hfz7_2 := blk_frozen BK169.out 2; have hfz7_3 := blk_frozen BK169.out 3; have hfz7_4 := blk_frozen BK169.out 4; have hfz7_5 := blk_frozen BK169.out 5))
  go_ret
  exact ⟨by first | rfl | (simp [errW_none, errW_some] <;> rfl) | (simp [*, errW_none, errW_some] <;> rfl), by repeat (first | (with_reducible first | exact HB.out | apply below_alloc | apply pw_below_drewN | apply below_drew1 | refine below_set ?_ GE169.out) | exact HB.out)⟩
 ·
  replace c3 := Bool.eq_false_iff.mpr c3
  subst c3
  have H1 : (some 0) = some r := by rw [if_neg (show ¬ (false = true) by decide)] at H; exact H
  clear H
  have H := H1
  clear H1
  obtain rfl := Option.some.inj H
  go_enter Try.func27, Try.ntmps27
  go_wp2_with (first | ((with_reducible refine gate_dst (N := 1) rfl ?_); refine box_event ?hg (N := 1) ?hd (cs := #[.int .i64 a0_0, .slice A0_1 l0_1.length c0_1, .slice A0_2 l0_2.length c0_2, .slice A0_3 l0_3.length c0_3, .slice A0_4 l0_4.length c0_4, .slice A0_5 l0_5.length c0_5]) (t := 26) ?hr ?_; (case hd => rfl); (case hg => rfl); (case hr => first | (go_simp; done) | (go_simp; rfl)); intro gb169 hg w8 hbox hb; have n0_ := Aside0.mk (below_step (by repeat (first | (with_reducible first | exact HB.out | apply below_alloc | apply pw_below_drewN | apply below_drew1) | exact HB.out)) hb); have n1_ := Aside0.mk (hbox); have n2_ := Aside0.mk ((by rw [hg]; exact (below_size (by repeat (first | (with_reducible first | exact HB.out | apply below_alloc | apply pw_below_drewN | apply below_drew1) | exact HB.out))) : w.heap.size ≤ gb169)); have n3_ := Aside0.mk ((by rw [hg]; exact (below_size (by repeat (first | (with_reducible first | exact HB.out | apply below_alloc | apply pw_below_drewN | apply below_drew1) | exact HB.out))) : w.heap.size ≤ gb169)); clear HB; have HB := n0_; have BK169 := n1_; have GW169 := n2_; have GE169 := n3_; clear n0_ n1_ n2_ n3_; clear hb hbox hg; have hcz9_0 : w8.cell? ⟨gb169, 0, none⟩ = some (.int .i64 a0_0) := (blk_cell BK169.out 0).trans rfl; have hcz9_1 : w8.cell? ⟨gb169, 1, none⟩ = some (.slice A0_1 l0_1.length c0_1) := (blk_cell BK169.out 1).trans rfl; have hcz9_2 : w8.cell? ⟨gb169, 2, none⟩ = some (.slice A0_2 l0_2.length c0_2) := (blk_cell BK169.out 2).trans rfl; have hcz9_3 : w8.cell? ⟨gb169, 3, none⟩ = some (.slice A0_3 l0_3.length c0_3) := (blk_cell BK169.out 3).trans rfl; have hcz9_4 : w8.cell? ⟨gb169, 4, none⟩ = some (.slice A0_4 l0_4.length c0_4) := (blk_cell BK169.out 4).trans rfl; have hcz9_5 : w8.cell? ⟨gb169, 5, none⟩ = some (.slice A0_5 l0_5.length c0_5) := (blk_cell BK169.out 5).trans rfl; have hfz9_0 := blk_frozen BK169.out 0; have hfz9_1 := blk_frozen BK169.out 1; have hfz9_2 := blk_frozen BK169.out 2; have hfz9_3 := blk_frozen BK169.out 3; have hfz9_4 := blk_frozen BK169.out 4; have hfz9_5 := blk_frozen BK169.out 5) | ((with_reducible refine gate_callee (f := 26) rfl ?_); refine goesL_ (some 4) rfl rfl Try.func26 (by kernel_rfl) rfl #[.agg #[.int .i64 a0_0, .slice A0_1 l0_1.length c0_1, .slice A0_2 l0_2.length c0_2, .slice A0_3 l0_3.length c0_3, .slice A0_4 l0_4.length c0_4, .slice A0_5 l0_5.length c0_5]] rfl (by (try simp only [List.map_toArray, List.map_cons, List.map_nil]); first | done | rfl | (simp only [List.length_drop, List.length_take]; rfl)) ?_; (with_reducible refine (inquestref03_May.calls k a0_0 _ _ l0_1 _ _ l0_2 _ _ l0_3 _ _ l0_4 _ _ l0_5 false _ ?side1 ?side2 ?side3 ?side4 ?side5 ?side6 ?side7 ?side8 ?side9 ?side10 A2.out).mono ?_); (case side1 => repeat (first | exact (Kd.C_below HR0_1.out HB.out) | (with_reducible refine Kd.C_alloc ?_ _) | (with_reducible refine Kd.C_drewN ?_ _) | (with_reducible refine Kd.C_drew ?_))); (case side2 => exact HC0_1.out); (case side3 => repeat (first | exact (Kd.C_below HR0_2.out HB.out) | (with_reducible refine Kd.C_alloc ?_ _) | (with_reducible refine Kd.C_drewN ?_ _) | (with_reducible refine Kd.C_drew ?_))); (case side4 => exact HC0_2.out); (case side5 => repeat (first | exact (Kd.C_below HR0_3.out HB.out) | (with_reducible refine Kd.C_alloc ?_ _) | (with_reducible refine Kd.C_drewN ?_ _) | (with_reducible refine Kd.C_drew ?_))); (case side6 => exact HC0_3.out); (case side7 => repeat (first | exact (Kd.C_below HR0_4.out HB.out) | (with_reducible refine Kd.C_alloc ?_ _) | (with_reducible refine Kd.C_drewN ?_ _) | (with_reducible refine Kd.C_drew ?_))); (case side8 => exact HC0_4.out); (case side9 => repeat (first | exact (Kd.C_below HR0_5.out HB.out) | (with_reducible refine Kd.C_alloc ?_ _) | (with_reducible refine Kd.C_drewN ?_ _) | (with_reducible refine Kd.C_drew ?_))); (case side10 => exact HC0_5.out); rintro e w10 ⟨rfl, hb⟩; refine ⟨_, rfl, ?_⟩; have n0_ := Aside0.mk (blk_below (g := gb169) (o := .cells #[.int .i64 a0_0, .slice A0_1 l0_1.length c0_1, .slice A0_2 l0_2.length c0_2, .slice A0_3 l0_3.length c0_3, .slice A0_4 l0_4.length c0_4, .slice A0_5 l0_5.length c0_5] 26 (0, 0)) (by (with_reducible repeat (first | refine blk_drewN ?_ _ | refine blk_drew ?_ | refine blk_alloc ?_ _)); exact BK169.out) hb); have n1_ := Aside0.mk (below_step (by repeat (first | (with_reducible first | exact HB.out | apply below_alloc | apply pw_below_drewN | apply below_drew1 | refine below_set ?_ GE169.out) | exact HB.out)) hb); clear BK169; clear HB; have BK169 := n0_; have HB := n1_; clear n0_ n1_; (try clear hb); (try clear hb2); (try clear hk); (try clear hi)))
  go_ret
  exact ⟨by first | rfl | (simp [errW_none, errW_some] <;> rfl) | (simp [*, errW_none, errW_some] <;> rfl), by repeat (first | (with_reducible first | exact HB.out | apply below_alloc | apply pw_below_drewN | apply below_drew1 | refine below_set ?_ GE169.out) | exact HB.out)⟩
end Go.Proofs.Yteiiodlgdbiimaa.F
end
section
namespace Go.Proofs.Yteiiodlgdbiimaa.F
open Go.RowKit Go.Proofs.YteiiodlgdbiimaaW.PrintWords Go.Proofs.YteiiodlgdbiimaaW.PrintLast Go.Proofs.YteiiodlgdbiimaaW.PrintMore
attribute [local go_sem] max2_int min2_int max_two min_two max_three min_three max_four min_four
set_option linter.unusedVariables false
set_option linter.unusedSimpArgs false
def inquestlaw24_great.f (a0_0 : Int) (l0_1 : List (S41)) (l0_2 : List (S68)) (l0_3 : List Int) (l0_4 : List Int) (l0_5 : List Int) : Option (Bool) := if a0_0 > 300 then (some true) else (if (l0_1.length : Int) > 300 then (some true) else (if (l0_2.length : Int) > 300 then (some true) else (some (decide ((wrap64 ((wrap64 ((l0_3.length : Int) + (l0_4.length : Int))) + (l0_5.length : Int))) > 600)))))
set_option maxHeartbeats 8000000 in
set_option maxRecDepth 100000 in
theorem inquestlaw24_great.calls (a0_0 : Int) (A0_1 : Option Addr) (c0_1 : Nat) (l0_1 : List (S41)) (A0_2 : Option Addr) (c0_2 : Nat) (l0_2 : List (S68)) (A0_3 : Option Addr) (c0_3 : Nat) (l0_3 : List Int) (A0_4 : Option Addr) (c0_4 : Nat) (l0_4 : List Int) (A0_5 : Option Addr) (c0_5 : Nat) (l0_5 : List Int) (r : Bool) (w : World) (hr0_1 : Kd.C k41 w A0_1 l0_1.length l0_1) (hc0_1 : l0_1.length ≤ c0_1) (hr0_2 : Kd.C k68 w A0_2 l0_2.length l0_2) (hc0_2 : l0_2.length ≤ c0_2) (hr0_3 : Kd.C (Kd.int .u32) w A0_3 l0_3.length l0_3) (hc0_3 : l0_3.length ≤ c0_3) (hr0_4 : Kd.C (Kd.int .u32) w A0_4 l0_4.length l0_4) (hc0_4 : l0_4.length ≤ c0_4) (hr0_5 : Kd.C (Kd.int .u32) w A0_5 l0_5.length l0_5) (hc0_5 : l0_5.length ≤ c0_5) (h : inquestlaw24_great.f a0_0 l0_1 l0_2 l0_3 l0_4 l0_5 = some r) :
  Calls Try.prog 36 #[.agg #[.int .i64 a0_0, .slice A0_1 l0_1.length c0_1, .slice A0_2 l0_2.length c0_2, .slice A0_3 l0_3.length c0_3, .slice A0_4 l0_4.length c0_4, .slice A0_5 l0_5.length c0_5]] w fun e w' => e = .returned (.bool r) ∧ Below w.heap.size w w' := by
 have hu26 := Try.underlying26
 have HR0_1 := Aside0.mk hr0_1
 have HC0_1 := Aside0.mk hc0_1
 clear hr0_1 hc0_1
 have HR0_2 := Aside0.mk hr0_2
 have HC0_2 := Aside0.mk hc0_2
 clear hr0_2 hc0_2
 have HR0_3 := Aside0.mk hr0_3
 have HC0_3 := Aside0.mk hc0_3
 clear hr0_3 hc0_3
 have HR0_4 := Aside0.mk hr0_4
 have HC0_4 := Aside0.mk hc0_4
 clear hr0_4 hc0_4
 have HR0_5 := Aside0.mk hr0_5
 have HC0_5 := Aside0.mk hc0_5
 clear hr0_5 hc0_5
 have HB := Aside0.mk (Below.refl w.heap.size w)
 have H : (if a0_0 > 300 then (some true) else (if (l0_1.length : Int) > 300 then (some true) else (if (l0_2.length : Int) > 300 then (some true) else (some (decide ((wrap64 ((wrap64 ((l0_3.length : Int) + (l0_4.length : Int))) + (l0_5.length : Int))) > 600)))))) = some r := h
 clear h
 by_cases c2 : a0_0 > 300
 ·
  rw [if_pos c2] at H
  have c2b0 : decide (300 < a0_0) = true := decide_eq_true c2
  clear c2
  obtain rfl := Option.some.inj H
  go_enter Try.func36, Try.ntmps36
  go_wp2_with (first | ((with_reducible refine gate_dst (N := 1) rfl ?_); (try (refine gate_guard (by rfl) ?_; dsimp only)); refine box_event ?hg (N := 1) ?hd (cs := #[.int .i64 a0_0, .slice A0_1 l0_1.length c0_1, .slice A0_2 l0_2.length c0_2, .slice A0_3 l0_3.length c0_3, .slice A0_4 l0_4.length c0_4, .slice A0_5 l0_5.length c0_5]) (t := 26) ?hr ?_; (case hd => rfl); (case hg => rfl); (case hr => first | (go_simp; done) | (go_simp; rfl)); intro gb303 hg w3 hbox hb; have n0_ := Aside0.mk (below_step (by repeat (first | (with_reducible first | exact HB.out | apply below_alloc | apply pw_below_drewN | apply below_drew1) | exact HB.out)) hb); have n1_ := Aside0.mk (hbox); have n2_ := Aside0.mk ((by rw [hg]; exact (below_size (by repeat (first | (with_reducible first | exact HB.out | apply below_alloc | apply pw_below_drewN | apply below_drew1) | exact HB.out))) : w.heap.size ≤ gb303)); have n3_ := Aside0.mk ((by rw [hg]; exact (below_size (by repeat (first | (with_reducible first | exact HB.out | apply below_alloc | apply pw_below_drewN | apply below_drew1) | exact HB.out))) : w.heap.size ≤ gb303)); clear HB; have HB := n0_; have BK303 := n1_; have GW303 := n2_; have GE303 := n3_; clear n0_ n1_ n2_ n3_; clear hb hbox hg; have hcz4_0 : w3.cell? ⟨gb303, 0, none⟩ = some (.int .i64 a0_0) := (blk_cell BK303.out 0).trans rfl; have hcz4_1 : w3.cell? ⟨gb303, 1, none⟩ = some (.slice A0_1 l0_1.length c0_1) := (blk_cell BK303.out 1).trans rfl; have hcz4_2 : w3.cell? ⟨gb303, 2, none⟩ = some (.slice A0_2 l0_2.length c0_2) := (blk_cell BK303.out 2).trans rfl; have hcz4_3 : w3.cell? ⟨gb303, 3, none⟩ = some (.slice A0_3 l0_3.length c0_3) := (blk_cell BK303.out 3).trans rfl; have hcz4_4 : w3.cell? ⟨gb303, 4, none⟩ = some (.slice A0_4 l0_4.length c0_4) := (blk_cell BK303.out 4).trans rfl; have hcz4_5 : w3.cell? ⟨gb303, 5, none⟩ = some (.slice A0_5 l0_5.length c0_5) := (blk_cell BK303.out 5).trans rfl; have hfz4_0 := blk_frozen BK303.out 0; have hfz4_1 := blk_frozen BK303.out 1; have hfz4_2 := blk_frozen BK303.out 2; have hfz4_3 := blk_frozen BK303.out 3; have hfz4_4 := blk_frozen BK303.out 4; have hfz4_5 := blk_frozen BK303.out 5))
  go_ret
  exact ⟨by first | rfl | (simp [errW_none, errW_some] <;> rfl) | (simp [*, errW_none, errW_some] <;> rfl), by repeat (first | (with_reducible first | exact HB.out | apply below_alloc | apply pw_below_drewN | apply below_drew1 | refine below_set ?_ GE303.out) | exact HB.out)⟩
 ·
  rw [if_neg c2] at H
  have c2b0 : decide (300 < a0_0) = false := decide_eq_false c2
  clear c2
  by_cases c5 : (l0_1.length : Int) > 300
  ·
   rw [if_pos c5] at H
   have c5b0 : decide (300 < (l0_1.length : Int)) = true := decide_eq_true c5
   have c5b1 : decide (300 < l0_1.length) = true := decide_eq_true (by omega)
   clear c5
   obtain rfl := Option.some.inj H
   go_enter Try.func36, Try.ntmps36
   go_wp2_with (first | ((with_reducible refine gate_dst (N := 1) rfl ?_); (try (refine gate_guard (by rfl) ?_; dsimp only)); refine box_event ?hg (N := 1) ?hd (cs := #[.int .i64 a0_0, .slice A0_1 l0_1.length c0_1, .slice A0_2 l0_2.length c0_2, .slice A0_3 l0_3.length c0_3, .slice A0_4 l0_4.length c0_4, .slice A0_5 l0_5.length c0_5]) (t := 26) ?hr ?_; (case hd => rfl); (case hg => rfl); (case hr => first | (go_simp; done) | (go_simp; rfl)); intro gb303 hg w6 hbox hb; have n0_ := Aside0.mk (below_step (by repeat (first | (with_reducible first | exact HB.out | apply below_alloc | apply pw_below_drewN | apply below_drew1) | exact HB.out)) hb); have n1_ := Aside0.mk (hbox); have n2_ := Aside0.mk ((by rw [hg]; exact (below_size (by repeat (first | (with_reducible first | exact HB.out | apply below_alloc | apply pw_below_drewN | apply below_drew1) | exact HB.out))) : w.heap.size ≤ gb303)); have n3_ := Aside0.mk ((by rw [hg]; exact (below_size (by repeat (first | (with_reducible first | exact HB.out | apply below_alloc | apply pw_below_drewN | apply below_drew1) | exact HB.out))) : w.heap.size ≤ gb303)); clear HB; have HB := n0_; have BK303 := n1_; have GW303 := n2_; have GE303 := n3_; clear n0_ n1_ n2_ n3_; clear hb hbox hg; have hcz7_0 : w6.cell? ⟨gb303, 0, none⟩ = some (.int .i64 a0_0) := (blk_cell BK303.out 0).trans rfl; have hcz7_1 : w6.cell? ⟨gb303, 1, none⟩ = some (.slice A0_1 l0_1.length c0_1) := (blk_cell BK303.out 1).trans rfl; have hcz7_2 : w6.cell? ⟨gb303, 2, none⟩ = some (.slice A0_2 l0_2.length c0_2) := (blk_cell BK303.out 2).trans rfl; have hcz7_3 : w6.cell? ⟨gb303, 3, none⟩ = some (.slice A0_3 l0_3.length c0_3) := (blk_cell BK303.out 3).trans rfl; have hcz7_4 : w6.cell? ⟨gb303, 4, none⟩ = some (.slice A0_4 l0_4.length c0_4) := (blk_cell BK303.out 4).trans rfl; have hcz7_5 : w6.cell? ⟨gb303, 5, none⟩ = some (.slice A0_5 l0_5.length c0_5) := (blk_cell BK303.out 5).trans rfl; have hfz7_0 := blk_frozen BK303.out 0; have hfz7_1 := blk_frozen BK303.out 1; have hfz7_2 := blk_frozen BK303.out 2; have hfz7_3 := blk_frozen BK303.out 3; have hfz7_4 := blk_frozen BK303.out 4; have hfz7_5 := blk_frozen BK303.out 5))
   go_ret
   exact ⟨by first | rfl | (simp [errW_none, errW_some] <;> rfl) | (simp [*, errW_none, errW_some] <;> rfl), by repeat (first | (with_reducible first | exact HB.out | apply below_alloc | apply pw_below_drewN | apply below_drew1 | refine below_set ?_ GE303.out) | exact HB.out)⟩
  ·
   rw [if_neg c5] at H
   have c5b0 : decide (300 < (l0_1.length : Int)) = false := decide_eq_false c5
   have c5b1 : decide (300 < l0_1.length) = false := decide_eq_false (by omega)
   clear c5
   by_cases c8 : (l0_2.length : Int) > 300
   ·
    rw [if_pos c8] at H
    have c8b0 : decide (300 < (l0_2.length : Int)) = true := decide_eq_true c8
    have c8b1 : decide (300 < l0_2.length) = true := decide_eq_true (by omega)
    clear c8
    obtain rfl := Option.some.inj H
    go_enter Try.func36, Try.ntmps36
    go_wp2_with (first | ((with_reducible refine gate_dst (N := 1) rfl ?_); (try (refine gate_guard (by rfl) ?_; dsimp only)); refine box_event ?hg (N := 1) ?hd (cs := #[.int .i64 a0_0, .slice A0_1 l0_1.length c0_1, .slice A0_2 l0_2.length c0_2, .slice A0_3 l0_3.length c0_3, .slice A0_4 l0_4.length c0_4, .slice A0_5 l0_5.length c0_5]) (t := 26) ?hr ?_; (case hd => rfl); (case hg => rfl); (case hr => first | (go_simp; done) | (go_simp; rfl)); intro gb303 hg w9 hbox hb; have n0_ := Aside0.mk (below_step (by repeat (first | (with_reducible first | exact HB.out | apply below_alloc | apply pw_below_drewN | apply below_drew1) | exact HB.out)) hb); have n1_ := Aside0.mk (hbox); have n2_ := Aside0.mk ((by rw [hg]; exact (below_size (by repeat (first | (with_reducible first | exact HB.out | apply below_alloc | apply pw_below_drewN | apply below_drew1) | exact HB.out))) : w.heap.size ≤ gb303)); have n3_ := Aside0.mk ((by rw [hg]; exact (below_size (by repeat (first | (with_reducible first | exact HB.out | apply below_alloc | apply pw_below_drewN | apply below_drew1) | exact HB.out))) : w.heap.size ≤ gb303)); clear HB; have HB := n0_; have BK303 := n1_; have GW303 := n2_; have GE303 := n3_; clear n0_ n1_ n2_ n3_; clear hb hbox hg; have hcz10_0 : w9.cell? ⟨gb303, 0, none⟩ = some (.int .i64 a0_0) := (blk_cell BK303.out 0).trans rfl; have hcz10_1 : w9.cell? ⟨gb303, 1, none⟩ = some (.slice A0_1 l0_1.length c0_1) := (blk_cell BK303.out 1).trans rfl; have hcz10_2 : w9.cell? ⟨gb303, 2, none⟩ = some (.slice A0_2 l0_2.length c0_2) := (blk_cell BK303.out 2).trans rfl; have hcz10_3 : w9.cell? ⟨gb303, 3, none⟩ = some (.slice A0_3 l0_3.length c0_3) := (blk_cell BK303.out 3).trans rfl; have hcz10_4 : w9.cell? ⟨gb303, 4, none⟩ = some (.slice A0_4 l0_4.length c0_4) := (blk_cell BK303.out 4).trans rfl; have hcz10_5 : w9.cell? ⟨gb303, 5, none⟩ = some (.slice A0_5 l0_5.length c0_5) := (blk_cell BK303.out 5).trans rfl; have hfz10_0 := blk_frozen BK303.out 0; have hfz10_1 := blk_frozen BK303.out 1; have hfz10_2 := blk_frozen BK303.out 2; have hfz10_3 := blk_frozen BK303.out 3; have hfz10_4 := blk_frozen BK303.out 4; have hfz10_5 := blk_frozen BK303.out 5))
    go_ret
    exact ⟨by first | rfl | (simp [errW_none, errW_some] <;> rfl) | (simp [*, errW_none, errW_some] <;> rfl), by repeat (first | (with_reducible first | exact HB.out | apply below_alloc | apply pw_below_drewN | apply below_drew1 | refine below_set ?_ GE303.out) | exact HB.out)⟩
   ·
    rw [if_neg c8] at H
    have c8b0 : decide (300 < (l0_2.length : Int)) = false := decide_eq_false c8
    have c8b1 : decide (300 < l0_2.length) = false := decide_eq_false (by omega)
    clear c8
    obtain rfl := Option.some.inj H
    go_enter Try.func36, Try.ntmps36
    go_wp2_with (first | ((with_reducible refine gate_dst (N := 1) rfl ?_); (try (refine gate_guard (by rfl) ?_; dsimp only)); refine box_event ?hg (N := 1) ?hd (cs := #[.int .i64 a0_0, .slice A0_1 l0_1.length c0_1, .slice A0_2 l0_2.length c0_2, .slice A0_3 l0_3.length c0_3, .slice A0_4 l0_4.length c0_4, .slice A0_5 l0_5.length c0_5]) (t := 26) ?hr ?_; (case hd => rfl); (case hg => rfl); (case hr => first | (go_simp; done) | (go_simp; rfl)); intro gb303 hg w11 hbox hb; have n0_ := Aside0.mk (below_step (by repeat (first | (with_reducible first | exact HB.out | apply below_alloc | apply pw_below_drewN | apply below_drew1) | exact HB.out)) hb); have n1_ := Aside0.mk (hbox); have n2_ := Aside0.mk ((by rw [hg]; exact (below_size (by repeat (first | (with_reducible first | exact HB.out | apply below_alloc | apply pw_below_drewN | apply below_drew1) | exact HB.out))) : w.heap.size ≤ gb303)); have n3_ := Aside0.mk ((by rw [hg]; exact (below_size (by repeat (first | (with_reducible first | exact HB.out | apply below_alloc | apply pw_below_drewN | apply below_drew1) | exact HB.out))) : w.heap.size ≤ gb303)); clear HB; have HB := n0_; have BK303 := n1_; have GW303 := n2_; have GE303 := n3_; clear n0_ n1_ n2_ n3_; clear hb hbox hg; have hcz12_0 : w11.cell? ⟨gb303, 0, none⟩ = some (.int .i64 a0_0) := (blk_cell BK303.out 0).trans rfl; have hcz12_1 : w11.cell? ⟨gb303, 1, none⟩ = some (.slice A0_1 l0_1.length c0_1) := (blk_cell BK303.out 1).trans rfl; have hcz12_2 : w11.cell? ⟨gb303, 2, none⟩ = some (.slice A0_2 l0_2.length c0_2) := (blk_cell BK303.out 2).trans rfl; have hcz12_3 : w11.cell? ⟨gb303, 3, none⟩ = some (.slice A0_3 l0_3.length c0_3) := (blk_cell BK303.out 3).trans rfl; have hcz12_4 : w11.cell? ⟨gb303, 4, none⟩ = some (.slice A0_4 l0_4.length c0_4) := (blk_cell BK303.out 4).trans rfl; have hcz12_5 : w11.cell? ⟨gb303, 5, none⟩ = some (.slice A0_5 l0_5.length c0_5) := (blk_cell BK303.out 5).trans rfl; have hfz12_0 := blk_frozen BK303.out 0; have hfz12_1 := blk_frozen BK303.out 1; have hfz12_2 := blk_frozen BK303.out 2; have hfz12_3 := blk_frozen BK303.out 3; have hfz12_4 := blk_frozen BK303.out 4; have hfz12_5 := blk_frozen BK303.out 5))
    go_ret
    exact ⟨by first | rfl | (simp [errW_none, errW_some] <;> rfl) | (simp [*, errW_none, errW_some] <;> rfl), by repeat (first | (with_reducible first | exact HB.out | apply below_alloc | apply pw_below_drewN | apply below_drew1 | refine below_set ?_ GE303.out) | exact HB.out)⟩
end Go.Proofs.Yteiiodlgdbiimaa.F
end
section
namespace Go.Proofs.Yteiiodlgdbiimaa.F
open Go.RowKit Go.Proofs.YteiiodlgdbiimaaW.PrintWords Go.Proofs.YteiiodlgdbiimaaW.PrintLast Go.Proofs.YteiiodlgdbiimaaW.PrintMore
attribute [local go_sem] max2_int min2_int max_two min_two max_three min_three max_four min_four
set_option linter.unusedVariables false
set_option linter.unusedSimpArgs false
def norm_vars.f (a0_0 : Int) (l0_1 : List (S41)) (l0_2 : List (S68)) (l0_3 : List Int) (l0_4 : List Int) (l0_5 : List Int) : Option (Int) := some (wrap64 ((wrap64 (a0_0 + (l0_1.length : Int))) + (l0_2.length : Int)))
set_option maxHeartbeats 8000000 in
set_option maxRecDepth 100000 in
theorem norm_vars.calls (a0_0 : Int) (A0_1 : Option Addr) (c0_1 : Nat) (l0_1 : List (S41)) (A0_2 : Option Addr) (c0_2 : Nat) (l0_2 : List (S68)) (A0_3 : Option Addr) (c0_3 : Nat) (l0_3 : List Int) (A0_4 : Option Addr) (c0_4 : Nat) (l0_4 : List Int) (A0_5 : Option Addr) (c0_5 : Nat) (l0_5 : List Int) (r : Int) (w : World) (hr0_1 : Kd.C k41 w A0_1 l0_1.length l0_1) (hc0_1 : l0_1.length ≤ c0_1) (hr0_2 : Kd.C k68 w A0_2 l0_2.length l0_2) (hc0_2 : l0_2.length ≤ c0_2) (hr0_3 : Kd.C (Kd.int .u32) w A0_3 l0_3.length l0_3) (hc0_3 : l0_3.length ≤ c0_3) (hr0_4 : Kd.C (Kd.int .u32) w A0_4 l0_4.length l0_4) (hc0_4 : l0_4.length ≤ c0_4) (hr0_5 : Kd.C (Kd.int .u32) w A0_5 l0_5.length l0_5) (hc0_5 : l0_5.length ≤ c0_5) (h : norm_vars.f a0_0 l0_1 l0_2 l0_3 l0_4 l0_5 = some r) :
    Calls Try.prog 143 #[.agg #[.int .i64 a0_0, .slice A0_1 l0_1.length c0_1, .slice A0_2 l0_2.length c0_2, .slice A0_3 l0_3.length c0_3, .slice A0_4 l0_4.length c0_4, .slice A0_5 l0_5.length c0_5]] w fun e w' => e = .returned (.int .i64 r) ∧ Below w.heap.size w w' := by
  have hu26 := Try.underlying26
  have HR0_1 := Aside0.mk hr0_1
  have HC0_1 := Aside0.mk hc0_1
  clear hr0_1 hc0_1
  have HR0_2 := Aside0.mk hr0_2
  have HC0_2 := Aside0.mk hc0_2
  clear hr0_2 hc0_2
  have HR0_3 := Aside0.mk hr0_3
  have HC0_3 := Aside0.mk hc0_3
  clear hr0_3 hc0_3
  have HR0_4 := Aside0.mk hr0_4
  have HC0_4 := Aside0.mk hc0_4
  clear hr0_4 hc0_4
  have HR0_5 := Aside0.mk hr0_5
  have HC0_5 := Aside0.mk hc0_5
  clear hr0_5 hc0_5
  have HB := Aside0.mk (Below.refl w.heap.size w)
  have H : (some (wrap64 ((wrap64 (a0_0 + (l0_1.length : Int))) + (l0_2.length : Int)))) = some r := h
  clear h
  obtain rfl := Option.some.inj H
  go_enter Try.func143, Try.ntmps143
  go_wp2_with (first | ((with_reducible refine gate_dst (N := 1) rfl ?_); refine box_event ?hg (N := 1) ?hd (cs := #[.int .i64 a0_0, .slice A0_1 l0_1.length c0_1, .slice A0_2 l0_2.length c0_2, .slice A0_3 l0_3.length c0_3, .slice A0_4 l0_4.length c0_4, .slice A0_5 l0_5.length c0_5]) (t := 26) ?hr ?_; (case hd => rfl); (case hg => rfl); (case hr => first | (go_simp; done) | (go_simp; rfl)); intro gb103 hg w2 hbox hb; have n0_ := Aside0.mk (below_step (by repeat (first | (with_reducible first | exact HB.out | apply below_alloc | apply pw_below_drewN | apply below_drew1) | exact HB.out)) hb); have n1_ := Aside0.mk (hbox); have n2_ := Aside0.mk ((by rw [hg]; exact (below_size (by repeat (first | (with_reducible first | exact HB.out | apply below_alloc | apply pw_below_drewN | apply below_drew1) | exact HB.out))) : w.heap.size ≤ gb103)); have n3_ := Aside0.mk ((by rw [hg]; exact (below_size (by repeat (first | (with_reducible first | exact HB.out | apply below_alloc | apply pw_below_drewN | apply below_drew1) | exact HB.out))) : w.heap.size ≤ gb103)); clear HB; have HB := n0_; have BK103 := n1_; have GW103 := n2_; have GE103 := n3_; clear n0_ n1_ n2_ n3_; clear hb hbox hg; have hcz3_0 : w2.cell? ⟨gb103, 0, none⟩ = some (.int .i64 a0_0) := (blk_cell BK103.out 0).trans rfl; have hcz3_1 : w2.cell? ⟨gb103, 1, none⟩ = some (.slice A0_1 l0_1.length c0_1) := (blk_cell BK103.out 1).trans rfl; have hcz3_2 : w2.cell? ⟨gb103, 2, none⟩ = some (.slice A0_2 l0_2.length c0_2) := (blk_cell BK103.out 2).trans rfl; have hcz3_3 : w2.cell? ⟨gb103, 3, none⟩ = some (.slice A0_3 l0_3.length c0_3) := (blk_cell BK103.out 3).trans rfl; have hcz3_4 : w2.cell? ⟨gb103, 4, none⟩ = some (.slice A0_4 l0_4.length c0_4) := (blk_cell BK103.out 4).trans rfl; have hcz3_5 : w2.cell? ⟨gb103, 5, none⟩ = some (.slice A0_5 l0_5.length c0_5) := (blk_cell BK103.out 5).trans rfl; have hfz3_0 := blk_frozen BK103.out 0; have hfz3_1 := blk_frozen BK103.out 1; have hfz3_2 := blk_frozen BK103.out 2; have hfz3_3 := blk_frozen BK103.out 3; have hfz3_4 := blk_frozen BK103.out 4; have hfz3_5 := blk_frozen BK103.out 5))
  go_ret
  exact ⟨by first | rfl | (simp [errW_none, errW_some] <;> rfl) | (simp [*, errW_none, errW_some] <;> rfl), by repeat (first | (with_reducible first | exact HB.out | apply below_alloc | apply pw_below_drewN | apply below_drew1 | refine below_set ?_ GE103.out) | exact HB.out)⟩
end Go.Proofs.Yteiiodlgdbiimaa.F
end
section
namespace Go.Proofs.Yteiiodlgdbiimaa.F
open Go.RowKit Go.Shelf Go.Proofs.YteiiodlgdbiimaaW.PrintWords Go.Proofs.YteiiodlgdbiimaaW.PrintLast Go.Proofs.YteiiodlgdbiimaaW.PrintMore
set_option linter.unusedVariables false
set_option linter.unusedSimpArgs false
def idx (p : Nat → Bool) (n : Nat) : Int := match (List.range n).find? p with
  | some j => (j : Int)
  | none => -1
theorem idx_hit (p : Nat → Bool) (n k : Nat) (hk : k < n) (h : p k = true) (hn : ∀ j, j < k → p j = false) : idx p n = (k : Int) := by
  have : (List.range n).find? p = some k := by
    rw [List.find?_range_eq_some]
    exact ⟨h, List.mem_range.2 hk, fun j hj => by simp [hn j hj]⟩
  simp [idx, this]
theorem idx_miss (p : Nat → Bool) (n : Nat) (hn : ∀ j, j < n → p j = false) : idx p n = -1 := by
  have : (List.range n).find? p = none := by
    rw [List.find?_range_eq_none]
    exact fun j hj => by simp [hn j hj]
  simp [idx, this]
theorem idx_any (p : Nat → Bool) (n : Nat) : decide (0 ≤ idx p n) = (List.range n).any p := by
  rw [Bool.eq_iff_iff, decide_eq_true_iff, List.any_eq_true]
  unfold idx
  split
  · rename_i j h
    constructor
    · intro _
      exact ⟨j, List.mem_of_find?_eq_some h, List.find?_some h⟩
    · intro _
      omega
  · rename_i h
    rw [List.find?_eq_none] at h
    constructor
    · intro h0
      omega
    · rintro ⟨j, hj, hp⟩
      exact absurd hp (h j hj)
set_option maxHeartbeats 4000000 in
theorem index177 (g : Nat) (lb : Array Value) (eg : ∀ args w, (callFunc g args).run Try.prog w = .ok (.enter g args) w) (ev : Nat → Value) (pv : Nat → Bool)
    (A : Option Addr) (n c : Nat) (w : World) (hn : n ≤ 9223372036854775807)
    (hc : ∀ j, j < n → ∃ ad, A = some ad ∧ w.cell? (ad.add j) = some (ev j))
    (hp : ∀ j, j < n → ∀ W, Below w.heap.size w W → Calls Try.prog g (#[ev j] ++ lb) W fun e w' => e = .returned (.bool (pv j)) ∧ Below W.heap.size W w') :
    Calls Try.prog 177 #[.slice A n c, .func (.func g) #[] lb] w fun e w' => e = .returned (.int .i64 (idx pv n)) ∧ Below w.heap.size w w' := by
  have HC := Aside0.mk hc
  have HP := Aside0.mk hp
  clear hc hp
  go_enter Try.func177, Try.ntmps177
  go_wp2
  go_loopg [5, 8] n (fun gg _ s8 wr => ∃ kk : Nat, kk ≤ n ∧ n - kk ≤ gg ∧ s8 = .int .i64 kk ∧ Aside0 (Below w.heap.size w wr) ∧ Aside0 (∀ j, j < kk → pv j = false))
  case atStart => exact ⟨0, Nat.zero_le _, by omega, rfl, ⟨Below.refl _ w⟩, ⟨fun j hj => absurd hj (Nat.not_lt_zero _)⟩⟩
  case round =>
    obtain ⟨kk, hkk, hg, rfl, BW, HA⟩ := hrel
    by_cases hlt : kk < n
    · have hltz : (kk : Int) < (n : Int) := by omega
      obtain ⟨ad, rfl, hx0⟩ := HC.out kk hlt
      have hx := pw_cell_below BW.out hx0
      have hcall := HP.out kk hlt wr BW.out
      generalize hy : ev kk = y at hx hcall
      clear hy hx0
      cases hq : pv kk with
      | true =>
        rw [hq] at hcall
        go_wp2_with (go_at_fn g; refine hcall.mono ?_; rintro e w' ⟨rfl, hb'⟩)
        go_ret
        exact ⟨by rw [idx_hit pv n kk hlt hq HA.out]; rfl, below_step BW.out hb'⟩
      | false =>
        rw [hq] at hcall
        go_wp2_with (go_at_fn g; refine hcall.mono ?_; rintro e w' ⟨rfl, hb'⟩)
        go_roundg (n - (kk + 1))
        case measure => omega
        case rel =>
          refine ⟨kk + 1, by omega, by omega, by go_num, ⟨below_step BW.out hb'⟩, ⟨fun j hj => ?_⟩⟩
          by_cases e : j = kk
          · subst e
            exact hq
          · exact HA.out j (by omega)
    · have hltz : ¬ (kk : Int) < (n : Int) := by omega
      have : kk = n := by omega
      subst this
      go_wp2
      go_ret
      exact ⟨by rw [idx_miss pv kk HA.out]; rfl, BW.out⟩
set_option maxHeartbeats 4000000 in
theorem contains177 (g : Nat) (lb : Array Value) (eg : ∀ args w, (callFunc g args).run Try.prog w = .ok (.enter g args) w) (ev : Nat → Value) (pv : Nat → Bool)
    (A : Option Addr) (n c : Nat) (w : World) (hn : n ≤ 9223372036854775807)
    (hc : ∀ j, j < n → ∃ ad, A = some ad ∧ w.cell? (ad.add j) = some (ev j))
    (hp : ∀ j, j < n → ∀ W, Below w.heap.size w W → Calls Try.prog g (#[ev j] ++ lb) W fun e w' => e = .returned (.bool (pv j)) ∧ Below W.heap.size W w') :
    Calls Try.prog 139 #[.slice A n c, .func (.func g) #[] lb] w fun e w' => e = .returned (.bool ((List.range n).any pv)) ∧ Below w.heap.size w w' := by
  have H := Aside0.mk (index177 g lb eg ev pv A n c w hn hc hp)
  clear hc hp
  rw [← idx_any pv n]
  go_enter Try.func139, Try.ntmps139
  go_wp2_with (go_at_call 177; refine H.out.mono ?_; rintro e w' ⟨rfl, hb'⟩)
  go_ret
  exact ⟨rfl, hb'⟩
end Go.Proofs.Yteiiodlgdbiimaa.F
end
section
namespace Go.Proofs.Yteiiodlgdbiimaa.F
open Go.RowKit Go.Shelf Go.Proofs.YteiiodlgdbiimaaW.PrintWords Go.Proofs.YteiiodlgdbiimaaW.PrintLast Go.Proofs.YteiiodlgdbiimaaW.PrintMore
set_option linter.unusedVariables false
set_option linter.unusedSimpArgs false
def varsW (a : Int) (n m : Nat) : Int := wrap64 ((wrap64 (a + (n : Int))) + (m : Int))
def beyW (V x : Int) : Bool := decide (V < wrap64 (x / 2))
def listOk (V : Int) (l : List Int) : Bool := !decide (1024 < (l.length : Int)) && !l.any (beyW V)
def latchOk (V : Int) (x : S41) : Bool := !decide (2 < x.f1) && !beyW V x.f0
def gatesOk : Int → List S68 → Bool
  | _, [] => true
  | o, g :: gs => !decide (IntKind.u32.wrap (o + 1) ≤ g.f0 / 2) && !decide (g.f0 < g.f1) && gatesOk (IntKind.u32.wrap (o + 1)) gs
def mayB (a : Int) (l1 : List S41) (l2 : List S68) (l3 l4 l5 : List Int) : Bool :=
  !decide (a < 0) && !decide (16384 < a) && !decide (16384 < varsW a l1.length l2.length) && listOk (varsW a l1.length l2.length) l3 && listOk (varsW a l1.length l2.length) l4 && listOk (varsW a l1.length l2.length) l5
    && l1.all (latchOk (varsW a l1.length l2.length)) && gatesOk (IntKind.u32.wrap (wrap64 (a + (l1.length : Int)))) l2
set_option maxHeartbeats 4000000 in
theorem may1 (a0 : Int) (A1 : Option Addr) (c1 : Nat) (l1 : List S41) (A2 : Option Addr) (c2 : Nat) (l2 : List S68) (A3 : Option Addr) (c3 : Nat) (l3 : List Int) (A4 : Option Addr) (c4 : Nat) (l4 : List Int) (A5 : Option Addr) (c5 : Nat) (l5 : List Int)
    (g : Nat) (x : Int) (w : World) (hr1 : Kd.C k41 w A1 l1.length l1) (hc1 : l1.length ≤ c1) (hr2 : Kd.C k68 w A2 l2.length l2) (hc2 : l2.length ≤ c2) (hr3 : Kd.C (Kd.int .u32) w A3 l3.length l3) (hc3 : l3.length ≤ c3) (hr4 : Kd.C (Kd.int .u32) w A4 l4.length l4) (hc4 : l4.length ≤ c4) (hr5 : Kd.C (Kd.int .u32) w A5 l5.length l5) (hc5 : l5.length ≤ c5)
    (hb : w.heap[g]? = some (.cells #[.int .i64 a0, .slice A1 l1.length c1, .slice A2 l2.length c2, .slice A3 l3.length c3, .slice A4 l4.length c4, .slice A5 l5.length c5] 26 (0, 0))) :
    Calls Try.prog 144 #[.int .u32 x, .pointer (some ⟨g, 0, none⟩)] w fun e w' => e = .returned (.bool (beyW (varsW a0 l1.length l2.length) x)) ∧ Below w.heap.size w w' := by
  have hu26 := Try.underlying26
  have hv := norm_vars.calls a0 A1 c1 l1 A2 c2 l2 A3 c3 l3 A4 c4 l4 A5 c5 l5 _ w hr1 hc1 hr2 hc2 hr3 hc3 hr4 hc4 hr5 hc5 rfl
  have HV := Aside0.mk hv
  clear hv hr1 hr2 hr3 hr4 hr5 hc1 hc2 hc3 hc4 hc5
  have z0 : w.cell? ⟨g, 0, none⟩ = some (.int .i64 a0) := (blk_cell hb 0).trans rfl
  have z1 : w.cell? ⟨g, 1, none⟩ = some (.slice A1 l1.length c1) := (blk_cell hb 1).trans rfl
  have z2 : w.cell? ⟨g, 2, none⟩ = some (.slice A2 l2.length c2) := (blk_cell hb 2).trans rfl
  have z3 : w.cell? ⟨g, 3, none⟩ = some (.slice A3 l3.length c3) := (blk_cell hb 3).trans rfl
  have z4 : w.cell? ⟨g, 4, none⟩ = some (.slice A4 l4.length c4) := (blk_cell hb 4).trans rfl
  have z5 : w.cell? ⟨g, 5, none⟩ = some (.slice A5 l5.length c5) := (blk_cell hb 5).trans rfl
  clear hb
  go_enter Try.func144, Try.ntmps144
  go_wp2_with (go_at_call 143; refine HV.out.mono ?_; rintro e w' ⟨rfl, hb'⟩)
  go_ret
  exact ⟨rfl, hb'⟩
def norm_May.f (a0_0 : Int) (l0_1 : List (S41)) (l0_2 : List (S68)) (l0_3 : List Int) (l0_4 : List Int) (l0_5 : List Int) : Option (Bool) := some (mayB a0_0 l0_1 l0_2 l0_3 l0_4 l0_5)
structure MayAt (a0 : Int) (A1 : Option Addr) (c1 : Nat) (l1 : List S41) (A2 : Option Addr) (c2 : Nat) (l2 : List S68) (A3 : Option Addr) (c3 : Nat) (l3 : List Int) (A4 : Option Addr) (c4 : Nat) (l4 : List Int) (A5 : Option Addr) (c5 : Nat) (l5 : List Int) (g : Nat) (w W : World) : Prop where
  below : Below w.heap.size w W
  blk : W.heap[g]? = some (.cells #[.int .i64 a0, .slice A1 l1.length c1, .slice A2 l2.length c2, .slice A3 l3.length c3, .slice A4 l4.length c4, .slice A5 l5.length c5] 26 (0, 0))
  h1 : Kd.C k41 W A1 l1.length l1
  h2 : Kd.C k68 W A2 l2.length l2
  h3 : Kd.C (Kd.int .u32) W A3 l3.length l3
  h4 : Kd.C (Kd.int .u32) W A4 l4.length l4
  h5 : Kd.C (Kd.int .u32) W A5 l5.length l5
theorem MayAt.step {a0 : Int} {A1 : Option Addr} {c1 : Nat} {l1 : List S41} {A2 : Option Addr} {c2 : Nat} {l2 : List S68} {A3 : Option Addr} {c3 : Nat} {l3 : List Int} {A4 : Option Addr} {c4 : Nat} {l4 : List Int} {A5 : Option Addr} {c5 : Nat} {l5 : List Int} {g : Nat} {w W W' : World}
    (h : MayAt a0 A1 c1 l1 A2 c2 l2 A3 c3 l3 A4 c4 l4 A5 c5 l5 g w W) (hb : Below W.heap.size W W') : MayAt a0 A1 c1 l1 A2 c2 l2 A3 c3 l3 A4 c4 l4 A5 c5 l5 g w W' :=
  ⟨below_step h.below hb, blk_below h.blk hb, Kd.C_below h.h1 hb, Kd.C_below h.h2 hb, Kd.C_below h.h3 hb, Kd.C_below h.h4 hb, Kd.C_below h.h5 hb⟩
theorem mayAny (a0 : Int) (A1 : Option Addr) (c1 : Nat) (l1 : List S41) (A2 : Option Addr) (c2 : Nat) (l2 : List S68) (A3 : Option Addr) (c3 : Nat) (l3 : List Int) (A4 : Option Addr) (c4 : Nat) (l4 : List Int) (A5 : Option Addr) (c5 : Nat) (l5 : List Int) (g : Nat) (w W : World) (h : MayAt a0 A1 c1 l1 A2 c2 l2 A3 c3 l3 A4 c4 l4 A5 c5 l5 g w W) (hc1 : l1.length ≤ c1) (hc2 : l2.length ≤ c2) (hc3 : l3.length ≤ c3) (hc4 : l4.length ≤ c4) (hc5 : l5.length ≤ c5)
    (A : Option Addr) (c : Nat) (l : List Int) (hl : Kd.C (Kd.int .u32) W A l.length l) :
    Calls Try.prog 139 #[.slice A l.length c, .func (.func 144) #[] #[.pointer (some ⟨g, 0, none⟩)]] W fun e w' => e = .returned (.bool (l.any (beyW (varsW a0 l1.length l2.length)))) ∧ Below W.heap.size W w' := by
  have e : l.any (beyW (varsW a0 l1.length l2.length)) = (List.range l.length).any (fun j => beyW (varsW a0 l1.length l2.length) (l.getD j 0)) := by
    rw [Bool.eq_iff_iff, List.any_eq_true, List.any_eq_true]
    constructor
    · rintro ⟨x, hx, hp⟩
      obtain ⟨j, hj, rfl⟩ := List.mem_iff_getElem.1 hx
      exact ⟨j, List.mem_range.2 hj, by simpa [List.getD_eq_getElem?_getD, List.getElem?_eq_getElem hj] using hp⟩
    · rintro ⟨j, hj, hp⟩
      have hj' := List.mem_range.1 hj
      exact ⟨l[j], List.getElem_mem hj', by simpa [List.getD_eq_getElem?_getD, List.getElem?_eq_getElem hj'] using hp⟩
  rw [e]
  refine contains177 144 #[.pointer (some ⟨g, 0, none⟩)] (enters_of Try.func144 (by kernel_rfl) rfl) (fun j => .int .u32 (l.getD j 0)) _ A l.length c W hl.2.1 (fun j hj => ?_) (fun j hj W' hb => ?_)
  · obtain ⟨ad, e, hx⟩ := Kd.at_int hl (j : Int) (by omega) (by omega)
    exact ⟨ad, e, by simpa [rd] using hx⟩
  · have h' := h.step hb
    exact may1 a0 A1 c1 l1 A2 c2 l2 A3 c3 l3 A4 c4 l4 A5 c5 l5 g _ W' h'.h1 hc1 h'.h2 hc2 h'.h3 hc3 h'.h4 hc4 h'.h5 hc5 h'.blk
set_option maxHeartbeats 8000000 in
set_option maxRecDepth 100000 in
theorem norm_May.calls (a0 : Int) (A1 : Option Addr) (c1 : Nat) (l1 : List S41) (A2 : Option Addr) (c2 : Nat) (l2 : List S68) (A3 : Option Addr) (c3 : Nat) (l3 : List Int) (A4 : Option Addr) (c4 : Nat) (l4 : List Int) (A5 : Option Addr) (c5 : Nat) (l5 : List Int)
  (r : Bool) (w : World) (hr1 : Kd.C k41 w A1 l1.length l1) (hc1 : l1.length ≤ c1) (hr2 : Kd.C k68 w A2 l2.length l2) (hc2 : l2.length ≤ c2) (hr3 : Kd.C (Kd.int .u32) w A3 l3.length l3) (hc3 : l3.length ≤ c3) (hr4 : Kd.C (Kd.int .u32) w A4 l4.length l4) (hc4 : l4.length ≤ c4) (hr5 : Kd.C (Kd.int .u32) w A5 l5.length l5) (hc5 : l5.length ≤ c5)
  (h : norm_May.f a0 l1 l2 l3 l4 l5 = some r) :
  Calls Try.prog 92 #[.agg #[.int .i64 a0, .slice A1 l1.length c1, .slice A2 l2.length c2, .slice A3 l3.length c3, .slice A4 l4.length c4, .slice A5 l5.length c5]] w fun e w' => e = .returned (.bool r) ∧ Below w.heap.size w w' := by
 obtain rfl := Option.some.inj h
 clear h
 have hu26 := Try.underlying26
 have hu41 := Try.underlying41
 have hu68 := Try.underlying68
 have HV := Aside0.mk (fun W (h : MayAt a0 A1 c1 l1 A2 c2 l2 A3 c3 l3 A4 c4 l4 A5 c5 l5 w.heap.size w W) => norm_vars.calls a0 A1 c1 l1 A2 c2 l2 A3 c3 l3 A4 c4 l4 A5 c5 l5 _ W h.h1 hc1 h.h2 hc2 h.h3 hc3 h.h4 hc4 h.h5 hc5 rfl)
 have HQ := Aside0.mk (fun W (h : MayAt a0 A1 c1 l1 A2 c2 l2 A3 c3 l3 A4 c4 l4 A5 c5 l5 w.heap.size w W) => mayAny a0 A1 c1 l1 A2 c2 l2 A3 c3 l3 A4 c4 l4 A5 c5 l5 w.heap.size w W h hc1 hc2 hc3 hc4 hc5)
 have H0 := Aside0.mk (fun W (hb : Below w.heap.size w W) (hk : W.heap[w.heap.size]? = some (.cells #[.int .i64 a0, .slice A1 l1.length c1, .slice A2 l2.length c2, .slice A3 l3.length c3, .slice A4 l4.length c4, .slice A5 l5.length c5] 26 (0, 0))) => (⟨hb, hk, Kd.C_below hr1 hb, Kd.C_below hr2 hb, Kd.C_below hr3 hb, Kd.C_below hr4 hb, Kd.C_below hr5 hb⟩ : MayAt a0 A1 c1 l1 A2 c2 l2 A3 c3 l3 A4 c4 l4 A5 c5 l5 w.heap.size w W))
 have HB1 := Aside0.mk (fun W (h : MayAt a0 A1 c1 l1 A2 c2 l2 A3 c3 l3 A4 c4 l4 A5 c5 l5 w.heap.size w W) x => may1 a0 A1 c1 l1 A2 c2 l2 A3 c3 l3 A4 c4 l4 A5 c5 l5 w.heap.size x W h.h1 hc1 h.h2 hc2 h.h3 hc3 h.h4 hc4 h.h5 hc5 h.blk)
 clear hr1 hr2 hr3 hr4 hr5
 by_cases d1 : a0 < 0
 ·
  have R : Aside0 (mayB a0 l1 l2 l3 l4 l5 = false) := ⟨by simp [mayB, d1]⟩
  have d1b : decide (a0 < 0) = true := decide_eq_true d1
  go_enter Try.func92, Try.ntmps92
  go_wp2_with ((with_reducible refine gate_dst (N := 1) rfl ?_); (try (refine gate_guard (by rfl) ?_; dsimp only)); refine box_event ?hg (N := 1) ?hd (cs := #[.int .i64 a0, .slice A1 l1.length c1, .slice A2 l2.length c2, .slice A3 l3.length c3, .slice A4 l4.length c4, .slice A5 l5.length c5]) (t := 26) ?hr ?_; (case hd => rfl); (case hg => rfl); (case hr => first | (go_simp; done) | (go_simp; rfl)); intro g hg_ w1 BK HB; subst hg_; have z0 : w1.cell? ⟨w.heap.size, 0, none⟩ = some (.int .i64 a0) := (blk_cell BK 0).trans rfl; have z1 : w1.cell? ⟨w.heap.size, 1, none⟩ = some (.slice A1 l1.length c1) := (blk_cell BK 1).trans rfl; have z2 : w1.cell? ⟨w.heap.size, 2, none⟩ = some (.slice A2 l2.length c2) := (blk_cell BK 2).trans rfl; have z3 : w1.cell? ⟨w.heap.size, 3, none⟩ = some (.slice A3 l3.length c3) := (blk_cell BK 3).trans rfl; have z4 : w1.cell? ⟨w.heap.size, 4, none⟩ = some (.slice A4 l4.length c4) := (blk_cell BK 4).trans rfl; have z5 : w1.cell? ⟨w.heap.size, 5, none⟩ = some (.slice A5 l5.length c5) := (blk_cell BK 5).trans rfl)
  go_ret
  exact ⟨by rw [R.out]; rfl, HB⟩
 have d1b : decide (a0 < 0) = false := decide_eq_false d1
 by_cases d2 : 16384 < a0
 ·
  have R : Aside0 (mayB a0 l1 l2 l3 l4 l5 = false) := ⟨by simp [mayB, d2]⟩
  have d2b : decide (16384 < a0) = true := decide_eq_true d2
  go_enter Try.func92, Try.ntmps92
  go_wp2_with ((with_reducible refine gate_dst (N := 1) rfl ?_); (try (refine gate_guard (by rfl) ?_; dsimp only)); refine box_event ?hg (N := 1) ?hd (cs := #[.int .i64 a0, .slice A1 l1.length c1, .slice A2 l2.length c2, .slice A3 l3.length c3, .slice A4 l4.length c4, .slice A5 l5.length c5]) (t := 26) ?hr ?_; (case hd => rfl); (case hg => rfl); (case hr => first | (go_simp; done) | (go_simp; rfl)); intro g hg_ w1 BK HB; subst hg_; have z0 : w1.cell? ⟨w.heap.size, 0, none⟩ = some (.int .i64 a0) := (blk_cell BK 0).trans rfl; have z1 : w1.cell? ⟨w.heap.size, 1, none⟩ = some (.slice A1 l1.length c1) := (blk_cell BK 1).trans rfl; have z2 : w1.cell? ⟨w.heap.size, 2, none⟩ = some (.slice A2 l2.length c2) := (blk_cell BK 2).trans rfl; have z3 : w1.cell? ⟨w.heap.size, 3, none⟩ = some (.slice A3 l3.length c3) := (blk_cell BK 3).trans rfl; have z4 : w1.cell? ⟨w.heap.size, 4, none⟩ = some (.slice A4 l4.length c4) := (blk_cell BK 4).trans rfl; have z5 : w1.cell? ⟨w.heap.size, 5, none⟩ = some (.slice A5 l5.length c5) := (blk_cell BK 5).trans rfl)
  go_ret
  exact ⟨by rw [R.out]; rfl, HB⟩
 have d2b : decide (16384 < a0) = false := decide_eq_false d2
 generalize hV : varsW a0 l1.length l2.length = V at HQ HB1
 have HVE := Aside0.mk hV
 clear hV
 have HV := Aside0.mk (fun W h => by have := HV.out W h; rw [show wrap64 ((wrap64 (a0 + (l1.length : Int))) + (l2.length : Int)) = V from HVE.out] at this; exact this)
 by_cases d3 : 16384 < V
 ·
  have R : Aside0 (mayB a0 l1 l2 l3 l4 l5 = false) := ⟨by simp [mayB, HVE.out, d3]⟩
  have d3b : decide (16384 < V) = true := decide_eq_true d3
  go_enter Try.func92, Try.ntmps92
  go_wp2_with (first | ((with_reducible refine gate_dst (N := 1) rfl ?_); (try (refine gate_guard (by rfl) ?_; dsimp only)); refine box_event ?hg (N := 1) ?hd (cs := #[.int .i64 a0, .slice A1 l1.length c1, .slice A2 l2.length c2, .slice A3 l3.length c3, .slice A4 l4.length c4, .slice A5 l5.length c5]) (t := 26) ?hr ?_; (case hd => rfl); (case hg => rfl); (case hr => first | (go_simp; done) | (go_simp; rfl)); intro g hg_ w1 BK HB; subst hg_; have z0 : w1.cell? ⟨w.heap.size, 0, none⟩ = some (.int .i64 a0) := (blk_cell BK 0).trans rfl; have z1 : w1.cell? ⟨w.heap.size, 1, none⟩ = some (.slice A1 l1.length c1) := (blk_cell BK 1).trans rfl; have z2 : w1.cell? ⟨w.heap.size, 2, none⟩ = some (.slice A2 l2.length c2) := (blk_cell BK 2).trans rfl; have z3 : w1.cell? ⟨w.heap.size, 3, none⟩ = some (.slice A3 l3.length c3) := (blk_cell BK 3).trans rfl; have z4 : w1.cell? ⟨w.heap.size, 4, none⟩ = some (.slice A4 l4.length c4) := (blk_cell BK 4).trans rfl; have z5 : w1.cell? ⟨w.heap.size, 5, none⟩ = some (.slice A5 l5.length c5) := (blk_cell BK 5).trans rfl; have HM := Aside0.mk (H0.out _ HB BK)) | (go_at_call 143; refine (HV.out _ HM.out).mono ?_; rintro e w' ⟨rfl, hb'⟩))
  go_ret
  exact ⟨by rw [R.out]; rfl, below_step HM.out.below hb'⟩
 have d3b : decide (16384 < V) = false := decide_eq_false d3
 go_enter Try.func92, Try.ntmps92
 go_wp2_with (first | ((with_reducible refine gate_dst (N := 1) rfl ?_); (try (refine gate_guard (by rfl) ?_; dsimp only)); refine box_event ?hg (N := 1) ?hd (cs := #[.int .i64 a0, .slice A1 l1.length c1, .slice A2 l2.length c2, .slice A3 l3.length c3, .slice A4 l4.length c4, .slice A5 l5.length c5]) (t := 26) ?hr ?_; (case hd => rfl); (case hg => rfl); (case hr => first | (go_simp; done) | (go_simp; rfl)); intro g hg_ w1 BK HB; subst hg_; have z0 : w1.cell? ⟨w.heap.size, 0, none⟩ = some (.int .i64 a0) := (blk_cell BK 0).trans rfl; have z1 : w1.cell? ⟨w.heap.size, 1, none⟩ = some (.slice A1 l1.length c1) := (blk_cell BK 1).trans rfl; have z2 : w1.cell? ⟨w.heap.size, 2, none⟩ = some (.slice A2 l2.length c2) := (blk_cell BK 2).trans rfl; have z3 : w1.cell? ⟨w.heap.size, 3, none⟩ = some (.slice A3 l3.length c3) := (blk_cell BK 3).trans rfl; have z4 : w1.cell? ⟨w.heap.size, 4, none⟩ = some (.slice A4 l4.length c4) := (blk_cell BK 4).trans rfl; have z5 : w1.cell? ⟨w.heap.size, 5, none⟩ = some (.slice A5 l5.length c5) := (blk_cell BK 5).trans rfl; have HM := Aside0.mk (H0.out _ HB BK)) | (go_at_call 143; refine (HV.out _ HM.out).mono ?_; rintro e w' ⟨rfl, hb'⟩; have HM2 := Aside0.mk (HM.out.step hb'); clear HB BK HM z0 z1 z2 z3 z4 z5 hb'; have z0 : w'.cell? ⟨w.heap.size, 0, none⟩ = some (.int .i64 a0) := (blk_cell HM2.out.blk 0).trans rfl; have z1 : w'.cell? ⟨w.heap.size, 1, none⟩ = some (.slice A1 l1.length c1) := (blk_cell HM2.out.blk 1).trans rfl; have z2 : w'.cell? ⟨w.heap.size, 2, none⟩ = some (.slice A2 l2.length c2) := (blk_cell HM2.out.blk 2).trans rfl; have z3 : w'.cell? ⟨w.heap.size, 3, none⟩ = some (.slice A3 l3.length c3) := (blk_cell HM2.out.blk 3).trans rfl; have z4 : w'.cell? ⟨w.heap.size, 4, none⟩ = some (.slice A4 l4.length c4) := (blk_cell HM2.out.blk 4).trans rfl; have z5 : w'.cell? ⟨w.heap.size, 5, none⟩ = some (.slice A5 l5.length c5) := (blk_cell HM2.out.blk 5).trans rfl))
 have MB : Aside0 (mayB a0 l1 l2 l3 l4 l5 = ([l3, l4, l5].all (listOk V) && (l1.all (latchOk V) && gatesOk (IntKind.u32.wrap (wrap64 (a0 + (l1.length : Int)))) l2))) := ⟨by simp [mayB, HVE.out, d1b, d2b, d3b, Bool.and_assoc]⟩
 go_loopg [33] 3 (fun gg v33 wr => ∃ k : Nat, k ≤ 3 ∧ 3 - k ≤ gg ∧ v33 = .int .i64 k ∧ Aside0 (MayAt a0 A1 c1 l1 A2 c2 l2 A3 c3 l3 A4 c4 l4 A5 c5 l5 w.heap.size w wr) ∧ Aside0 (wr.heap[w'.heap.size]? = some (.cells #[.slice A3 l3.length c3, .slice A4 l4.length c4, .slice A5 l5.length c5] 24 (0, 0)))
  ∧ Aside0 (mayB a0 l1 l2 l3 l4 l5 = (([l3, l4, l5].drop k).all (listOk V) && (l1.all (latchOk V) && gatesOk (IntKind.u32.wrap (wrap64 (a0 + (l1.length : Int)))) l2))))
 case atStart => exact ⟨0, by omega, by omega, rfl, ⟨HM2.out.step (below_alloc (Below.refl _ _) _)⟩, ⟨blk_new _ _⟩, MB⟩
 case round =>
  clear z0 z1 z2 z3 z4 z5 MB
  obtain ⟨k, hk, hg, rfl, HM, BS, MB⟩ := hrel
  have s0 : wr.cell? ⟨w'.heap.size, 0, none⟩ = some (.slice A3 l3.length c3) := (blk_cell BS.out 0).trans rfl
  have s1 : wr.cell? ⟨w'.heap.size, 1, none⟩ = some (.slice A4 l4.length c4) := (blk_cell BS.out 1).trans rfl
  have s2 : wr.cell? ⟨w'.heap.size, 2, none⟩ = some (.slice A5 l5.length c5) := (blk_cell BS.out 2).trans rfl
  match k, hk with
  | 0, _ =>
   by_cases e1 : 1024 < (l3.length : Int)
   ·
    have R : Aside0 (mayB a0 l1 l2 l3 l4 l5 = false) := ⟨MB.out.trans (by simp [listOk, e1])⟩
    have e1b : decide (1024 < (l3.length : Int)) = true := decide_eq_true e1
    have e1c : decide (1024 < l3.length) = true := decide_eq_true (by omega)
    clear e1
    go_wp2
    go_ret
    exact ⟨by rw [R.out]; rfl, HM.out.below⟩
   ·
    have e1b : decide (1024 < (l3.length : Int)) = false := decide_eq_false e1
    have e1c : decide (1024 < l3.length) = false := decide_eq_false (by omega)
    clear e1
    have hcall := HQ.out wr HM.out A3 c3 l3 HM.out.h3
    cases hq : l3.any (beyW V) with
    | true =>
     have R : Aside0 (mayB a0 l1 l2 l3 l4 l5 = false) := ⟨MB.out.trans (by simp [listOk, hq])⟩
     rw [hq] at hcall
     clear hq
     have hcall := Aside0.mk hcall
     go_wp2_with (go_at_call 139; refine hcall.out.mono ?_; rintro e w3 ⟨rfl, hb'⟩)
     go_ret
     exact ⟨by rw [R.out]; rfl, below_step HM.out.below hb'⟩
    | false =>
     have R : Aside0 (mayB a0 l1 l2 l3 l4 l5 = (([l3, l4, l5].drop 1).all (listOk V) && (l1.all (latchOk V) && gatesOk (IntKind.u32.wrap (wrap64 (a0 + (l1.length : Int)))) l2))) := ⟨MB.out.trans (by simp [listOk, hq, e1b, e1c]; try omega)⟩
     rw [hq] at hcall
     clear hq
     have hcall := Aside0.mk hcall
     go_wp2_with (go_at_call 139; refine hcall.out.mono ?_; rintro e w3 ⟨rfl, hb'⟩)
     go_roundg (2 - 0)
     case measure => omega
     case rel => exact ⟨1, by omega, by omega, by go_num, ⟨HM.out.step hb'⟩, ⟨blk_below BS.out hb'⟩, R⟩
  | 1, _ =>
   by_cases e1 : 1024 < (l4.length : Int)
   ·
    have R : Aside0 (mayB a0 l1 l2 l3 l4 l5 = false) := ⟨MB.out.trans (by simp [listOk, e1])⟩
    have e1b : decide (1024 < (l4.length : Int)) = true := decide_eq_true e1
    have e1c : decide (1024 < l4.length) = true := decide_eq_true (by omega)
    clear e1
    go_wp2
    go_ret
    exact ⟨by rw [R.out]; rfl, HM.out.below⟩
   ·
    have e1b : decide (1024 < (l4.length : Int)) = false := decide_eq_false e1
    have e1c : decide (1024 < l4.length) = false := decide_eq_false (by omega)
    clear e1
    have hcall := HQ.out wr HM.out A4 c4 l4 HM.out.h4
    cases hq : l4.any (beyW V) with
    | true =>
     have R : Aside0 (mayB a0 l1 l2 l3 l4 l5 = false) := ⟨MB.out.trans (by simp [listOk, hq])⟩
     rw [hq] at hcall
     clear hq
     have hcall := Aside0.mk hcall
     go_wp2_with (go_at_call 139; refine hcall.out.mono ?_; rintro e w3 ⟨rfl, hb'⟩)
     go_ret
     exact ⟨by rw [R.out]; rfl, below_step HM.out.below hb'⟩
    | false =>
     have R : Aside0 (mayB a0 l1 l2 l3 l4 l5 = (([l3, l4, l5].drop 2).all (listOk V) && (l1.all (latchOk V) && gatesOk (IntKind.u32.wrap (wrap64 (a0 + (l1.length : Int)))) l2))) := ⟨MB.out.trans (by simp [listOk, hq, e1b, e1c]; try omega)⟩
     rw [hq] at hcall
     clear hq
     have hcall := Aside0.mk hcall
     go_wp2_with (go_at_call 139; refine hcall.out.mono ?_; rintro e w3 ⟨rfl, hb'⟩)
     go_roundg (2 - 1)
     case measure => omega
     case rel => exact ⟨2, by omega, by omega, by go_num, ⟨HM.out.step hb'⟩, ⟨blk_below BS.out hb'⟩, R⟩
  | 2, _ =>
   by_cases e1 : 1024 < (l5.length : Int)
   ·
    have R : Aside0 (mayB a0 l1 l2 l3 l4 l5 = false) := ⟨MB.out.trans (by simp [listOk, e1])⟩
    have e1b : decide (1024 < (l5.length : Int)) = true := decide_eq_true e1
    have e1c : decide (1024 < l5.length) = true := decide_eq_true (by omega)
    clear e1
    go_wp2
    go_ret
    exact ⟨by rw [R.out]; rfl, HM.out.below⟩
   ·
    have e1b : decide (1024 < (l5.length : Int)) = false := decide_eq_false e1
    have e1c : decide (1024 < l5.length) = false := decide_eq_false (by omega)
    clear e1
    have hcall := HQ.out wr HM.out A5 c5 l5 HM.out.h5
    cases hq : l5.any (beyW V) with
    | true =>
     have R : Aside0 (mayB a0 l1 l2 l3 l4 l5 = false) := ⟨MB.out.trans (by simp [listOk, hq])⟩
     rw [hq] at hcall
     clear hq
     have hcall := Aside0.mk hcall
     go_wp2_with (go_at_call 139; refine hcall.out.mono ?_; rintro e w3 ⟨rfl, hb'⟩)
     go_ret
     exact ⟨by rw [R.out]; rfl, below_step HM.out.below hb'⟩
    | false =>
     have R : Aside0 (mayB a0 l1 l2 l3 l4 l5 = (([l3, l4, l5].drop 3).all (listOk V) && (l1.all (latchOk V) && gatesOk (IntKind.u32.wrap (wrap64 (a0 + (l1.length : Int)))) l2))) := ⟨MB.out.trans (by simp [listOk, hq, e1b, e1c]; try omega)⟩
     rw [hq] at hcall
     clear hq
     have hcall := Aside0.mk hcall
     go_wp2_with (go_at_call 139; refine hcall.out.mono ?_; rintro e w3 ⟨rfl, hb'⟩)
     go_roundg (2 - 2)
     case measure => omega
     case rel => exact ⟨3, by omega, by omega, by go_num, ⟨HM.out.step hb'⟩, ⟨blk_below BS.out hb'⟩, R⟩
  | 3, _ =>
   clear s0 s1 s2
   have z0 : wr.cell? ⟨w.heap.size, 0, none⟩ = some (.int .i64 a0) := (blk_cell HM.out.blk 0).trans rfl
   have z1 : wr.cell? ⟨w.heap.size, 1, none⟩ = some (.slice A1 l1.length c1) := (blk_cell HM.out.blk 1).trans rfl
   have z2 : wr.cell? ⟨w.heap.size, 2, none⟩ = some (.slice A2 l2.length c2) := (blk_cell HM.out.blk 2).trans rfl
   have z3 : wr.cell? ⟨w.heap.size, 3, none⟩ = some (.slice A3 l3.length c3) := (blk_cell HM.out.blk 3).trans rfl
   have z4 : wr.cell? ⟨w.heap.size, 4, none⟩ = some (.slice A4 l4.length c4) := (blk_cell HM.out.blk 4).trans rfl
   have z5 : wr.cell? ⟨w.heap.size, 5, none⟩ = some (.slice A5 l5.length c5) := (blk_cell HM.out.blk 5).trans rfl
   have MB := Aside0.mk (MB.out.trans (by simp : _ = (l1.all (latchOk V) && gatesOk (IntKind.u32.wrap (wrap64 (a0 + (l1.length : Int)))) l2)))
   have n1 := HM.out.h1.2.1
   have n2 := HM.out.h2.2.1
   go_wp2
   go_loopg [49] l1.length (fun gg v49 wq => ∃ k : Nat, k ≤ l1.length ∧ l1.length - k ≤ gg ∧ v49 = .int .i64 k ∧ Aside0 (MayAt a0 A1 c1 l1 A2 c2 l2 A3 c3 l3 A4 c4 l4 A5 c5 l5 w.heap.size w wq)
    ∧ Aside0 (mayB a0 l1 l2 l3 l4 l5 = ((l1.drop k).all (latchOk V) && gatesOk (IntKind.u32.wrap (wrap64 (a0 + (l1.length : Int)))) l2)))
   case atStart => exact ⟨0, by omega, by omega, rfl, HM, MB⟩
   case round =>
    clear z0 z1 z2 z3 z4 z5 MB HM BS
    obtain ⟨k, hk, hg, rfl, HM, MB⟩ := hrel
    by_cases hlt : k < l1.length
    ·
     have hltz : (k : Int) < (l1.length : Int) := by omega
     obtain ⟨ad, e, x0, x1⟩ := at_T41 HM.out.h1 (k : Int) (by omega) hltz
     cases e
     have ek : (k : Int).toNat = k := by omega
     rw [ek] at x0 x1
     clear ek
     have E : Aside0 ((l1.drop k).all (latchOk V) = (latchOk V (rd_T41 l1 k) && (l1.drop (k + 1)).all (latchOk V))) := ⟨by rw [List.drop_eq_getElem_cons hlt, List.all_cons]; simp [rd_T41, List.getD_eq_getElem?_getD, List.getElem?_eq_getElem hlt]⟩
     generalize rd_T41 l1 (k : Int) = y at x0 x1 E
     by_cases e1 : 2 < y.f1
     ·
      have R : Aside0 (mayB a0 l1 l2 l3 l4 l5 = false) := ⟨MB.out.trans (by rw [E.out]; simp [latchOk, e1])⟩
      have e1b : decide (2 < y.f1) = true := decide_eq_true e1
      clear e1
      go_wp2_with ((with_reducible refine gate_dst (N := 7) rfl ?_); (try (refine gate_guard (by rfl) ?_; dsimp only)); refine box_event ?hg (N := 7) ?hd (cs := #[.int .u32 0, .int .u8 0]) (t := 41) ?hr ?_; (case hd => rfl); (case hg => rfl); (case hr => first | (go_simp; done) | (go_simp; rfl)); intro g7 hg_ w7 bk7 hb7; have ge7 := Aside0.mk (Nat.le_of_eq hg_.symm); clear hg_; have y0 : w7.cell? ⟨g7, 0, none⟩ = some (.int .u32 0) := (blk_cell bk7 0).trans rfl; have y1 : w7.cell? ⟨g7, 1, none⟩ = some (.int .u8 0) := (blk_cell bk7 1).trans rfl; have f7_0 := blk_frozen bk7 0; have f7_1 := blk_frozen bk7 1)
      go_ret
      exact ⟨by rw [R.out]; rfl, below_step HM.out.below ((hb7.setCell (p := ⟨g7, 0, none⟩) ge7.out _).setCell (p := ⟨g7, 1, none⟩) ge7.out _)⟩
     ·
      have e1b : decide (2 < y.f1) = false := decide_eq_false e1
      clear e1
      have hcall := Aside0.mk (fun W hb => HB1.out W hb y.f0)
      cases hq : beyW V y.f0 with
      | true =>
       have R : Aside0 (mayB a0 l1 l2 l3 l4 l5 = false) := ⟨MB.out.trans (by rw [E.out]; simp [latchOk, hq])⟩
       rw [hq] at hcall
       clear hq
       go_wp2_with (first | ((with_reducible refine gate_dst (N := 7) rfl ?_); (try (refine gate_guard (by rfl) ?_; dsimp only)); refine box_event ?hg (N := 7) ?hd (cs := #[.int .u32 0, .int .u8 0]) (t := 41) ?hr ?_; (case hd => rfl); (case hg => rfl); (case hr => first | (go_simp; done) | (go_simp; rfl)); intro g7 hg_ w7 bk7 hb7; have ge7 := Aside0.mk (Nat.le_of_eq hg_.symm); clear hg_; have y0 : w7.cell? ⟨g7, 0, none⟩ = some (.int .u32 0) := (blk_cell bk7 0).trans rfl; have y1 : w7.cell? ⟨g7, 1, none⟩ = some (.int .u8 0) := (blk_cell bk7 1).trans rfl; have f7_0 := blk_frozen bk7 0; have f7_1 := blk_frozen bk7 1) | (go_at_call 144; refine (hcall.out _ (HM.out.step ((hb7.setCell (p := ⟨g7, 0, none⟩) ge7.out _).setCell (p := ⟨g7, 1, none⟩) ge7.out _))).mono ?_; rintro e w8 ⟨rfl, hb8⟩))
       go_ret
       exact ⟨by rw [R.out]; rfl, below_step HM.out.below (below_step ((hb7.setCell (p := ⟨g7, 0, none⟩) ge7.out _).setCell (p := ⟨g7, 1, none⟩) ge7.out _) hb8)⟩
      | false =>
       have R : Aside0 (mayB a0 l1 l2 l3 l4 l5 = ((l1.drop (k + 1)).all (latchOk V) && gatesOk (IntKind.u32.wrap (wrap64 (a0 + (l1.length : Int)))) l2)) := ⟨MB.out.trans (by rw [E.out]; simp [latchOk, hq, e1b]; try omega)⟩
       rw [hq] at hcall
       clear hq
       go_wp2_with (first | ((with_reducible refine gate_dst (N := 7) rfl ?_); (try (refine gate_guard (by rfl) ?_; dsimp only)); refine box_event ?hg (N := 7) ?hd (cs := #[.int .u32 0, .int .u8 0]) (t := 41) ?hr ?_; (case hd => rfl); (case hg => rfl); (case hr => first | (go_simp; done) | (go_simp; rfl)); intro g7 hg_ w7 bk7 hb7; have ge7 := Aside0.mk (Nat.le_of_eq hg_.symm); clear hg_; have y0 : w7.cell? ⟨g7, 0, none⟩ = some (.int .u32 0) := (blk_cell bk7 0).trans rfl; have y1 : w7.cell? ⟨g7, 1, none⟩ = some (.int .u8 0) := (blk_cell bk7 1).trans rfl; have f7_0 := blk_frozen bk7 0; have f7_1 := blk_frozen bk7 1) | (go_at_call 144; refine (hcall.out _ (HM.out.step ((hb7.setCell (p := ⟨g7, 0, none⟩) ge7.out _).setCell (p := ⟨g7, 1, none⟩) ge7.out _))).mono ?_; rintro e w8 ⟨rfl, hb8⟩))
       go_roundg (l1.length - (k + 1))
       case measure => omega
       case rel => exact ⟨k + 1, by omega, by omega, by go_num, ⟨HM.out.step (below_step ((hb7.setCell (p := ⟨g7, 0, none⟩) ge7.out _).setCell (p := ⟨g7, 1, none⟩) ge7.out _) hb8)⟩, R⟩
    ·
     have hltz : ¬ (k : Int) < (l1.length : Int) := by omega
     have MB : Aside0 (mayB a0 l1 l2 l3 l4 l5 = gatesOk (IntKind.u32.wrap (wrap64 (a0 + (l1.length : Int)))) l2) := ⟨MB.out.trans (by rw [List.drop_eq_nil_of_le (by omega)]; simp)⟩
     have z0 : wr.cell? ⟨w.heap.size, 0, none⟩ = some (.int .i64 a0) := (blk_cell HM.out.blk 0).trans rfl
     have z1 : wr.cell? ⟨w.heap.size, 1, none⟩ = some (.slice A1 l1.length c1) := (blk_cell HM.out.blk 1).trans rfl
     have z2 : wr.cell? ⟨w.heap.size, 2, none⟩ = some (.slice A2 l2.length c2) := (blk_cell HM.out.blk 2).trans rfl
     have z3 : wr.cell? ⟨w.heap.size, 3, none⟩ = some (.slice A3 l3.length c3) := (blk_cell HM.out.blk 3).trans rfl
     have z4 : wr.cell? ⟨w.heap.size, 4, none⟩ = some (.slice A4 l4.length c4) := (blk_cell HM.out.blk 4).trans rfl
     have z5 : wr.cell? ⟨w.heap.size, 5, none⟩ = some (.slice A5 l5.length c5) := (blk_cell HM.out.blk 5).trans rfl
     go_wp2
     go_loopg [8, 73] l2.length (fun gg v8 v73 wp => ∃ (k : Nat) (o : Int), k ≤ l2.length ∧ l2.length - k ≤ gg ∧ v8 = .int .u32 o ∧ v73 = .int .i64 k ∧ Aside0 (MayAt a0 A1 c1 l1 A2 c2 l2 A3 c3 l3 A4 c4 l4 A5 c5 l5 w.heap.size w wp)
      ∧ Aside0 (mayB a0 l1 l2 l3 l4 l5 = gatesOk o (l2.drop k)))
     case atStart => exact ⟨0, _, by omega, by omega, rfl, rfl, HM, MB⟩
     case round =>
      clear z0 z1 z2 z3 z4 z5 MB HM hltz hk hg
      obtain ⟨k, o, hk, hg, rfl, rfl, HM, MB⟩ := hrel
      by_cases hlt : k < l2.length
      ·
       have hltz : (k : Int) < (l2.length : Int) := by omega
       obtain ⟨ad, e, x0, x1⟩ := at_T68 HM.out.h2 (k : Int) (by omega) hltz
       cases e
       have ek : (k : Int).toNat = k := by omega
       rw [ek] at x0 x1
       clear ek
       have E : Aside0 (gatesOk o (l2.drop k) = (!decide (IntKind.u32.wrap (o + 1) ≤ (rd_T68 l2 k).f0 / 2) && !decide ((rd_T68 l2 k).f0 < (rd_T68 l2 k).f1) && gatesOk (IntKind.u32.wrap (o + 1)) (l2.drop (k + 1)))) := ⟨by rw [List.drop_eq_getElem_cons hlt, gatesOk]; simp [rd_T68, List.getD_eq_getElem?_getD, List.getElem?_eq_getElem hlt]⟩
       generalize rd_T68 l2 (k : Int) = y at x0 x1 E
       generalize ho : IntKind.u32.wrap (o + 1) = o1 at E
       by_cases e1 : o1 ≤ y.f0 / 2
       ·
        have R : Aside0 (mayB a0 l1 l2 l3 l4 l5 = false) := ⟨MB.out.trans (by rw [E.out]; simp [e1])⟩
        have e1b : decide (o1 ≤ y.f0 / 2) = true := decide_eq_true e1
        clear e1
        go_wp2_with ((with_reducible refine gate_dst (N := 10) rfl ?_); (try (refine gate_guard (by rfl) ?_; dsimp only)); refine box_event ?hg (N := 10) ?hd (cs := #[.int .u32 0, .int .u32 0]) (t := 68) ?hr ?_; (case hd => rfl); (case hg => rfl); (case hr => first | (go_simp; done) | (go_simp; rfl)); intro g7 hg_ w7 bk7 hb7; have ge7 := Aside0.mk (Nat.le_of_eq hg_.symm); clear hg_; have y0 : w7.cell? ⟨g7, 0, none⟩ = some (.int .u32 0) := (blk_cell bk7 0).trans rfl; have y1 : w7.cell? ⟨g7, 1, none⟩ = some (.int .u32 0) := (blk_cell bk7 1).trans rfl; have f7_0 := blk_frozen bk7 0; have f7_1 := blk_frozen bk7 1)
        go_ret
        exact ⟨by rw [R.out]; rfl, below_step HM.out.below ((hb7.setCell (p := ⟨g7, 0, none⟩) ge7.out _).setCell (p := ⟨g7, 1, none⟩) ge7.out _)⟩
       ·
        have e1b : decide (o1 ≤ y.f0 / 2) = false := decide_eq_false e1
        clear e1
        by_cases e2 : y.f0 < y.f1
        ·
         have R : Aside0 (mayB a0 l1 l2 l3 l4 l5 = false) := ⟨MB.out.trans (by rw [E.out]; simp [e2])⟩
         have e2b : decide (y.f0 < y.f1) = true := decide_eq_true e2
         clear e2
         go_wp2_with ((with_reducible refine gate_dst (N := 10) rfl ?_); (try (refine gate_guard (by rfl) ?_; dsimp only)); refine box_event ?hg (N := 10) ?hd (cs := #[.int .u32 0, .int .u32 0]) (t := 68) ?hr ?_; (case hd => rfl); (case hg => rfl); (case hr => first | (go_simp; done) | (go_simp; rfl)); intro g7 hg_ w7 bk7 hb7; have ge7 := Aside0.mk (Nat.le_of_eq hg_.symm); clear hg_; have y0 : w7.cell? ⟨g7, 0, none⟩ = some (.int .u32 0) := (blk_cell bk7 0).trans rfl; have y1 : w7.cell? ⟨g7, 1, none⟩ = some (.int .u32 0) := (blk_cell bk7 1).trans rfl; have f7_0 := blk_frozen bk7 0; have f7_1 := blk_frozen bk7 1)
         go_ret
         exact ⟨by rw [R.out]; rfl, below_step HM.out.below ((hb7.setCell (p := ⟨g7, 0, none⟩) ge7.out _).setCell (p := ⟨g7, 1, none⟩) ge7.out _)⟩
        ·
         have e2b : decide (y.f0 < y.f1) = false := decide_eq_false e2
         have R : Aside0 (mayB a0 l1 l2 l3 l4 l5 = gatesOk o1 (l2.drop (k + 1))) := ⟨MB.out.trans (by rw [E.out, e1b, e2b]; simp)⟩
         clear e2
         go_wp2_with ((with_reducible refine gate_dst (N := 10) rfl ?_); (try (refine gate_guard (by rfl) ?_; dsimp only)); refine box_event ?hg (N := 10) ?hd (cs := #[.int .u32 0, .int .u32 0]) (t := 68) ?hr ?_; (case hd => rfl); (case hg => rfl); (case hr => first | (go_simp; done) | (go_simp; rfl)); intro g7 hg_ w7 bk7 hb7; have ge7 := Aside0.mk (Nat.le_of_eq hg_.symm); clear hg_; have y0 : w7.cell? ⟨g7, 0, none⟩ = some (.int .u32 0) := (blk_cell bk7 0).trans rfl; have y1 : w7.cell? ⟨g7, 1, none⟩ = some (.int .u32 0) := (blk_cell bk7 1).trans rfl; have f7_0 := blk_frozen bk7 0; have f7_1 := blk_frozen bk7 1)
         go_roundg (l2.length - (k + 1))
         case measure => omega
         case rel => exact ⟨k + 1, o1, by omega, by omega, rfl, by go_num, ⟨HM.out.step ((hb7.setCell (p := ⟨g7, 0, none⟩) ge7.out _).setCell (p := ⟨g7, 1, none⟩) ge7.out _)⟩, R⟩
      ·
       have hltz : ¬ (k : Int) < (l2.length : Int) := by omega
       have R : Aside0 (mayB a0 l1 l2 l3 l4 l5 = true) := ⟨MB.out.trans (by rw [List.drop_eq_nil_of_le (by omega)]; rfl)⟩
       go_wp2
       go_ret
       exact ⟨by rw [R.out]; rfl, HM.out.below⟩
end Go.Proofs.Yteiiodlgdbiimaa.F
end
section
namespace Go.Proofs.Yteiiodlgdbiimaa.F
open Go.RowKit Go.Proofs.YteiiodlgdbiimaaW.PrintWords Go.Proofs.YteiiodlgdbiimaaW.PrintLast Go.Proofs.YteiiodlgdbiimaaW.PrintMore
attribute [local go_sem] max2_int min2_int max_two min_two max_three min_three max_four min_four
set_option linter.unusedVariables false
set_option linter.unusedSimpArgs false
def norm_Vars.f (a0_0 : Int) (l0_1 : List (S41)) (l0_2 : List (S68)) (l0_3 : List Int) (l0_4 : List Int) (l0_5 : List Int) : Option (Int) := (norm_May.f a0_0 l0_1 l0_2 l0_3 l0_4 l0_5).bind fun t105 => (if t105 = true then ((norm_vars.f a0_0 l0_1 l0_2 l0_3 l0_4 l0_5).bind fun t106 => (some t106)) else (some 0))
set_option maxHeartbeats 8000000 in
set_option maxRecDepth 100000 in
theorem norm_Vars.calls (a0_0 : Int) (A0_1 : Option Addr) (c0_1 : Nat) (l0_1 : List (S41)) (A0_2 : Option Addr) (c0_2 : Nat) (l0_2 : List (S68)) (A0_3 : Option Addr) (c0_3 : Nat) (l0_3 : List Int) (A0_4 : Option Addr) (c0_4 : Nat) (l0_4 : List Int) (A0_5 : Option Addr) (c0_5 : Nat) (l0_5 : List Int) (r : Int) (w : World) (hr0_1 : Kd.C k41 w A0_1 l0_1.length l0_1) (hc0_1 : l0_1.length ≤ c0_1) (hr0_2 : Kd.C k68 w A0_2 l0_2.length l0_2) (hc0_2 : l0_2.length ≤ c0_2) (hr0_3 : Kd.C (Kd.int .u32) w A0_3 l0_3.length l0_3) (hc0_3 : l0_3.length ≤ c0_3) (hr0_4 : Kd.C (Kd.int .u32) w A0_4 l0_4.length l0_4) (hc0_4 : l0_4.length ≤ c0_4) (hr0_5 : Kd.C (Kd.int .u32) w A0_5 l0_5.length l0_5) (hc0_5 : l0_5.length ≤ c0_5) (h : norm_Vars.f a0_0 l0_1 l0_2 l0_3 l0_4 l0_5 = some r) :
  Calls Try.prog 101 #[.agg #[.int .i64 a0_0, .slice A0_1 l0_1.length c0_1, .slice A0_2 l0_2.length c0_2, .slice A0_3 l0_3.length c0_3, .slice A0_4 l0_4.length c0_4, .slice A0_5 l0_5.length c0_5]] w fun e w' => e = .returned (.int .i64 r) ∧ Below w.heap.size w w' := by
 have hu26 := Try.underlying26
 have HR0_1 := Aside0.mk hr0_1
 have HC0_1 := Aside0.mk hc0_1
 clear hr0_1 hc0_1
 have HR0_2 := Aside0.mk hr0_2
 have HC0_2 := Aside0.mk hc0_2
 clear hr0_2 hc0_2
 have HR0_3 := Aside0.mk hr0_3
 have HC0_3 := Aside0.mk hc0_3
 clear hr0_3 hc0_3
 have HR0_4 := Aside0.mk hr0_4
 have HC0_4 := Aside0.mk hc0_4
 clear hr0_4 hc0_4
 have HR0_5 := Aside0.mk hr0_5
 have HC0_5 := Aside0.mk hc0_5
 clear hr0_5 hc0_5
 have HB := Aside0.mk (Below.refl w.heap.size w)
 have H : ((norm_May.f a0_0 l0_1 l0_2 l0_3 l0_4 l0_5).bind fun t105 => (if t105 = true then ((norm_vars.f a0_0 l0_1 l0_2 l0_3 l0_4 l0_5).bind fun t106 => (some t106)) else (some 0))) = some r := h
 clear h
 replace H := Option.bind_eq_some_iff.mp H
 obtain ⟨t105, A20, H⟩ := H
 replace H : (if t105 = true then ((norm_vars.f a0_0 l0_1 l0_2 l0_3 l0_4 l0_5).bind fun t106 => (some t106)) else (some 0)) = some r := H
 have A2 := Aside0.mk A20
 clear A20
 by_cases c3 : t105 = true
 ·
  subst c3
  have H1 : ((norm_vars.f a0_0 l0_1 l0_2 l0_3 l0_4 l0_5).bind fun t106 => (some t106)) = some r := by rw [if_pos rfl] at H; exact H
  clear H
  have H := H1
  clear H1
  replace H := Option.bind_eq_some_iff.mp H
  obtain ⟨t106, A40, H⟩ := H
  replace H : (some t106) = some r := H
  have A4 := Aside0.mk A40
  clear A40
  obtain rfl := Option.some.inj H
  go_enter Try.func101, Try.ntmps101
  go_wp2_with (first | ((with_reducible refine gate_dst (N := 1) rfl ?_); refine box_event ?hg (N := 1) ?hd (cs := #[.int .i64 a0_0, .slice A0_1 l0_1.length c0_1, .slice A0_2 l0_2.length c0_2, .slice A0_3 l0_3.length c0_3, .slice A0_4 l0_4.length c0_4, .slice A0_5 l0_5.length c0_5]) (t := 26) ?hr ?_; (case hd => rfl); (case hg => rfl); (case hr => first | (go_simp; done) | (go_simp; rfl)); intro gb104 hg w5 hbox hb; have n0_ := Aside0.mk (below_step (by repeat (first | (with_reducible first | exact HB.out | apply below_alloc | apply pw_below_drewN | apply below_drew1) | exact HB.out)) hb); have n1_ := Aside0.mk (hbox); have n2_ := Aside0.mk ((by rw [hg]; exact (below_size (by repeat (first | (with_reducible first | exact HB.out | apply below_alloc | apply pw_below_drewN | apply below_drew1) | exact HB.out))) : w.heap.size ≤ gb104)); have n3_ := Aside0.mk ((by rw [hg]; exact (below_size (by repeat (first | (with_reducible first | exact HB.out | apply below_alloc | apply pw_below_drewN | apply below_drew1) | exact HB.out))) : w.heap.size ≤ gb104)); clear HB; have HB := n0_; have BK104 := n1_; have GW104 := n2_; have GE104 := n3_; clear n0_ n1_ n2_ n3_; clear hb hbox hg; have hcz6_0 : w5.cell? ⟨gb104, 0, none⟩ = some (.int .i64 a0_0) := (blk_cell BK104.out 0).trans rfl; have hcz6_1 : w5.cell? ⟨gb104, 1, none⟩ = some (.slice A0_1 l0_1.length c0_1) := (blk_cell BK104.out 1).trans rfl; have hcz6_2 : w5.cell? ⟨gb104, 2, none⟩ = some (.slice A0_2 l0_2.length c0_2) := (blk_cell BK104.out 2).trans rfl; have hcz6_3 : w5.cell? ⟨gb104, 3, none⟩ = some (.slice A0_3 l0_3.length c0_3) := (blk_cell BK104.out 3).trans rfl; have hcz6_4 : w5.cell? ⟨gb104, 4, none⟩ = some (.slice A0_4 l0_4.length c0_4) := (blk_cell BK104.out 4).trans rfl; have hcz6_5 : w5.cell? ⟨gb104, 5, none⟩ = some (.slice A0_5 l0_5.length c0_5) := (blk_cell BK104.out 5).trans rfl; have hfz6_0 := blk_frozen BK104.out 0; have hfz6_1 := blk_frozen BK104.out 1; have hfz6_2 := blk_frozen BK104.out 2; have hfz6_3 := blk_frozen BK104.out 3; have hfz6_4 := blk_frozen BK104.out 4; have hfz6_5 := blk_frozen BK104.out 5) | ((with_reducible refine gate_callee (f := 92) rfl ?_); refine goesL_ (some 4) rfl rfl Try.func92 (by kernel_rfl) rfl #[.agg #[.int .i64 a0_0, .slice A0_1 l0_1.length c0_1, .slice A0_2 l0_2.length c0_2, .slice A0_3 l0_3.length c0_3, .slice A0_4 l0_4.length c0_4, .slice A0_5 l0_5.length c0_5]] rfl (by (try simp only [List.map_toArray, List.map_cons, List.map_nil]); first | done | rfl | (simp only [List.length_drop, List.length_take]; rfl)) ?_; (with_reducible refine (norm_May.calls a0_0 _ _ l0_1 _ _ l0_2 _ _ l0_3 _ _ l0_4 _ _ l0_5 true _ ?side1 ?side2 ?side3 ?side4 ?side5 ?side6 ?side7 ?side8 ?side9 ?side10 A2.out).mono ?_); (case side1 => repeat (first | exact (Kd.C_below HR0_1.out HB.out) | (with_reducible refine Kd.C_alloc ?_ _) | (with_reducible refine Kd.C_drewN ?_ _) | (with_reducible refine Kd.C_drew ?_))); (case side2 => exact HC0_1.out); (case side3 => repeat (first | exact (Kd.C_below HR0_2.out HB.out) | (with_reducible refine Kd.C_alloc ?_ _) | (with_reducible refine Kd.C_drewN ?_ _) | (with_reducible refine Kd.C_drew ?_))); (case side4 => exact HC0_2.out); (case side5 => repeat (first | exact (Kd.C_below HR0_3.out HB.out) | (with_reducible refine Kd.C_alloc ?_ _) | (with_reducible refine Kd.C_drewN ?_ _) | (with_reducible refine Kd.C_drew ?_))); (case side6 => exact HC0_3.out); (case side7 => repeat (first | exact (Kd.C_below HR0_4.out HB.out) | (with_reducible refine Kd.C_alloc ?_ _) | (with_reducible refine Kd.C_drewN ?_ _) | (with_reducible refine Kd.C_drew ?_))); (case side8 => exact HC0_4.out); (case side9 => repeat (first | exact (Kd.C_below HR0_5.out HB.out) | (with_reducible refine Kd.C_alloc ?_ _) | (with_reducible refine Kd.C_drewN ?_ _) | (with_reducible refine Kd.C_drew ?_))); (case side10 => exact HC0_5.out); rintro e w7 ⟨rfl, hb⟩; refine ⟨_, rfl, ?_⟩; have n0_ := Aside0.mk (blk_below (g := gb104) (o := .cells #[.int .i64 a0_0, .slice A0_1 l0_1.length c0_1, .slice A0_2 l0_2.length c0_2, .slice A0_3 l0_3.length c0_3, .slice A0_4 l0_4.length c0_4, .slice A0_5 l0_5.length c0_5] 26 (0, 0)) (by (with_reducible repeat (first | refine blk_drewN ?_ _ | refine blk_drew ?_ | refine blk_alloc ?_ _)); exact BK104.out) hb); have n1_ := Aside0.mk (below_step (by repeat (first | (with_reducible first | exact HB.out | apply below_alloc | apply pw_below_drewN | apply below_drew1 | refine below_set ?_ GE104.out) | exact HB.out)) hb); clear BK104; clear HB; have BK104 := n0_; have HB := n1_; clear n0_ n1_; (try clear hb); (try clear hb2); (try clear hk); (try clear hi); have hcz8_0 : w7.cell? ⟨gb104, 0, none⟩ = some (.int .i64 a0_0) := (blk_cell BK104.out 0).trans rfl; have hcz8_1 : w7.cell? ⟨gb104, 1, none⟩ = some (.slice A0_1 l0_1.length c0_1) := (blk_cell BK104.out 1).trans rfl; have hcz8_2 : w7.cell? ⟨gb104, 2, none⟩ = some (.slice A0_2 l0_2.length c0_2) := (blk_cell BK104.out 2).trans rfl; have hcz8_3 : w7.cell? ⟨gb104, 3, none⟩ = some (.slice A0_3 l0_3.length c0_3) := (blk_cell BK104.out 3).trans rfl; have hcz8_4 : w7.cell? ⟨gb104, 4, none⟩ = some (.slice A0_4 l0_4.length c0_4) := (blk_cell BK104.out 4).trans rfl; have hcz8_5 : w7.cell? ⟨gb104, 5, none⟩ = some (.slice A0_5 l0_5.length c0_5) := (blk_cell BK104.out 5).trans rfl; have hfz8_0 := blk_frozen BK104.out 0; have hfz8_1 := blk_frozen BK104.out 1; have hfz8_2 := blk_frozen BK104.out 2; have hfz8_3 := blk_frozen BK104.out 3; have hfz8_4 := blk_frozen BK104.out 4; have hfz8_5 := blk_frozen BK104.out 5) | ((with_reducible refine gate_callee (f := 143) rfl ?_); refine goesL_ (some 7) rfl rfl Try.func143 (by kernel_rfl) rfl #[.agg #[.int .i64 a0_0, .slice A0_1 l0_1.length c0_1, .slice A0_2 l0_2.length c0_2, .slice A0_3 l0_3.length c0_3, .slice A0_4 l0_4.length c0_4, .slice A0_5 l0_5.length c0_5]] rfl (by (try simp only [List.map_toArray, List.map_cons, List.map_nil]); first | done | rfl | (simp only [List.length_drop, List.length_take]; rfl)) ?_; (with_reducible refine (norm_vars.calls a0_0 _ _ l0_1 _ _ l0_2 _ _ l0_3 _ _ l0_4 _ _ l0_5 t106 _ ?side1 ?side2 ?side3 ?side4 ?side5 ?side6 ?side7 ?side8 ?side9 ?side10 A4.out).mono ?_); (case side1 => repeat (first | exact (Kd.C_below HR0_1.out HB.out) | (with_reducible refine Kd.C_alloc ?_ _) | (with_reducible refine Kd.C_drewN ?_ _) | (with_reducible refine Kd.C_drew ?_))); (case side2 => exact HC0_1.out); (case side3 => repeat (first | exact (Kd.C_below HR0_2.out HB.out) | (with_reducible refine Kd.C_alloc ?_ _) | (with_reducible refine Kd.C_drewN ?_ _) | (with_reducible refine Kd.C_drew ?_))); (case side4 => exact HC0_2.out); (case side5 => repeat (first | exact (Kd.C_below HR0_3.out HB.out) | (with_reducible refine Kd.C_alloc ?_ _) | (with_reducible refine Kd.C_drewN ?_ _) | (with_reducible refine Kd.C_drew ?_))); (case side6 => exact HC0_3.out); (case side7 => repeat (first | exact (Kd.C_below HR0_4.out HB.out) | (with_reducible refine Kd.C_alloc ?_ _) | (with_reducible refine Kd.C_drewN ?_ _) | (with_reducible refine Kd.C_drew ?_))); (case side8 => exact HC0_4.out); (case side9 => repeat (first | exact (Kd.C_below HR0_5.out HB.out) | (with_reducible refine Kd.C_alloc ?_ _) | (with_reducible refine Kd.C_drewN ?_ _) | (with_reducible refine Kd.C_drew ?_))); (case side10 => exact HC0_5.out); rintro e w9 ⟨rfl, hb⟩; refine ⟨_, rfl, ?_⟩; have n0_ := Aside0.mk (blk_below (g := gb104) (o := .cells #[.int .i64 a0_0, .slice A0_1 l0_1.length c0_1, .slice A0_2 l0_2.length c0_2, .slice A0_3 l0_3.length c0_3, .slice A0_4 l0_4.length c0_4, .slice A0_5 l0_5.length c0_5] 26 (0, 0)) (by (with_reducible repeat (first | refine blk_drewN ?_ _ | refine blk_drew ?_ | refine blk_alloc ?_ _)); exact BK104.out) hb); have n1_ := Aside0.mk (below_step (by repeat (first | (with_reducible first | exact HB.out | apply below_alloc | apply pw_below_drewN | apply below_drew1 | refine below_set ?_ GE104.out) | exact HB.out)) hb); clear BK104; clear HB; have BK104 := n0_; have HB := n1_; clear n0_ n1_; (try clear hb); (try clear hb2); (try clear hk); (try clear hi)))
  go_ret
  exact ⟨by first | rfl | (simp [errW_none, errW_some] <;> rfl) | (simp [*, errW_none, errW_some] <;> rfl), by repeat (first | (with_reducible first | exact HB.out | apply below_alloc | apply pw_below_drewN | apply below_drew1 | refine below_set ?_ GE104.out) | exact HB.out)⟩
 ·
  replace c3 := Bool.eq_false_iff.mpr c3
  subst c3
  have H1 : (some 0) = some r := by rw [if_neg (show ¬ (false = true) by decide)] at H; exact H
  clear H
  have H := H1
  clear H1
  obtain rfl := Option.some.inj H
  go_enter Try.func101, Try.ntmps101
  go_wp2_with (first | ((with_reducible refine gate_dst (N := 1) rfl ?_); refine box_event ?hg (N := 1) ?hd (cs := #[.int .i64 a0_0, .slice A0_1 l0_1.length c0_1, .slice A0_2 l0_2.length c0_2, .slice A0_3 l0_3.length c0_3, .slice A0_4 l0_4.length c0_4, .slice A0_5 l0_5.length c0_5]) (t := 26) ?hr ?_; (case hd => rfl); (case hg => rfl); (case hr => first | (go_simp; done) | (go_simp; rfl)); intro gb104 hg w10 hbox hb; have n0_ := Aside0.mk (below_step (by repeat (first | (with_reducible first | exact HB.out | apply below_alloc | apply pw_below_drewN | apply below_drew1) | exact HB.out)) hb); have n1_ := Aside0.mk (hbox); have n2_ := Aside0.mk ((by rw [hg]; exact (below_size (by repeat (first | (with_reducible first | exact HB.out | apply below_alloc | apply pw_below_drewN | apply below_drew1) | exact HB.out))) : w.heap.size ≤ gb104)); have n3_ := Aside0.mk ((by rw [hg]; exact (below_size (by repeat (first | (with_reducible first | exact HB.out | apply below_alloc | apply pw_below_drewN | apply below_drew1) | exact HB.out))) : w.heap.size ≤ gb104)); clear HB; have HB := n0_; have BK104 := n1_; have GW104 := n2_; have GE104 := n3_; clear n0_ n1_ n2_ n3_; clear hb hbox hg; have hcz11_0 : w10.cell? ⟨gb104, 0, none⟩ = some (.int .i64 a0_0) := (blk_cell BK104.out 0).trans rfl; have hcz11_1 : w10.cell? ⟨gb104, 1, none⟩ = some (.slice A0_1 l0_1.length c0_1) := (blk_cell BK104.out 1).trans rfl; have hcz11_2 : w10.cell? ⟨gb104, 2, none⟩ = some (.slice A0_2 l0_2.length c0_2) := (blk_cell BK104.out 2).trans rfl; have hcz11_3 : w10.cell? ⟨gb104, 3, none⟩ = some (.slice A0_3 l0_3.length c0_3) := (blk_cell BK104.out 3).trans rfl; have hcz11_4 : w10.cell? ⟨gb104, 4, none⟩ = some (.slice A0_4 l0_4.length c0_4) := (blk_cell BK104.out 4).trans rfl; have hcz11_5 : w10.cell? ⟨gb104, 5, none⟩ = some (.slice A0_5 l0_5.length c0_5) := (blk_cell BK104.out 5).trans rfl; have hfz11_0 := blk_frozen BK104.out 0; have hfz11_1 := blk_frozen BK104.out 1; have hfz11_2 := blk_frozen BK104.out 2; have hfz11_3 := blk_frozen BK104.out 3; have hfz11_4 := blk_frozen BK104.out 4; have hfz11_5 := blk_frozen BK104.out 5) | ((with_reducible refine gate_callee (f := 92) rfl ?_); refine goesL_ (some 4) rfl rfl Try.func92 (by kernel_rfl) rfl #[.agg #[.int .i64 a0_0, .slice A0_1 l0_1.length c0_1, .slice A0_2 l0_2.length c0_2, .slice A0_3 l0_3.length c0_3, .slice A0_4 l0_4.length c0_4, .slice A0_5 l0_5.length c0_5]] rfl (by (try simp only [List.map_toArray, List.map_cons, List.map_nil]); first | done | rfl | (simp only [List.length_drop, List.length_take]; rfl)) ?_; (with_reducible refine (norm_May.calls a0_0 _ _ l0_1 _ _ l0_2 _ _ l0_3 _ _ l0_4 _ _ l0_5 false _ ?side1 ?side2 ?side3 ?side4 ?side5 ?side6 ?side7 ?side8 ?side9 ?side10 A2.out).mono ?_); (case side1 => repeat (first | exact (Kd.C_below HR0_1.out HB.out) | (with_reducible refine Kd.C_alloc ?_ _) | (with_reducible refine Kd.C_drewN ?_ _) | (with_reducible refine Kd.C_drew ?_))); (case side2 => exact HC0_1.out); (case side3 => repeat (first | exact (Kd.C_below HR0_2.out HB.out) | (with_reducible refine Kd.C_alloc ?_ _) | (with_reducible refine Kd.C_drewN ?_ _) | (with_reducible refine Kd.C_drew ?_))); (case side4 => exact HC0_2.out); (case side5 => repeat (first | exact (Kd.C_below HR0_3.out HB.out) | (with_reducible refine Kd.C_alloc ?_ _) | (with_reducible refine Kd.C_drewN ?_ _) | (with_reducible refine Kd.C_drew ?_))); (case side6 => exact HC0_3.out); (case side7 => repeat (first | exact (Kd.C_below HR0_4.out HB.out) | (with_reducible refine Kd.C_alloc ?_ _) | (with_reducible refine Kd.C_drewN ?_ _) | (with_reducible refine Kd.C_drew ?_))); (case side8 => exact HC0_4.out); (case side9 => repeat (first | exact (Kd.C_below HR0_5.out HB.out) | (with_reducible refine Kd.C_alloc ?_ _) | (with_reducible refine Kd.C_drewN ?_ _) | (with_reducible refine Kd.C_drew ?_))); (case side10 => exact HC0_5.out); rintro e w12 ⟨rfl, hb⟩; refine ⟨_, rfl, ?_⟩; have n0_ := Aside0.mk (blk_below (g := gb104) (o := .cells #[.int .i64 a0_0, .slice A0_1 l0_1.length c0_1, .slice A0_2 l0_2.length c0_2, .slice A0_3 l0_3.length c0_3, .slice A0_4 l0_4.length c0_4, .slice A0_5 l0_5.length c0_5] 26 (0, 0)) (by (with_reducible repeat (first | refine blk_drewN ?_ _ | refine blk_drew ?_ | refine blk_alloc ?_ _)); exact BK104.out) hb); have n1_ := Aside0.mk (below_step (by repeat (first | (with_reducible first | exact HB.out | apply below_alloc | apply pw_below_drewN | apply below_drew1 | refine below_set ?_ GE104.out) | exact HB.out)) hb); clear BK104; clear HB; have BK104 := n0_; have HB := n1_; clear n0_ n1_; (try clear hb); (try clear hb2); (try clear hk); (try clear hi)))
  go_ret
  exact ⟨by first | rfl | (simp [errW_none, errW_some] <;> rfl) | (simp [*, errW_none, errW_some] <;> rfl), by repeat (first | (with_reducible first | exact HB.out | apply below_alloc | apply pw_below_drewN | apply below_drew1 | refine below_set ?_ GE104.out) | exact HB.out)⟩
end Go.Proofs.Yteiiodlgdbiimaa.F
end
section
namespace Go.Proofs.Yteiiodlgdbiimaa.F
open Go.RowKit Go.Shelf Go.Proofs.YteiiodlgdbiimaaW.PrintWords Go.Proofs.YteiiodlgdbiimaaW.PrintLast Go.Proofs.YteiiodlgdbiimaaW.PrintMore
set_option linter.unusedVariables false
set_option linter.unusedSimpArgs false
section
variable {P : Program} {ops : Array Oper} {rest : List Oper} {o : Oper} {a : Act} {Q : Exit → Act → World → Prop}
theorem slice_event {W : World} (hgd : o.guard = none) {N : Tmp} (_hd : o.dst = some N) {n c : Nat} {cs : Array Value} {t : TypeId}
    (hrun : (execOp a.eval o).run P W = .ok (.value (.slice (some ⟨W.heap.size, 0, none⟩) n c)) (W.alloc (.cells cs t (0, 0))))
    (h : ∀ g, g = W.heap.size → ∀ w1, w1.heap[g]? = some (.cells cs t (0, 0)) → Below W.heap.size W w1 → wpList P ops Q rest (a.put o.dst (.slice (some ⟨g, 0, none⟩) n c)) w1) : wpList P ops Q (o :: rest) a W :=
  Kd.event_run hgd hrun (h _ rfl _ (blk_new W _) (below_alloc (Below.refl _ _) _))
theorem gate_store {t : TypeId} {p x : Operand} {a : Act} {W : World} (_ho : o.op = .store t p x) (h : wpList P ops Q (o :: rest) a W) : wpList P ops Q (o :: rest) a W := h
theorem skip_event {W W' : World} (hN : o.dst = none) (hgd : o.guard = none) (hrun : (execOp a.eval o).run P W = .ok .skip W') (h : ∀ w1, w1 = W' → wpList P ops Q rest a w1) : wpList P ops Q (o :: rest) a W := by
  refine wpList_plain hgd fun K hK => ?_
  unfold Oper.wp
  rw [hrun]
  show K (a.put o.dst undef) W'
  rw [hN]
  exact hK _ _ (h _ rfl)
end
theorem blk_set2 {w : World} {g : Nat} {t : TypeId} {p q : Value} (h : w.heap[g]? = some (.cells #[p, q] t (0, 0))) (x y : Value) : ((w.setCell ⟨g, 0, none⟩ x).setCell ⟨g, 1, none⟩ y).heap[g]? = some (.cells #[x, y] t (0, 0)) := by
  simpa using blk_set (blk_set h 0 x) 1 y
theorem below_set2 {B : Nat} {w0 w : World} {g : Nat} (h : Below B w0 w) (hg : B ≤ g) (x y : Value) : Below B w0 ((w.setCell ⟨g, 0, none⟩ x).setCell ⟨g, 1, none⟩ y) := (h.setCell (p := ⟨g, 0, none⟩) hg x).setCell (p := ⟨g, 1, none⟩) hg y
theorem below_drewN' (W : World) (n : Nat) : Below W.heap.size W (W.drewN n) := pw_below_drewN (Below.refl _ _) n
end Go.Proofs.Yteiiodlgdbiimaa.F
end
section
namespace Go.Proofs.Yteiiodlgdbiimaa.F
open Go.RowKit Go.Proofs.YteiiodlgdbiimaaW.PrintWords Go.Proofs.YteiiodlgdbiimaaW.PrintLast Go.Proofs.YteiiodlgdbiimaaW.PrintMore
attribute [local go_sem] max2_int min2_int max_two min_two max_three min_three max_four min_four
set_option linter.unusedVariables false
set_option linter.unusedSimpArgs false
def bits_Mul64.f (a0 : Int) (a1 : Int) : Option (Int × Int) := some (IntKind.u64.wrap ((IntKind.u64.wrap ((IntKind.u64.wrap ((a0 / 4294967296) * (a1 / 4294967296))) + ((IntKind.u64.wrap ((IntKind.u64.wrap ((a0 / 4294967296) * (Go.bits .and .u64 a1 4294967295))) + ((IntKind.u64.wrap ((Go.bits .and .u64 a0 4294967295) * (Go.bits .and .u64 a1 4294967295))) / 4294967296))) / 4294967296))) + ((IntKind.u64.wrap ((Go.bits .and .u64 (IntKind.u64.wrap ((IntKind.u64.wrap ((a0 / 4294967296) * (Go.bits .and .u64 a1 4294967295))) + ((IntKind.u64.wrap ((Go.bits .and .u64 a0 4294967295) * (Go.bits .and .u64 a1 4294967295))) / 4294967296))) 4294967295) + (IntKind.u64.wrap ((Go.bits .and .u64 a0 4294967295) * (a1 / 4294967296))))) / 4294967296)), IntKind.u64.wrap (a0 * a1))
set_option maxHeartbeats 8000000 in
set_option maxRecDepth 100000 in
theorem bits_Mul64.calls (a0 : Int) (a1 : Int) (r1 : Int) (r2 : Int) (w : World) (h : bits_Mul64.f a0 a1 = some (r1, r2)) :
    Calls Try.prog 179 #[.int .u64 a0, .int .u64 a1] w fun e w' => e = .returned (.tuple #[.int .u64 r1, .int .u64 r2]) ∧ Drawn0 w w' := by
  have H : (some (IntKind.u64.wrap ((IntKind.u64.wrap ((IntKind.u64.wrap ((a0 / 4294967296) * (a1 / 4294967296))) + ((IntKind.u64.wrap ((IntKind.u64.wrap ((a0 / 4294967296) * (Go.bits .and .u64 a1 4294967295))) + ((IntKind.u64.wrap ((Go.bits .and .u64 a0 4294967295) * (Go.bits .and .u64 a1 4294967295))) / 4294967296))) / 4294967296))) + ((IntKind.u64.wrap ((Go.bits .and .u64 (IntKind.u64.wrap ((IntKind.u64.wrap ((a0 / 4294967296) * (Go.bits .and .u64 a1 4294967295))) + ((IntKind.u64.wrap ((Go.bits .and .u64 a0 4294967295) * (Go.bits .and .u64 a1 4294967295))) / 4294967296))) 4294967295) + (IntKind.u64.wrap ((Go.bits .and .u64 a0 4294967295) * (a1 / 4294967296))))) / 4294967296)), IntKind.u64.wrap (a0 * a1))) = some (r1, r2) := h
  clear h
  simp only [Option.some.injEq, Prod.mk.injEq] at H
  obtain ⟨rfl, rfl⟩ := H
  go_enter Try.func179, Try.ntmps179
  go_wp2
  go_ret2
  exact ⟨by first | rfl | (simp; done) | (simp [*]; done), by repeat (first | exact Drawn0.refl _ | apply Drawn0.step)⟩
end Go.Proofs.Yteiiodlgdbiimaa.F
end
section
namespace Go.Proofs.Yteiiodlgdbiimaa.F
open Go.RowKit Go.Proofs.YteiiodlgdbiimaaW.PrintWords Go.Proofs.YteiiodlgdbiimaaW.PrintLast Go.Proofs.YteiiodlgdbiimaaW.PrintMore
attribute [local go_sem] max2_int min2_int max_two min_two max_three min_three max_four min_four
set_option linter.unusedVariables false
set_option linter.unusedSimpArgs false
def bits_Mul.f (a0 : Int) (a1 : Int) : Option (Int × Int) := (bits_Mul64.f a0 a1).bind fun bt307 => (some (bt307.1, bt307.2))
set_option maxHeartbeats 8000000 in
set_option maxRecDepth 100000 in
theorem bits_Mul.calls (a0 : Int) (a1 : Int) (r1 : Int) (r2 : Int) (w : World) (h : bits_Mul.f a0 a1 = some (r1, r2)) :
    Calls Try.prog 146 #[.int .u64 a0, .int .u64 a1] w fun e w' => e = .returned (.tuple #[.int .u64 r1, .int .u64 r2]) ∧ Drawn0 w w' := by
  have H : ((bits_Mul64.f a0 a1).bind fun bt307 => (some (bt307.1, bt307.2))) = some (r1, r2) := h
  clear h
  replace H := Option.bind_eq_some_iff.mp H
  obtain ⟨⟨t307, t308⟩, A30, H⟩ := H
  replace H : (some (t307, t308)) = some (r1, r2) := H
  have A3 := Aside0.mk A30
  clear A30
  simp only [Option.some.injEq, Prod.mk.injEq] at H
  obtain ⟨rfl, rfl⟩ := H
  go_enter Try.func146, Try.ntmps146
  go_wp2_with (first | ((with_reducible refine gate_callee (f := 179) rfl ?_); refine goesL_ (some 25) rfl rfl Try.func179 (by kernel_rfl) rfl #[.int .u64 a0, .int .u64 a1] rfl (by (try simp only [List.map_toArray, List.map_cons, List.map_nil]); first | done | rfl | (simp only [List.length_drop, List.length_take]; rfl)) ?_; (with_reducible refine (bits_Mul64.calls a0 a1 t307 t308 _ A3.out).mono ?_); rintro e w' ⟨rfl, ⟨nd, rfl⟩⟩; refine ⟨_, rfl, ?_⟩))
  go_ret2
  exact ⟨by first | rfl | (simp; done) | (simp [*]; done), by repeat (first | exact Drawn0.refl _ | apply Drawn0.step)⟩
end Go.Proofs.Yteiiodlgdbiimaa.F
end
section
namespace Go.Proofs.Yteiiodlgdbiimaa.F
open Go.RowKit Go.Shelf Go.Proofs.YteiiodlgdbiimaaW.PrintWords Go.Proofs.YteiiodlgdbiimaaW.PrintLast Go.Proofs.YteiiodlgdbiimaaW.PrintMore
set_option linter.unusedVariables false
set_option linter.unusedSimpArgs false
theorem u64_id {x : Int} (h0 : 0 ≤ x) (h1 : x < 18446744073709551616) : IntKind.u64.wrap x = x := by
  simp [IntKind.wrap, IntKind.bits, IntKind.signed]
  omega
theorem mul_one_u64 (n : Nat) (h : n ≤ 1000000) : bits_Mul.f 1 (n : Int) = some (0, (n : Int)) := by
  have e1 : Go.bits .and .u64 (n : Int) 4294967295 = (n : Int) := by
    have := u64_and_nat n 4294967295 (by omega) (by omega)
    rw [show ((4294967295 : Nat) : Int) = 4294967295 from rfl] at this
    rw [this, show (4294967295 : Nat) = 2 ^ 32 - 1 from rfl, Nat.and_two_pow_sub_one_eq_mod, Nat.mod_eq_of_lt (by omega)]
  have e2 : Go.bits .and .u64 1 4294967295 = 1 := by decide
  have e3 : Go.bits .and .u64 0 4294967295 = 0 := by decide
  have e4 : ((1 : Int) / 4294967296) = 0 := by decide
  have e5 : ((n : Int) / 4294967296) = 0 := by omega
  simp only [bits_Mul.f, bits_Mul64.f, Option.bind_some]
  rw [e1, e2, e4, e5]
  simp only [Int.one_mul, Int.zero_mul, Int.mul_zero]
  have e6 : IntKind.u64.wrap 0 = 0 := by decide
  simp only [u64_id (x := (n : Int)) (by omega) (by omega), e5, e6, Int.add_zero, e3, e4]
  rfl
def slices_Repeat_uint8_uint8.f (l0 : List Int) (a1 : Int) : Option (List Int) :=
  match l0 with
  | [x] => if 0 ≤ a1 ∧ a1 ≤ 1000000 then some (List.replicate a1.toNat x) else none
  | _ => none
def someX (x : Value) (j n : Nat) : List Value := List.replicate j x ++ List.replicate (n - j) (.int .u8 0)
theorem splice_someX (x : Value) (j m n : Nat) (h : j + m ≤ n) : splice (someX x j n) j (List.replicate m x) = someX x (j + m) n := by
  unfold splice someX
  have e1 : n - j = m + (n - (j + m)) := by omega
  generalize n - (j + m) = d at e1 ⊢
  rw [e1, List.length_replicate, List.take_append_of_le_length (by simp), List.take_of_length_le (by simp), List.drop_append]
  simp [List.drop_replicate, ← List.append_assoc, List.replicate_append_replicate]
theorem info5x : (Try.prog.info? 5).map (·.size) = some 1 := by kernel_rfl
theorem made_someX (x : Value) (n : Nat) : madeCells #[.int .u8 0] n = (someX x 0 n).toArray := by
  apply Array.ext'
  apply List.ext_getElem
  · simp [someX, size_madeCells]
  · intro i h1 h2
    simp [someX, madeCells, Nat.mod_one]
theorem copy1 {W : World} {ad : Addr} {x : Value} {n j : Nat} {v : Value} (h : W.cell? ad = some x) (hj : (List.replicate (Nat.min 1 n) x)[j]? = some v) : W.cell? (ad.add j) = some v := by
  rw [List.getElem?_replicate] at hj
  split at hj
  · rename_i hlt
    have : Nat.min 1 n ≤ 1 := Nat.min_le_left 1 n
    obtain rfl : j = 0 := by omega
    rw [← Option.some.inj hj]
    simpa [Addr.add] using h
  · cases hj
theorem one_rep (k : Nat) (x : Int) : ∀ v ∈ List.replicate k (Value.int .u8 x), v.oneCell' = true := fun v hv => by
  rw [List.eq_of_mem_replicate hv]
  rfl
set_option maxHeartbeats 4000000 in
set_option maxRecDepth 100000 in
theorem slices_Repeat_uint8_uint8.calls (A0 : Option Addr) (c0 : Nat) (l0 : List Int) (a1 : Int) (r : List Int) (w : World) (hr0 : Kd.C (Kd.int .u8) w A0 l0.length l0) (hc0 : l0.length ≤ c0)
  (h : slices_Repeat_uint8_uint8.f l0 a1 = some r) :
  Calls Try.prog 100 #[.slice A0 l0.length c0, .int .i64 a1] w fun e w' => ∃ v0_ : Value, e = .returned (v0_) ∧ Kd.R (Kd.int .u8) 5 w' w.heap.size (fun _ => True) v0_ r ∧ Below w.heap.size w w' := by
 unfold slices_Repeat_uint8_uint8.f at h
 split at h
 case h_2 => cases h
 case h_1 x =>
 split at h
 case isFalse => cases h
 case isTrue hn =>
 obtain ⟨n, rfl⟩ := Int.eq_ofNat_of_zero_le hn.1
 have hn6 : n ≤ 1000000 := by omega
 obtain rfl := Option.some.inj h
 clear h hn
 obtain ⟨ad, e, hx0⟩ := Kd.at_int hr0 0 (by omega) (by simp)
 cases e
 have hx : w.cell? ad = some (.int .u8 x) := by simpa [rd, Addr.add] using hx0
 clear hx0
 have HR := Aside0.mk hr0
 clear hr0
 have HM := Aside0.mk (fun W => bits_Mul.calls 1 (n : Int) 0 (n : Int) W (mul_one_u64 n hn6))
 have hmk : ∀ W : World, (Instr.makeSlice 28 (.int .i64 (n : Int)) (.int .i64 (n : Int))).run Try.prog W = .ok (.slice (some ⟨W.heap.size, 0, none⟩) n n) (W.alloc (.cells (madeCells #[.int .u8 0] n) 5)) := fun W =>
  run_make_row' (P := Try.prog) 28 5 (.int .u8 0) 1 Try.underlying28 info5 rfl .i64 .i64 n (by omega) (by omega) W
 rw [Int.toNat_natCast]
 go_enter Try.func100, Try.ntmps100
 go_wp2_with (first | (go_at_call 146; refine (HM.out _).mono ?_; rintro e w1 ⟨rfl, ⟨nd, rfl⟩⟩) | ((with_reducible refine gate_dst (N := 30) rfl ?_); refine slice_event rfl (N := 30) rfl (n := n) (c := n) (cs := madeCells #[.int .u8 0] n) (t := 5) ?hr ?_; (case hr => first | (go_simp; done) | (go_simp; rfl)); intro g hg_ w2 BK hb2; have GE := Aside0.mk (show w.heap.size ≤ g from by rw [hg_]; exact (below_drewN' w nd).size); clear hg_; have HB := Aside0.mk (below_step (below_drewN' w nd) hb2); have hx2 := pw_cell_below hb2 (show (w.drewN nd).cell? ad = _ from hx); clear hb2; clear hx; have HBK := Aside0.mk (show w2.heap[g]? = some (.cells (someX (.int .u8 x) 0 n).toArray 5 (0, 0)) from by rw [← made_someX (.int .u8 x) n]; exact BK); clear BK) | ((with_reducible refine gate_builtin (b := .copy) (xs := #[.tmp 31, .tmp 32]) rfl ?_); refine wpList_copy_splice (B := w.heap.size) (w0 := w) rfl (.tmp 31) (.tmp 32) 28 28 ?h0 5 Try.underlying28 info5x (some ⟨g, 0, none⟩) (some ad) n n 1 c0 ?h1 ?h2 g 0 (someX (.int .u8 x) 0 n) 5 HBK.out (List.replicate (Nat.min 1 n) (.int .u8 x)) ?h4 ?h5 ?h6 (one_rep _ _) HB.out GE.out ?_; (case h0 => rfl); (case h1 => rfl); (case h2 => rfl); (case h4 => simp); (case h5 => exact fun _ => ⟨rfl, ad, rfl, fun j v hj => copy1 hx2 hj⟩); (case h6 => have : Nat.min 1 n ≤ n := Nat.min_le_right 1 n; simp [someX]; omega); intro w3 HBK3 HB3; have HBK3 := Aside0.mk HBK3.out; have HB3 := Aside0.mk HB3; rw [splice_someX _ _ _ _ (by have : Nat.min 1 n ≤ n := Nat.min_le_right 1 n; omega)] at HBK3; clear HBK HB))
 go_loopg [8] n (fun gg v8 wr => ∃ j : Nat, n - j ≤ gg ∧ v8 = .int .i64 j ∧ Aside0 (j ≤ n ∧ (1 ≤ j ∨ n = 0)) ∧ Aside0 (wr.heap[g]? = some (.cells (someX (.int .u8 x) j n).toArray 5 (0, 0))) ∧ Aside0 (Below w.heap.size w wr))
 case atStart => exact ⟨Nat.min 1 n, by omega, rfl, ⟨Nat.min_le_right 1 n, by show 1 ≤ Nat.min 1 n ∨ n = 0; rcases Nat.eq_zero_or_pos n with h | h; exact .inr h; exact .inl (Nat.le_min.2 ⟨Nat.le_refl _, h⟩)⟩, ⟨by rw [Nat.zero_add] at HBK3; exact HBK3.out⟩, HB3⟩
 case round =>
  clear HBK3 HB3
  obtain ⟨j, hg, rfl, HJ, HK, HB⟩ := hrel
  have hj1 := HJ.out.1
  by_cases hlt : j < n
  ·
   have hltz : (j : Int) < (n : Int) := by omega
   go_wp2
   obtain ⟨m, hm1, hm2, hm⟩ : ∃ m : Nat, m = Nat.min j (n - j) ∧ j + m ≤ n ∧ (1 ≤ m) := by
    refine ⟨Nat.min j (n - j), rfl, ?_, ?_⟩
    ·
     have : Nat.min j (n - j) ≤ n - j := Nat.min_le_right _ _
     omega
    · exact Nat.le_min.2 ⟨by have := HJ.out.2; omega, by omega⟩
   have HMM := Aside0.mk hm1
   clear hm1
   have hnj : ¬ n = j := by omega
   have HSRC := Aside0.mk (show ∀ (q : Nat) v, (List.replicate m (Value.int .u8 x))[q]? = some v → wr.cell? ((⟨g, 0, none⟩ : Addr).add q) = some v from fun q v hq => by
    rw [List.getElem?_replicate] at hq
    split at hq
    ·
     rename_i hqm
     have hmj : m ≤ j := by rw [HMM.out]; exact Nat.min_le_left _ _
     rw [← Option.some.inj hq, add_plain]
     refine (blk_cell HK.out q).trans ?_
     simp only [someX, List.getElem?_toArray]
     rw [List.getElem?_append_left (by simp; omega), List.getElem?_replicate, if_pos (by omega)]
    · cases hq)
   have HLEN := Aside0.mk (show (List.replicate m (Value.int .u8 x)).length = Nat.min j (n - j) from by rw [List.length_replicate]; exact HMM.out)
   go_region_law ((with_reducible refine step_copy_splice (B := w.heap.size) (w0 := w) ?hgd (.tmp 41) (.tmp 44) 28 28 ?h0 5 Try.underlying28 info5x (some ⟨g, j, none⟩) (some ⟨g, 0, none⟩) (n - j) (n - j) j n ?h1 ?h2 g j (someX (.int .u8 x) j n) 5 ?hK (List.replicate m (.int .u8 x)) HLEN.out ?h5 ?h6 (one_rep _ _) ?hB GE.out ?_); (case hgd => rfl); (case h0 => rfl); (case h1 => simp [Act.eval, Act.put]); (case h2 => simp [Act.eval, Act.put]); (case hK => exact HK.out); (case hB => exact below_drew HB.out); (case h5 => exact fun _ => ⟨rfl, _, rfl, HSRC.out⟩); (case h6 => simp [someX]; omega); intro w3 HBK3 HB3; have HBK3 := Aside0.mk HBK3.out; have HB3 := Aside0.mk HB3)
   have HBK4 := Aside0.mk (show w3.heap[g]? = some (.cells (someX (.int .u8 x) (j + m) n).toArray 5 (0, 0)) from by rw [← splice_someX _ _ _ _ hm2]; exact HBK3.out)
   clear HBK3 HSRC HLEN
   go_wp2
   go_roundg (n - (j + m))
   case measure => omega
   case rel => exact ⟨j + m, by omega, by simp only [Value.int.injEq, true_and, Int.natCast_add]; exact IntWalk.i64_in _ (by omega), ⟨hm2, .inl (by omega)⟩, HBK4, HB3⟩
  ·
   have hltz : ¬ (j : Int) < (n : Int) := by omega
   have hjn : j = n := by omega
   subst hjn
   go_wp2
   go_ret
   refine ⟨_, rfl, ?_, HB.out⟩
   refine Kd.R_of_own (enc := Value.int .u8) (h1 := fun _ => rfl) ?_ (fun _ _ => trivial)
   rw [List.length_replicate]
   exact ⟨by simp [encs], .inr ⟨g, j, (someX (.int .u8 x) j j).toArray, rfl, GE.out, HK.out, Nat.le_refl _, by simp only [maxLen]; omega, by simp [someX], by simp [someX, encs]⟩⟩
end Go.Proofs.Yteiiodlgdbiimaa.F
end
section
namespace Go.Proofs.Yteiiodlgdbiimaa.F
open Go.RowKit Go.Shelf Go.Proofs.YteiiodlgdbiimaaW.PrintWords Go.Proofs.YteiiodlgdbiimaaW.PrintLast Go.Proofs.YteiiodlgdbiimaaW.PrintMore
set_option linter.unusedVariables false
set_option linter.unusedSimpArgs false
attribute [local go_sem] Oper.semAt_some
end Go.Proofs.Yteiiodlgdbiimaa.F
end
section
namespace Go.Proofs.Yteiiodlgdbiimaa.F
open Go.RowKit Go.Shelf Go.Proofs.YteiiodlgdbiimaaW.PrintWords Go.Proofs.YteiiodlgdbiimaaW.PrintLast Go.Proofs.YteiiodlgdbiimaaW.PrintMore
set_option linter.unusedVariables false
set_option linter.unusedSimpArgs false
def u32s (l : List Int) : Bool := l.all fun x => decide (0 ≤ x) && decide (x < 4294967296)
theorem u32s_mem {l : List Int} (h : u32s l = true) {x : Int} (hx : x ∈ l) : 0 ≤ x ∧ x < 4294967296 := by
  have := List.all_eq_true.1 h x hx
  simpa using this
def okIn (l1 : List S41) (l2 : List S68) : Bool := decide (l1.length ≤ 1099511627776) && decide (l2.length ≤ 1099511627776) && u32s (l1.map (·.f0)) && u32s (l2.map (·.f0)) && u32s (l2.map (·.f1))
theorem wrap64_id {x : Int} (h0 : -9223372036854775808 ≤ x) (h1 : x < 9223372036854775808) : wrap64 x = x := by unfold wrap64; omega
theorem u32_id {x : Int} (h0 : 0 ≤ x) (h1 : x < 4294967296) : IntKind.u32.wrap x = x := by
  simp [IntKind.wrap, IntKind.bits, IntKind.signed]
  omega
theorem gatesOk_at : ∀ (l : List S68) (o : Int), 0 ≤ o → o + (l.length : Int) < 4294967296 → gatesOk o l = true → ∀ k (h : k < l.length), l[k].f0 / 2 < o + 1 + (k : Int) ∧ l[k].f1 ≤ l[k].f0
  | [], o, _, _, _, k, h => by simp at h
  | x :: l, o, h0, h1, hg, k, h => by
    simp only [gatesOk, Bool.and_eq_true, Bool.not_eq_true', decide_eq_false_iff_not] at hg
    rw [List.length_cons] at h1
    rw [u32_id (by omega) (by omega)] at hg
    obtain ⟨⟨ha, hb⟩, hc⟩ := hg
    cases k with
    | zero => simp only [List.getElem_cons_zero]; omega
    | succ k =>
      have := gatesOk_at l (o + 1) (by omega) (by omega) hc k (by simpa using h)
      simp only [List.getElem_cons_succ]
      omega
structure Valid (a0 : Int) (l1 : List S41) (l2 : List S68) (l3 l4 l5 : List Int) : Prop where
  pos : 0 ≤ a0
  le : a0 + (l1.length : Int) + (l2.length : Int) ≤ 16384
  next : ∀ k (h : k < l1.length), 0 ≤ l1[k].f0 ∧ l1[k].f0 / 2 ≤ a0 + (l1.length : Int) + (l2.length : Int)
  reset : ∀ k (h : k < l1.length), l1[k].f1 ≤ 2
  gate : ∀ k (h : k < l2.length), 0 ≤ l2[k].f1 ∧ l2[k].f1 ≤ l2[k].f0 ∧ l2[k].f0 / 2 < a0 + (l1.length : Int) + 1 + (k : Int)
  outs : l3.length ≤ 1024 ∧ ∀ x ∈ l3, wrap64 (x / 2) ≤ a0 + (l1.length : Int) + (l2.length : Int)
  bads : l4.length ≤ 1024 ∧ ∀ x ∈ l4, wrap64 (x / 2) ≤ a0 + (l1.length : Int) + (l2.length : Int)
  cons : l5.length ≤ 1024 ∧ ∀ x ∈ l5, wrap64 (x / 2) ≤ a0 + (l1.length : Int) + (l2.length : Int)
theorem varsW_id {a0 : Int} {n m : Nat} (h0 : -9223372036854775808 ≤ a0) (h1 : a0 < 4611686018427387904) (hn : n ≤ 1099511627776) (hm : m ≤ 1099511627776) : varsW a0 n m = a0 + (n : Int) + (m : Int) := by
  unfold varsW
  rw [wrap64_id (x := a0 + (n : Int)) (by omega) (by omega), wrap64_id (by omega) (by omega)]
theorem listOk_iff {V : Int} {l : List Int} : listOk V l = true ↔ l.length ≤ 1024 ∧ ∀ x ∈ l, wrap64 (x / 2) ≤ V := by
  unfold listOk beyW
  simp only [Bool.and_eq_true, Bool.not_eq_true', decide_eq_false_iff_not, List.any_eq_false, decide_eq_true_eq]
  constructor
  · rintro ⟨h, k⟩
    exact ⟨by omega, fun x hx => by have := k x hx; omega⟩
  · rintro ⟨h, k⟩
    exact ⟨by omega, fun x hx => by have := k x hx; omega⟩
theorem valid_of_may {a0 : Int} {l1 : List S41} {l2 : List S68} {l3 l4 l5 : List Int} (hk : okIn l1 l2 = true) (h : mayB a0 l1 l2 l3 l4 l5 = true) : Valid a0 l1 l2 l3 l4 l5 ∧ varsW a0 l1.length l2.length = a0 + (l1.length : Int) + (l2.length : Int) := by
  simp only [okIn, Bool.and_eq_true, decide_eq_true_eq] at hk
  obtain ⟨⟨⟨⟨hn, hm⟩, h10⟩, h20⟩, h21⟩ := hk
  simp only [mayB, Bool.and_eq_true, Bool.not_eq_true', decide_eq_false_iff_not] at h
  obtain ⟨⟨⟨⟨⟨⟨⟨ha, hb⟩, hc⟩, hd⟩, he⟩, hf⟩, hg⟩, hi⟩ := h
  have hV := varsW_id (a0 := a0) (n := l1.length) (m := l2.length) (by omega) (by omega) hn hm
  rw [hV] at hc hd he hf hg
  rw [wrap64_id (by omega) (by omega), u32_id (by omega) (by omega)] at hi
  refine ⟨⟨by omega, by omega, fun k h => ?_, fun k h => ?_, fun k h => ?_, listOk_iff.1 hd, listOk_iff.1 he, listOk_iff.1 hf⟩, hV⟩
  · have h1 := List.all_eq_true.1 hg l1[k] (List.getElem_mem h)
    have h2 := u32s_mem h10 (List.mem_map_of_mem (List.getElem_mem h))
    simp only [latchOk, beyW, Bool.and_eq_true, Bool.not_eq_true', decide_eq_false_iff_not] at h1
    rw [wrap64_id (by omega) (by omega)] at h1
    omega
  · have h1 := List.all_eq_true.1 hg l1[k] (List.getElem_mem h)
    simp only [latchOk, beyW, Bool.and_eq_true, Bool.not_eq_true', decide_eq_false_iff_not] at h1
    omega
  · have h1 := gatesOk_at l2 _ (by omega) (by omega) hi k h
    have h2 := u32s_mem h21 (List.mem_map_of_mem (List.getElem_mem h))
    exact ⟨h2.1, h1.2, by omega⟩
end Go.Proofs.Yteiiodlgdbiimaa.F
end
section
namespace Go.Proofs.Yteiiodlgdbiimaa.F
open Go.RowKit Go.Shelf Go.Proofs.YteiiodlgdbiimaaW.PrintWords Go.Proofs.YteiiodlgdbiimaaW.PrintLast Go.Proofs.YteiiodlgdbiimaaW.PrintMore
set_option linter.unusedVariables false
set_option linter.unusedSimpArgs false
section
variable {P : Program} {ops : Array Oper} {o : Oper} {a : Act} {Q : Exit → Act → World → Prop} {Kc : Act → World → Prop}
theorem skip_step {W w1 : World} (hw : Region.wanted o (yielded ops a.tmps) = true) (hN : o.dst = none) (hrun : (execOp a.eval o).run P W = .ok .skip w1) (h : Kc a w1) : if Region.wanted o (yielded ops a.tmps) = true then Oper.wp P o a W Kc Q else Kc (a.put none undef) W := by
  rw [if_pos hw]
  unfold Oper.wp
  rw [hrun]
  show Kc (a.put o.dst undef) w1
  rw [hN]
  exact h
end
section
variable {P : Program} {ops : Array Oper} {rest : List Oper} {o : Oper} {a : Act} {Q : Exit → Act → World → Prop} {m : Nat}
end
section
variable {a0 : Int} {A1 : Option Addr} {c1 : Nat} {l1 : List S41} {A2 : Option Addr} {c2 : Nat} {l2 : List S68} {A3 : Option Addr} {c3 : Nat} {l3 : List Int} {A4 : Option Addr} {c4 : Nat} {l4 : List Int} {A5 : Option Addr} {c5 : Nat} {l5 : List Int} {w0 : World} {b8 b9 g n : Nat} {v9 : Value} {rows : Nat → List Bool} {W W' : World}
end
end Go.Proofs.Yteiiodlgdbiimaa.F
end
section
namespace Go.Proofs.Yteiiodlgdbiimaa.F
open Go.RowKit Go.Shelf Go.ChangeMaps Go.MapKept Go.Proofs.YteiiodlgdbiimaaW.PrintWords Go.Proofs.YteiiodlgdbiimaaW.PrintLast Go.Proofs.YteiiodlgdbiimaaW.PrintMore
set_option linter.unusedVariables false
set_option linter.unusedSimpArgs false
theorem laid68 : laidOutB Try.prog = true := by kernel_rfl
theorem klaw68 : WideMaps.KeyLaw Try.prog 68 := deep_law_gate laid68 (of_decide_eq_true (by kernel_rfl)) (of_decide_eq_true (by kernel_rfl)) (by kernel_rfl) (by kernel_rfl)
def keyG (a b : Int) : Value := .agg #[.int .u32 a, .int .u32 b]
theorem wf_u32_mk {x : Int} (h : 0 ≤ x ∧ x < 4294967296) : (Lit.int .u32 x).wf = true := by
  simp only [Lit.wf, Bool.and_eq_true, decide_eq_true_eq]
  rw [show IntKind.u32.min = 0 from by decide, show IntKind.u32.max = 4294967295 from by decide]
  omega
theorem key_isG {a b : Int} (ha : 0 ≤ a ∧ a < 4294967296) (hb : 0 ≤ b ∧ b < 4294967296) : ∃ l, keyOf Try.prog 68 (keyG a b) = some l := by
  obtain ⟨m, hm⟩ : ∃ m, Try.prog.types.size = m + 1 := ⟨Try.prog.types.size - 1, by have : 0 < Try.prog.types.size := of_decide_eq_true (by kernel_rfl); omega⟩
  have e1 : Try.prog.keyType 68 = true := by kernel_rfl
  have e2 : (keyG a b).formed Try.prog 68 = true := by kernel_rfl
  have e3 : ∃ ls, Try.prog.keyLits (Try.prog.types.size + 1) 68 (keyG a b).cells.toList = some ls := by
    rw [hm]
    have c68 : Try.prog.cellsOf 68 = 2 := by kernel_rfl
    have c39 : Try.prog.cellsOf 39 = 1 := by kernel_rfl
    simp [Program.keyLits, keyG, Value.cells, Try.underlying68, Try.underlying39, c68, c39, wf_u32_mk ha, wf_u32_mk hb]
  obtain ⟨ls, e3⟩ := e3
  unfold keyOf
  rw [Try.underlying68]
  simp only [e1, e2, e3, Bool.and_self, if_true, Option.map_some]
  exact ⟨_, rfl⟩
def Gate32 (g : S68) : Prop := (0 ≤ g.f0 ∧ g.f0 < 4294967296) ∧ (0 ≤ g.f1 ∧ g.f1 < 4294967296)
def entG (first : Int) (gs : List S68) : List MapEntry := gs.zipIdx.map fun p => { key := keyG p.1.f0 p.1.f1, val := .int .u32 (2 * (first + (p.2 : Int))), born := p.2 }
theorem entG_snoc (first : Int) (gs : List S68) (g : S68) : entG first (gs ++ [g]) = entG first gs ++ [{ key := keyG g.f0 g.f1, val := .int .u32 (2 * (first + (gs.length : Int))), born := gs.length }] := by
  simp [entG, List.zipIdx_append]
theorem entG_len (first : Int) (gs : List S68) : (entG first gs).length = gs.length := by simp [entG]
theorem entG_at {first : Int} {gs : List S68} {j : Nat} {e : MapEntry} (h : (entG first gs)[j]? = some e) : ∃ g, gs[j]? = some g ∧ e = { key := keyG g.f0 g.f1, val := .int .u32 (2 * (first + (j : Int))), born := j } := by
  simp only [entG, List.getElem?_map, List.getElem?_zipIdx] at h
  cases hg : gs[j]? with
  | none => rw [hg] at h; cases h
  | some g =>
    rw [hg] at h
    simp only [Option.map_some, Nat.zero_add, Option.some.injEq] at h
    exact ⟨g, rfl, h.symm⟩
theorem entG_mem {first : Int} {gs : List S68} {g : S68} {j : Nat} (h : gs[j]? = some g) : ({ key := keyG g.f0 g.f1, val := .int .u32 (2 * (first + (j : Int))), born := j } : MapEntry) ∈ entG first gs := by
  refine List.mem_of_getElem? (i := j) ?_
  simp [entG, List.getElem?_zipIdx, h]
def idxG : List S68 → Int → Int → Option Nat
  | [], _, _ => none
  | g :: r, a, b => if g.f0 = a ∧ g.f1 = b then some 0 else (idxG r a b).map (· + 1)
theorem idxG_none {a b : Int} : ∀ gs : List S68, idxG gs a b = none → ∀ g ∈ gs, ¬ (g.f0 = a ∧ g.f1 = b)
  | [], _, g, hg => by cases hg
  | x :: r, h, g, hg => by
    unfold idxG at h
    split at h
    · cases h
    · rename_i hc
      rcases List.mem_cons.1 hg with rfl | hg
      · exact hc
      · exact idxG_none r (by simpa using h) g hg
theorem idxG_some {a b : Int} : ∀ (gs : List S68) (j : Nat), idxG gs a b = some j → (∃ g, gs[j]? = some g ∧ g.f0 = a ∧ g.f1 = b) ∧ ∀ i, i < j → ∀ g, gs[i]? = some g → ¬ (g.f0 = a ∧ g.f1 = b)
  | [], j, h => by cases h
  | x :: r, j, h => by
    unfold idxG at h
    split at h
    · rename_i hc
      cases h
      exact ⟨⟨x, rfl, hc⟩, fun i hi => by omega⟩
    · rename_i hc
      obtain ⟨k, hk, rfl⟩ := Option.map_eq_some_iff.1 h
      obtain ⟨h1, h2⟩ := idxG_some r k hk
      refine ⟨by simpa using h1, fun i hi g hg => ?_⟩
      cases i with
      | zero =>
        cases hg
        exact hc
      | succ i => exact h2 i (by omega) g (by simpa using hg)
def Apart68 (gs : List S68) : Prop := ∀ (i j : Nat) (g h : S68), gs[i]? = some g → gs[j]? = some h → g.f0 = h.f0 → g.f1 = h.f1 → i = j
section
variable {first : Int} {gs : List S68} {w : World} {mb : Nat} {a b : Int}
theorem keys68 (hg : ∀ g ∈ gs, Gate32 g) : ∀ e ∈ entG first gs, ∃ l, keyOf Try.prog 68 e.key = some l := by
  intro e he
  obtain ⟨j, hj⟩ := List.getElem?_of_mem he
  obtain ⟨g, h1, rfl⟩ := entG_at hj
  have := hg g (List.mem_of_getElem? h1)
  exact key_isG this.1 this.2
theorem keyG_inj {a b c d : Int} (h : keyG a b = keyG c d) : a = c ∧ b = d := by
  unfold keyG at h
  injection h with h
  have h1 : [Value.int .u32 a, Value.int .u32 b] = [Value.int .u32 c, Value.int .u32 d] := congrArg Array.toList h
  injection h1 with e1 h2
  injection h2 with e2 _
  injection e1 with _ e1
  injection e2 with _ e2
  exact ⟨e1, e2⟩
theorem find_none (hg : ∀ g ∈ gs, Gate32 g) (ha : 0 ≤ a ∧ a < 4294967296) (hb : 0 ≤ b ∧ b < 4294967296) (hn : ∀ g ∈ gs, ¬ (g.f0 = a ∧ g.f1 = b)) (w : World) : (Instr.findKey 68 (keyG a b) (entG first gs)).run Try.prog w = .ok none w := by
  obtain ⟨l, hl⟩ := key_isG ha hb
  rcases klaw68.find w hl (entG first gs) (keys68 hg) with ⟨h1, _⟩ | ⟨j, e, _, h2, h3⟩
  · exact h1
  · obtain ⟨g, hg1, rfl⟩ := entG_at h2
    obtain ⟨e1, e2⟩ := keyG_inj h3
    exact absurd ⟨e1, e2⟩ (hn g (List.mem_of_getElem? hg1))
theorem find_some (hg : ∀ g ∈ gs, Gate32 g) (hd : Apart68 gs) (ha : 0 ≤ a ∧ a < 4294967296) (hb : 0 ≤ b ∧ b < 4294967296) {j : Nat} {g : S68} (hj : gs[j]? = some g) (h0 : g.f0 = a) (h1 : g.f1 = b) (w : World) :
    (Instr.findKey 68 (keyG a b) (entG first gs)).run Try.prog w = .ok (some (j, .int .u32 (2 * (first + (j : Int))))) w := by
  obtain ⟨l, hl⟩ := key_isG ha hb
  rcases klaw68.find w hl (entG first gs) (keys68 hg) with ⟨_, h2⟩ | ⟨i, e, hr, h2, h3⟩
  · exact absurd (show keyG g.f0 g.f1 = keyG a b by rw [h0, h1]) (h2 _ (entG_mem hj))
  · obtain ⟨g', hg1, rfl⟩ := entG_at h2
    obtain ⟨e1, e2⟩ := keyG_inj h3
    obtain rfl : i = j := hd i j g' g hg1 hj (by rw [e1, h0]) (by rw [e2, h1])
    exact hr
theorem lookG_none (hm : w.heap[mb]? = some (.map (entG first gs).toArray gs.length)) (hg : ∀ g ∈ gs, Gate32 g) (ha : 0 ≤ a ∧ a < 4294967296) (hb : 0 ≤ b ∧ b < 4294967296) (hn : ∀ g ∈ gs, ¬ (g.f0 = a ∧ g.f1 = b)) :
    (Instr.lookup 121 (.map (some mb)) (keyG a b) true).run Try.prog w = .ok (.tuple #[.int .u32 0, .bool false]) w := by
  obtain ⟨l, hl⟩ := key_isG ha hb
  have h1 := find_none (first := first) hg ha hb hn w
  simp [Instr.lookup, run_underlying Try.underlying121, MapKept.run_getObj_map hm, klaw68.check w _ hl, h1, zero39, Result.andThen]
theorem lookG_some (hm : w.heap[mb]? = some (.map (entG first gs).toArray gs.length)) (hg : ∀ g ∈ gs, Gate32 g) (hd : Apart68 gs) (ha : 0 ≤ a ∧ a < 4294967296) (hb : 0 ≤ b ∧ b < 4294967296) {j : Nat} {g : S68} (hj : gs[j]? = some g) (h0 : g.f0 = a) (h1 : g.f1 = b) :
    (Instr.lookup 121 (.map (some mb)) (keyG a b) true).run Try.prog w = .ok (.tuple #[.int .u32 (2 * (first + (j : Int))), .bool true]) w := by
  obtain ⟨l, hl⟩ := key_isG ha hb
  have h2 := find_some (first := first) hg hd ha hb hj h0 h1 w
  simp [Instr.lookup, run_underlying Try.underlying121, MapKept.run_getObj_map hm, klaw68.check w _ hl, h2, Result.andThen]
theorem mapG_entry (hm : w.heap[mb]? = some (.map (entG first gs).toArray gs.length)) (hg : ∀ g ∈ gs, Gate32 g) (ha : 0 ≤ a ∧ a < 4294967296) (hb : 0 ≤ b ∧ b < 4294967296) (hn : ∀ g ∈ gs, ¬ (g.f0 = a ∧ g.f1 = b)) :
    (Instr.mapEntry 121 (.map (some mb)) (keyG a b)).run Try.prog w = .ok (.tuple #[.int .u32 0, .int .i64 gs.length]) (setBlock w mb (.map ((entG first gs).toArray.push ⟨keyG a b, .int .u32 0, gs.length⟩) (gs.length + 1))) := by
  obtain ⟨l, hl⟩ := key_isG ha hb
  have h1 := find_none (first := first) hg ha hb hn w
  simp [Instr.mapEntry, run_underlying Try.underlying121, MapKept.run_getObj_map hm, klaw68.check w false hl, h1, zero39, MapKept.run_setObj_map _ hm, Result.andThen, setBlock, goInt]
theorem mapG_store (v : Value) (hm : w.heap[mb]? = some (.map ((entG first gs).toArray.push ⟨keyG a b, .int .u32 0, gs.length⟩) (gs.length + 1))) :
    (Instr.entryStore 121 (.map (some mb)) (.int .i64 gs.length) v).run Try.prog w = .ok () (setBlock w mb (.map ((entG first gs).toArray.push ⟨keyG a b, v, gs.length⟩) (gs.length + 1))) := by
  have hidx : ((entG first gs).toArray.push ⟨keyG a b, .int .u32 0, gs.length⟩).findIdx? (fun e => ((e.born : Nat) : Int) == ((gs.length : Nat) : Int)) = some gs.length := by
    rw [WideElems.findIdx_arr]
    refine WideElems.findIdx_born (e0 := ⟨keyG a b, .int .u32 0, gs.length⟩) ?_ ?_
    · have e : ((entG first gs).toArray.push ⟨keyG a b, .int .u32 0, gs.length⟩).toList.map (·.born) = List.range (gs.length + 1) := by
        apply List.ext_getElem?
        intro i
        simp [entG, List.getElem?_append, List.getElem?_range, List.getElem?_zipIdx, List.range_succ]
        by_cases hi : i < gs.length
        · simp [hi]
        · simp [hi]
      rw [e]
      exact List.nodup_range
    · simp [entG_len]
  have hmod : ((entG first gs).toArray.push ⟨keyG a b, .int .u32 0, gs.length⟩).modify gs.length (fun e => { e with val := v }) = (entG first gs).toArray.push ⟨keyG a b, v, gs.length⟩ := by
    apply Array.ext'
    have := WideElems.modify_last (fun e : MapEntry => { e with val := v }) (⟨keyG a b, .int .u32 0, gs.length⟩ : MapEntry) (entG first gs)
    rw [entG_len] at this
    rw [Array.toList_modify, Array.toList_push, Array.toList_push]
    simpa using this
  generalize (entG first gs).toArray.push ⟨keyG a b, .int .u32 0, gs.length⟩ = es at hm hidx hmod
  generalize (entG first gs).toArray.push ⟨keyG a b, v, gs.length⟩ = es' at hmod ⊢
  simp [Instr.entryStore, MapKept.run_getObj_map hm, asInt, asIntOf, hidx, hmod, MapKept.run_setObj_map _ hm, Result.andThen, setBlock]
end
end Go.Proofs.Yteiiodlgdbiimaa.F
end
section
namespace Go.Proofs.Yteiiodlgdbiimaa.F
open Go.RowKit Go.Shelf Go.ChangeMaps Go.MapKept Go.Proofs.YteiiodlgdbiimaaW.PrintWords Go.Proofs.YteiiodlgdbiimaaW.PrintLast Go.Proofs.YteiiodlgdbiimaaW.PrintMore
set_option linter.unusedVariables false
set_option linter.unusedSimpArgs false
attribute [local go_sem] max2_int min2_int max_two min_two max_three min_three max_four min_four
def OthersG (W W' : World) : Prop := ∀ (b : Nat) (cs : Array Value) (t : TypeId), W.heap[b]? = some (.cells cs t (0, 0)) → t ≠ 123 → t ≠ 68 → W'.heap[b]? = some (.cells cs t (0, 0))
theorem OthersG.refl (W : World) : OthersG W W := fun _ _ _ h _ _ => h
theorem OthersG.trans {W W1 W2 : World} (h : OthersG W W1) (k : OthersG W1 W2) : OthersG W W2 := fun b cs t hb h1 h2 => k b cs t (h b cs t hb h1 h2) h1 h2
theorem OthersG.below {W W1 : World} (h : Below W.heap.size W W1) : OthersG W W1 := fun b cs t hb _ _ => blk_below hb h
theorem R_othersG {W W' : World} {base : Nat} {v : Value} {xs : List Int} (h : Kd.R (Kd.int .u32) 39 W base (fun _ => True) v xs) (ho : OthersG W W') : Kd.R (Kd.int .u32) 39 W' base (fun _ => True) v xs :=
  Kd.R_mono (Kd.R_move (Kd.R_tight rfl h) (fun k hk => by
    obtain ⟨cs, hc⟩ := Kd.R_typed h k hk.symm
    rw [hc]
    exact ho k cs 39 hc (by decide) (by decide))) (fun _ _ => trivial)
def Keeps68 (first : Int) (gm mb : Nat) (W W' : World) : Prop := ∀ (b : Nat) (cs : Array Value), W.heap[b]? = some (.cells cs 68 (0, 0)) → (∀ vg, W.heap[gm]? = some (.cells #[.int .u32 first, vg, .map (some mb)] 123 (0, 0)) → some b ≠ vg.ownBlock) → W'.heap[b]? = some (.cells cs 68 (0, 0))
structure MkSt (first : Int) (gs : List S68) (w0 : World) (gm mb : Nat) (W : World) : Prop where
  below : Below w0.heap.size w0 W
  gm0 : w0.heap.size ≤ gm
  mb0 : w0.heap.size ≤ mb
  ok : ∀ g ∈ gs, Gate32 g
  ap : Apart68 gs
  map : W.heap[mb]? = some (.map (entG first gs).toArray gs.length)
  st : ∃ vg, W.heap[gm]? = some (.cells #[.int .u32 first, vg, .map (some mb)] 123 (0, 0)) ∧ Kd.R k68 68 W w0.heap.size (fun _ => True) vg gs
theorem MkSt.step {first : Int} {gs : List S68} {w0 : World} {gm mb : Nat} {W W' : World} (h : MkSt first gs w0 gm mb W) (hb : Below W.heap.size W W') : MkSt first gs w0 gm mb W' := by
  obtain ⟨vg, hk, hq⟩ := h.st
  exact ⟨below_step h.below hb, h.gm0, h.mb0, h.ok, h.ap, blk_below h.map hb, vg, blk_below hk hb, Kd.R_below hq hb⟩
theorem setBlock_grown {w : World} {b : Nat} {es : Array MapEntry} {k : Nat} {o' : Obj} (h : w.heap[b]? = some (.map es k)) : w.grownBy (setBlock w b o') (some b) := ⟨rfl, rfl, rfl, by simp [setBlock], fun i _ hi => heap_setBlock_other h _ (fun e => hi (by rw [e]))⟩
theorem Apart68.snoc {gs : List S68} (h : Apart68 gs) {a b : Int} (hn : ∀ g ∈ gs, ¬ (g.f0 = a ∧ g.f1 = b)) : Apart68 (gs ++ [⟨a, b⟩]) := by
  intro i j g k hg hk e0 e1
  by_cases hi : i < gs.length <;> by_cases hj : j < gs.length
  · rw [List.getElem?_append_left hi] at hg
    rw [List.getElem?_append_left hj] at hk
    exact h i j g k hg hk e0 e1
  · rw [List.getElem?_append_left hi] at hg
    have hj2 : j = gs.length := by have := (List.getElem?_eq_some_iff.1 hk).1; simp at this; omega
    subst hj2
    simp at hk
    subst hk
    exact absurd ⟨e0, e1⟩ (hn g (List.mem_of_getElem? hg))
  · rw [List.getElem?_append_left hj] at hk
    have hi2 : i = gs.length := by have := (List.getElem?_eq_some_iff.1 hg).1; simp at this; omega
    subst hi2
    simp at hg
    subst hg
    exact absurd ⟨e0.symm, e1.symm⟩ (hn k (List.mem_of_getElem? hk))
  · have hi2 := (List.getElem?_eq_some_iff.1 hg).1
    have hj2 := (List.getElem?_eq_some_iff.1 hk).1
    simp at hi2 hj2
    omega
theorem MkSt.added {first : Int} {gs : List S68} {w0 : World} {gm mb : Nat} {W w1 : World} {vg v1 : Value} {a b : Int} (h : MkSt first gs w0 gm mb W) (hk : W.heap[gm]? = some (.cells #[.int .u32 first, vg, .map (some mb)] 123 (0, 0))) (hq : Kd.R k68 68 W w0.heap.size (fun _ => True) vg gs)
    (hn : ∀ g ∈ gs, ¬ (g.f0 = a ∧ g.f1 = b)) (ha : 0 ≤ a ∧ a < 4294967296) (hb : 0 ≤ b ∧ b < 4294967296)
    (hR : Kd.R k68 68 w1 w0.heap.size (fun _ => True) v1 (gs ++ [⟨a, b⟩])) (hB : Below w0.heap.size w0 w1) (hg : W.grownBy w1 vg.ownBlock) (es1 es2 : Array MapEntry) (k1 k2 : Nat) (hm2 : es2 = (entG first (gs ++ [⟨a, b⟩])).toArray ∧ k2 = (gs ++ [(⟨a, b⟩ : S68)]).length) :
    MkSt first (gs ++ [⟨a, b⟩]) w0 gm mb ((setBlock (setBlock w1 mb (.map es1 k1)) mb (.map es2 k2)).setCell ⟨gm, 1, none⟩ v1) ∧ OthersG W ((setBlock (setBlock w1 mb (.map es1 k1)) mb (.map es2 k2)).setCell ⟨gm, 1, none⟩ v1) ∧ w1.heap[gm]? = some (.cells #[.int .u32 first, vg, .map (some mb)] 123 (0, 0)) ∧ w1.heap[mb]? = some (.map (entG first gs).toArray gs.length)
      ∧ (setBlock (setBlock w1 mb (.map es1 k1)) mb (.map es2 k2)).heap[gm]? = some (.cells #[.int .u32 first, vg, .map (some mb)] 123 (0, 0))
      ∧ (∀ (b' : Nat) (cs : Array Value), W.heap[b']? = some (.cells cs 68 (0, 0)) → some b' ≠ vg.ownBlock → ((setBlock (setBlock w1 mb (.map es1 k1)) mb (.map es2 k2)).setCell ⟨gm, 1, none⟩ v1).heap[b']? = some (.cells cs 68 (0, 0))) := by
  have hk1 := blk_grown hk hg (Kd.R_ne hq hk (by decide))
  have hm1 : w1.heap[mb]? = some (.map (entG first gs).toArray gs.length) := blk_grown h.map hg (fun e => by
    obtain ⟨cs, hc⟩ := Kd.R_typed hq mb e.symm
    rw [h.map] at hc
    cases hc)
  have hne : gm ≠ mb := fun e => by rw [e, hm1] at hk1; cases hk1
  have g1 := setBlock_grown (o' := .map es1 k1) hm1
  have hm2' : (setBlock w1 mb (.map es1 k1)).heap[mb]? = some (.map es1 k1) := heap_setBlock_same hm1 _
  have g2 := setBlock_grown (o' := .map es2 k2) hm2'
  have hm3 : (setBlock (setBlock w1 mb (.map es1 k1)) mb (.map es2 k2)).heap[mb]? = some (.map es2 k2) := heap_setBlock_same hm2' _
  have hx : ∀ (k : Nat) (cs : Array Value) (t : TypeId), w1.heap[k]? = some (.cells cs t (0, 0)) → (setBlock (setBlock w1 mb (.map es1 k1)) mb (.map es2 k2)).heap[k]? = some (.cells cs t (0, 0)) := fun k cs t hc => by
    have hkm : k ≠ mb := fun e => by rw [e, hm1] at hc; cases hc
    exact (heap_setBlock_other hm2' _ hkm).trans ((heap_setBlock_other hm1 _ hkm).trans hc)
  have hB2 : Below w0.heap.size w0 (setBlock (setBlock w1 mb (.map es1 k1)) mb (.map es2 k2)) := (hB.grown g1 hB.size (fun r e => by cases e; exact h.mb0)).grown g2 (Nat.le_trans hB.size g1.size) (fun r e => by cases e; exact h.mb0)
  have hR2 : Kd.R k68 68 (setBlock (setBlock w1 mb (.map es1 k1)) mb (.map es2 k2)) w0.heap.size (fun _ => True) v1 (gs ++ [⟨a, b⟩]) := Kd.R_mono (Kd.R_move (Kd.R_bound hR) (fun k hk => by
    obtain ⟨_, _, _, q, _, cells, hc⟩ := hk
    rw [hc]
    exact hx k cells q hc)) (fun _ _ => trivial)
  have hk3 := hx gm _ _ hk1
  refine ⟨⟨hB2.setCell (p := ⟨gm, 1, none⟩) h.gm0 v1, h.gm0, h.mb0, fun g hg => ?_, h.ap.snoc hn, ?_, v1, by simpa using blk_set hk3 1 v1, Kd.R_set hR2 hk3 (by decide) 1 v1⟩, fun b' cs t hb' h1 h2 => ?_, hk1, hm1, hk3, fun b' cs hb' hne' => ?_⟩
  · rcases List.mem_append.1 hg with hg | hg
    · exact h.ok g hg
    · rw [List.mem_singleton.1 hg]
      exact ⟨ha, hb⟩
  · rw [Below.heap_setCell _ _ _ mb (fun e => hne e.symm), hm3, hm2.1, hm2.2]
  · have e1 := blk_grown hb' hg (Kd.R_ne hq hb' (fun e => h2 e.symm))
    have e2 := hx b' cs t e1
    exact blk_far e2 (p := ⟨gm, 1, none⟩) (blk_ne e2 hk3 h1) v1
  · have e2 := hx b' cs 68 (blk_grown hb' hg hne')
    exact blk_far e2 (p := ⟨gm, 1, none⟩) (blk_ne e2 hk3 (by decide)) v1
def gateP (first : Int) (gs : List S68) (a b : Int) : Int × List S68 :=
  if mn a b = 0 then (0, gs) else if mx a b = Go.bits .xor .u32 (mn a b) 1 then (0, gs) else if mn a b = 1 then (mx a b, gs) else if mx a b = mn a b then (mx a b, gs)
  else match idxG gs (mx a b) (mn a b) with
    | some j => (2 * (first + (j : Int)), gs)
    | none => (2 * (first + (gs.length : Int)), gs ++ [⟨mx a b, mn a b⟩])
set_option maxHeartbeats 8000000 in
set_option maxRecDepth 100000 in
theorem gate103 (first : Int) (gs : List S68) (w0 : World) (gm mb : Nat) (w : World) (a b : Int) (hf : 0 ≤ first ∧ first ≤ 40000) (hl : gs.length ≤ 40000) (ha : 0 ≤ a ∧ a < 4294967296) (hb : 0 ≤ b ∧ b < 4294967296) (h : MkSt first gs w0 gm mb w) :
  Calls Try.prog 103 #[.pointer (some ⟨gm, 0, none⟩), .int .u32 a, .int .u32 b] w fun e w' => e = .returned (.int .u32 (gateP first gs a b).1) ∧ MkSt first (gateP first gs a b).2 w0 gm mb w' ∧ OthersG w w' ∧ Keeps68 first gm mb w w' := by
 have H := Aside0.mk h
 have hu68 := Try.underlying68
 have hu123 := Try.underlying123
 have hHI : 0 ≤ mx a b ∧ mx a b < 4294967296 := by unfold mx; split <;> omega
 have hLO : 0 ≤ mn a b ∧ mn a b < 4294967296 := by unfold mn; split <;> omega
 unfold gateP
 obtain ⟨hi, hhi⟩ : ∃ hi, mx a b = hi := ⟨_, rfl⟩
 obtain ⟨lo, hlo⟩ : ∃ lo, mn a b = lo := ⟨_, rfl⟩
 rw [hhi] at hHI
 rw [hlo] at hLO
 rw [hhi, hlo]
 have hhi_ : (if a < b then b else a) = hi := hhi
 have hlo_ : (if b < a then b else a) = lo := hlo
 have HHI := Aside0.mk hHI
 have HLO := Aside0.mk hLO
 have HFB := Aside0.mk hf
 have HGL := Aside0.mk hl
 clear hHI hLO ha hb hf hl
 by_cases c0 : lo = 0
 ·
  rw [if_pos c0]
  subst c0
  clear h
  go_enter Try.func103, Try.ntmps103
  go_wp2
  go_ret
  exact ⟨rfl, H.out, OthersG.refl _, fun _ _ h _ => h⟩
 rw [if_neg c0]
 have d0 : (lo == 0) = false := beq_eq_false_iff_ne.mpr c0
 by_cases c1 : hi = Go.bits .xor .u32 lo 1
 ·
  rw [if_pos c1]
  have d1 : (hi == Go.bits .xor .u32 lo 1) = true := beq_iff_eq.mpr c1
  clear c1 c0 h
  go_enter Try.func103, Try.ntmps103
  go_wp2
  go_ret
  exact ⟨rfl, H.out, OthersG.refl _, fun _ _ h _ => h⟩
 rw [if_neg c1]
 have d1 : (hi == Go.bits .xor .u32 lo 1) = false := beq_eq_false_iff_ne.mpr c1
 by_cases c2 : lo = 1
 ·
  rw [if_pos c2]
  have d2 : (lo == 1) = true := beq_iff_eq.mpr c2
  clear c2 c1 c0 h
  go_enter Try.func103, Try.ntmps103
  go_wp2
  go_ret
  exact ⟨rfl, H.out, OthersG.refl _, fun _ _ h _ => h⟩
 rw [if_neg c2]
 have d2 : (lo == 1) = false := beq_eq_false_iff_ne.mpr c2
 by_cases c3 : hi = lo
 ·
  rw [if_pos c3]
  have d3 : (hi == lo) = true := beq_iff_eq.mpr c3
  clear c3 c2 c1 c0 h
  go_enter Try.func103, Try.ntmps103
  go_wp2
  go_ret
  exact ⟨rfl, H.out, OthersG.refl _, fun _ _ h _ => h⟩
 rw [if_neg c3]
 have d3 : (hi == lo) = false := beq_eq_false_iff_ne.mpr c3
 clear c3 c2 c1 c0
 obtain ⟨vg, hk, hq⟩ := h.st
 obtain ⟨Ag, cg, rfl⟩ := Kd.R_slice hq
 have HQ0 := Aside0.mk hq
 have HK0 := Aside0.mk hk
 clear h hk hq
 cases hx : idxG gs hi lo with
 | some j =>
  obtain ⟨⟨g, hj, e0, e1⟩, _⟩ := idxG_some gs j hx
  have HJ := Aside0.mk (And.intro hj (And.intro e0 e1))
  clear hx hj e0 e1
  go_enter Try.func103, Try.ntmps103
  go_wp2_with (first | ((with_reducible refine gate_dst (N := 7) rfl ?_); refine box_event ?hg (N := 7) ?hd (cs := #[.int .u32 0, .int .u32 0]) (t := 68) ?hr ?_; (case hd => rfl); (case hg => rfl); (case hr => first | (go_simp; done) | (go_simp; rfl)); intro g7 hg_ wa_ bk_ hb_; have GE_ := Aside0.mk (Nat.le_of_eq hg_.symm); clear hg_; have HB_ := Aside0.mk hb_; have BK_ := Aside0.mk bk_; have qa_ : wa_.cell? ⟨g7, 0, none⟩ = some (.int .u32 0) := (blk_cell bk_ 0).trans rfl; have qb_ : wa_.cell? ⟨g7, 1, none⟩ = some (.int .u32 0) := (blk_cell bk_ 1).trans rfl; have fa_ := blk_frozen bk_ 0; have fb_ := blk_frozen bk_ 1; clear hb_ bk_) | ((with_reducible refine gate_store (t := 68) (p := .tmp 7) (x := .tmp 32) rfl ?_); refine skip_event (W' := (wa_.setCell ⟨g7, 0, none⟩ (.int .u32 hi)).setCell ⟨g7, 1, none⟩ (.int .u32 lo)) ?hn ?hs ?hr ?_; (case hn => rfl); (case hs => rfl); (case hr => first | (go_simp; done) | (go_simp; rfl)); intro w8 hw_; have BK8 := Aside0.mk (show w8.heap[g7]? = some (.cells #[.int .u32 hi, .int .u32 lo] 68 (0, 0)) from by rw [hw_]; exact blk_set2 BK_.out _ _); have HB8 := Aside0.mk (show Below w.heap.size w w8 from by rw [hw_]; exact below_set2 HB_.out GE_.out _ _); have GE7 := GE_; clear hw_ qa_ qb_ fa_ fb_ BK_ HB_ GE_; have qg7_0 : w8.cell? ⟨g7, 0, none⟩ = some (.int .u32 hi) := (blk_cell BK8.out 0).trans rfl; have qg7_1 : w8.cell? ⟨g7, 1, none⟩ = some (.int .u32 lo) := (blk_cell BK8.out 1).trans rfl; skip))
  have HM8 := Aside0.mk (H.out.step HB8.out)
  have KM8 := Aside0.mk (blk_below HK0.out HB8.out)
  have HO8 := Aside0.mk (OthersG.below HB8.out)
  refine start_ (n := 11) (S := fun w' => w'.cell? ⟨gm, 2, none⟩ = some (.map (some mb)) ∧ w'.cell? ⟨g7, 0, none⟩ = some (.int .u32 hi) ∧ w'.cell? ⟨g7, 1, none⟩ = some (.int .u32 lo) ∧ (Instr.lookup 121 (.map (some mb)) (.agg #[.int .u32 hi, .int .u32 lo]) true).run Try.prog w' = .ok (.tuple #[.int .u32 (2 * (first + (j : Int))), .bool true]) w') (ds := []) #[false, false, false, false, false, false, false, false, false, false, false] (by kernel_rfl) rfl rfl ⟨(blk_cell KM8.out 2).trans rfl, (blk_cell BK8.out 0).trans rfl, (blk_cell BK8.out 1).trans rfl, lookG_some (w := w8.drew) HM8.out.map HM8.out.ok HM8.out.ap HHI.out HLO.out HJ.out.1 HJ.out.2.1 HJ.out.2.2⟩ (fun hHeld => ?_)
  have HM9 := Aside0.mk (HM8.out.step (W' := w8.drew) (below_drew1 (Below.refl _ _)))
  have HO9 := Aside0.mk (HO8.out.trans (OthersG.below (W1 := w8.drew) (below_drew1 (Below.refl _ _))))
  have HS9 := Aside0.mk (show Keeps68 first gm mb w w8.drew from fun b cs h _ => blk_drew (blk_below h HB8.out))
  have HW9 := Aside0.mk (show ∀ (b : Nat) (cs : Array Value), w.heap[b]? = some (.cells cs 68 (0, 0)) → w8.drew.heap[b]? = some (.cells cs 68 (0, 0)) from fun b cs h => blk_drew (blk_below h HB8.out))
  have HG0 := HK0
  clear HM8 KM8 HO8 BK8 HB8 qg7_0 qg7_1 HK0 HQ0
  generalize w8.drew = w9 at HM9 HO9 HS9 HW9 hHeld ⊢
  refine pure_ (i := 0) (N := some 34) (v := ?_) (a' := ?_) #[true, false, false, false, false, false, false, false, false, false, false] rfl rfl (by kernel_rfl) (fun _ _ _ h => h) (Or.inl ⟨by rfl, ?_⟩) ?_ ?_
  rotate_left
  ·
   intro w'
   go_simp
   with_reducible rfl
  rotate_left
  ·
   simp only [Act.put, List.setIfInBounds_toArray, List.set_cons_zero, List.set_cons_succ]
   rfl
  refine pure_ (i := 1) (N := some 35) (v := ?_) (a' := ?_) #[true, true, false, false, false, false, false, false, false, false, false] rfl rfl (by kernel_rfl) (fun _ _ _ h => h) (Or.inl ⟨by rfl, ?_⟩) ?_ ?_
  rotate_left
  ·
   intro w'
   go_simp
   with_reducible rfl
  rotate_left
  ·
   simp only [Act.put, List.setIfInBounds_toArray, List.set_cons_zero, List.set_cons_succ]
   rfl
  refine pure_ (i := 2) (N := some 36) (v := ?_) (a' := ?_) #[true, true, true, false, false, false, false, false, false, false, false] rfl rfl (by kernel_rfl) (fun _ _ _ h => h) (Or.inl ⟨by rfl, ?_⟩) ?_ ?_
  rotate_left
  ·
   intro w'
   go_simp
   with_reducible rfl
  rotate_left
  ·
   simp only [Act.put, List.setIfInBounds_toArray, List.set_cons_zero, List.set_cons_succ]
   rfl
  refine take_ (i := 3) (N := some 37) (v := ?_) (a' := ?_) #[true, true, true, true, false, false, false, false, false, false, false] rfl rfl (by kernel_rfl) (fun _ _ _ h => h) (Or.inl ⟨by rfl, ?_⟩) hHeld ?_ ?_
  rotate_left
  ·
   rintro w' ⟨s0, s1, s2, s3⟩
   go_simp
   with_reducible rfl
  rotate_left
  ·
   simp only [Act.put, List.setIfInBounds_toArray, List.set_cons_zero, List.set_cons_succ]
   rfl
  refine take_ (i := 4) (N := some 38) (v := ?_) (a' := ?_) #[true, true, true, true, true, false, false, false, false, false, false] rfl rfl (by kernel_rfl) (fun _ _ _ h => h) (Or.inl ⟨by rfl, ?_⟩) hHeld ?_ ?_
  rotate_left
  ·
   rintro w' ⟨s0, s1, s2, s3⟩
   go_simp
   with_reducible rfl
  rotate_left
  ·
   simp only [Act.put, List.setIfInBounds_toArray, List.set_cons_zero, List.set_cons_succ]
   rfl
  refine take_ (i := 5) (N := some 39) (v := ?_) (a' := ?_) #[true, true, true, true, true, true, false, false, false, false, false] rfl rfl (by kernel_rfl) (fun _ _ _ h => h) (Or.inl ⟨by rfl, ?_⟩) hHeld ?_ ?_
  rotate_left
  ·
   rintro w' ⟨s0, s1, s2, s3⟩
   go_simp
   with_reducible rfl
  rotate_left
  ·
   simp only [Act.put, List.setIfInBounds_toArray, List.set_cons_zero, List.set_cons_succ]
   rfl
  refine pure_ (i := 6) (N := some 33) (v := ?_) (a' := ?_) #[true, true, true, true, true, true, true, false, false, false, false] rfl rfl (by kernel_rfl) (fun _ _ _ h => h) (Or.inl ⟨by rfl, ?_⟩) ?_ ?_
  rotate_left
  ·
   intro w'
   go_simp
   with_reducible rfl
  rotate_left
  ·
   simp only [Act.put, List.setIfInBounds_toArray, List.set_cons_zero, List.set_cons_succ]
   rfl
  refine pure_ (i := 7) (N := some 40) (v := ?_) (a' := ?_) #[true, true, true, true, true, true, true, true, false, false, false] rfl rfl (by kernel_rfl) (fun _ _ _ h => h) (Or.inl ⟨by rfl, ?_⟩) ?_ ?_
  rotate_left
  ·
   intro w'
   go_simp
   with_reducible rfl
  rotate_left
  ·
   simp only [Act.put, List.setIfInBounds_toArray, List.set_cons_zero, List.set_cons_succ]
   rfl
  refine pure_ (i := 8) (N := some 41) (v := ?_) (a' := ?_) #[true, true, true, true, true, true, true, true, true, false, false] rfl rfl (by kernel_rfl) (fun _ _ _ h => h) (Or.inl ⟨by rfl, ?_⟩) ?_ ?_
  rotate_left
  ·
   intro w'
   go_simp
   with_reducible rfl
  rotate_left
  ·
   simp only [Act.put, List.setIfInBounds_toArray, List.set_cons_zero, List.set_cons_succ]
   rfl
  refine pure_ (i := 9) (N := some 8) (v := ?_) (a' := ?_) #[true, true, true, true, true, true, true, true, true, true, false] rfl rfl (by kernel_rfl) (fun _ _ _ h => h) (Or.inl ⟨by rfl, ?_⟩) ?_ ?_
  rotate_left
  ·
   intro w'
   go_simp
   with_reducible rfl
  rotate_left
  ·
   simp only [Act.put, List.setIfInBounds_toArray, List.set_cons_zero, List.set_cons_succ]
   rfl
  refine pure_ (i := 10) (N := some 9) (v := ?_) (a' := ?_) #[true, true, true, true, true, true, true, true, true, true, true] rfl rfl (by kernel_rfl) (fun _ _ _ h => h) (Or.inl ⟨by rfl, ?_⟩) ?_ ?_
  rotate_left
  ·
   intro w'
   go_simp
   with_reducible rfl
  rotate_left
  ·
   simp only [Act.put, List.setIfInBounds_toArray, List.set_cons_zero, List.set_cons_succ]
   rfl
  refine done_ (by kernel_rfl) ?_
  clear hHeld
  go_wp2
  go_ret
  exact ⟨rfl, HM9.out, HO9.out, HS9.out⟩
 | none =>
  have HNO := Aside0.mk (idxG_none gs hx)
  clear hx
  go_enter Try.func103, Try.ntmps103
  go_wp2_with (first | ((with_reducible refine gate_dst (N := 7) rfl ?_); refine box_event ?hg (N := 7) ?hd (cs := #[.int .u32 0, .int .u32 0]) (t := 68) ?hr ?_; (case hd => rfl); (case hg => rfl); (case hr => first | (go_simp; done) | (go_simp; rfl)); intro g7 hg_ wa_ bk_ hb_; have GE_ := Aside0.mk (Nat.le_of_eq hg_.symm); clear hg_; have HB_ := Aside0.mk hb_; have BK_ := Aside0.mk bk_; have qa_ : wa_.cell? ⟨g7, 0, none⟩ = some (.int .u32 0) := (blk_cell bk_ 0).trans rfl; have qb_ : wa_.cell? ⟨g7, 1, none⟩ = some (.int .u32 0) := (blk_cell bk_ 1).trans rfl; have fa_ := blk_frozen bk_ 0; have fb_ := blk_frozen bk_ 1; clear hb_ bk_) | ((with_reducible refine gate_store (t := 68) (p := .tmp 7) (x := .tmp 32) rfl ?_); refine skip_event (W' := (wa_.setCell ⟨g7, 0, none⟩ (.int .u32 hi)).setCell ⟨g7, 1, none⟩ (.int .u32 lo)) ?hn ?hs ?hr ?_; (case hn => rfl); (case hs => rfl); (case hr => first | (go_simp; done) | (go_simp; rfl)); intro w8 hw_; have BK8 := Aside0.mk (show w8.heap[g7]? = some (.cells #[.int .u32 hi, .int .u32 lo] 68 (0, 0)) from by rw [hw_]; exact blk_set2 BK_.out _ _); have HB8 := Aside0.mk (show Below w.heap.size w w8 from by rw [hw_]; exact below_set2 HB_.out GE_.out _ _); have GE7 := GE_; clear hw_ qa_ qb_ fa_ fb_ BK_ HB_ GE_; have qg7_0 : w8.cell? ⟨g7, 0, none⟩ = some (.int .u32 hi) := (blk_cell BK8.out 0).trans rfl; have qg7_1 : w8.cell? ⟨g7, 1, none⟩ = some (.int .u32 lo) := (blk_cell BK8.out 1).trans rfl; skip))
  have HM8 := Aside0.mk (H.out.step HB8.out)
  have KM8 := Aside0.mk (blk_below HK0.out HB8.out)
  have HO8 := Aside0.mk (OthersG.below HB8.out)
  have HQ8 := Aside0.mk (Kd.R_below HQ0.out HB8.out)
  have HG7 := Aside0.mk (show some g7 ≠ (Value.slice Ag gs.length cg).ownBlock from fun e => by have h1 := Kd.R_lt HQ0.out g7 e.symm; have h2 := GE7.out; omega)
  refine start_ (n := 11) (S := fun w' => w'.cell? ⟨gm, 2, none⟩ = some (.map (some mb)) ∧ w'.cell? ⟨g7, 0, none⟩ = some (.int .u32 hi) ∧ w'.cell? ⟨g7, 1, none⟩ = some (.int .u32 lo) ∧ (Instr.lookup 121 (.map (some mb)) (.agg #[.int .u32 hi, .int .u32 lo]) true).run Try.prog w' = .ok (.tuple #[.int .u32 0, .bool false]) w') (ds := []) #[false, false, false, false, false, false, false, false, false, false, false] (by kernel_rfl) rfl rfl ⟨(blk_cell KM8.out 2).trans rfl, (blk_cell BK8.out 0).trans rfl, (blk_cell BK8.out 1).trans rfl, lookG_none (w := w8.drew) HM8.out.map HM8.out.ok HHI.out HLO.out HNO.out⟩ (fun hHeld => ?_)
  have HM9 := Aside0.mk (HM8.out.step (W' := w8.drew) (below_drew1 (Below.refl _ _)))
  have HO9 := Aside0.mk (HO8.out.trans (OthersG.below (W1 := w8.drew) (below_drew1 (Below.refl _ _))))
  have HS9 := Aside0.mk (show Keeps68 first gm mb w w8.drew from fun b cs h _ => blk_drew (blk_below h HB8.out))
  have HW9 := Aside0.mk (show ∀ (b : Nat) (cs : Array Value), w.heap[b]? = some (.cells cs 68 (0, 0)) → w8.drew.heap[b]? = some (.cells cs 68 (0, 0)) from fun b cs h => blk_drew (blk_below h HB8.out))
  have HG0 := HK0
  have KM9 := Aside0.mk (blk_drew KM8.out)
  have BK9 := Aside0.mk (blk_drew BK8.out)
  have HQ9 := Aside0.mk (Kd.R_drew HQ8.out)
  clear HM8 KM8 HO8 BK8 HB8 HQ8 qg7_0 qg7_1 HK0 HQ0
  generalize w8.drew = w9 at HM9 HO9 KM9 BK9 HQ9 HS9 HW9 hHeld ⊢
  refine pure_ (i := 0) (N := some 34) (v := ?_) (a' := ?_) #[true, false, false, false, false, false, false, false, false, false, false] rfl rfl (by kernel_rfl) (fun _ _ _ h => h) (Or.inl ⟨by rfl, ?_⟩) ?_ ?_
  rotate_left
  ·
   intro w'
   go_simp
   with_reducible rfl
  rotate_left
  ·
   simp only [Act.put, List.setIfInBounds_toArray, List.set_cons_zero, List.set_cons_succ]
   rfl
  refine pure_ (i := 1) (N := some 35) (v := ?_) (a' := ?_) #[true, true, false, false, false, false, false, false, false, false, false] rfl rfl (by kernel_rfl) (fun _ _ _ h => h) (Or.inl ⟨by rfl, ?_⟩) ?_ ?_
  rotate_left
  ·
   intro w'
   go_simp
   with_reducible rfl
  rotate_left
  ·
   simp only [Act.put, List.setIfInBounds_toArray, List.set_cons_zero, List.set_cons_succ]
   rfl
  refine pure_ (i := 2) (N := some 36) (v := ?_) (a' := ?_) #[true, true, true, false, false, false, false, false, false, false, false] rfl rfl (by kernel_rfl) (fun _ _ _ h => h) (Or.inl ⟨by rfl, ?_⟩) ?_ ?_
  rotate_left
  ·
   intro w'
   go_simp
   with_reducible rfl
  rotate_left
  ·
   simp only [Act.put, List.setIfInBounds_toArray, List.set_cons_zero, List.set_cons_succ]
   rfl
  refine take_ (i := 3) (N := some 37) (v := ?_) (a' := ?_) #[true, true, true, true, false, false, false, false, false, false, false] rfl rfl (by kernel_rfl) (fun _ _ _ h => h) (Or.inl ⟨by rfl, ?_⟩) hHeld ?_ ?_
  rotate_left
  ·
   rintro w' ⟨s0, s1, s2, s3⟩
   go_simp
   with_reducible rfl
  rotate_left
  ·
   simp only [Act.put, List.setIfInBounds_toArray, List.set_cons_zero, List.set_cons_succ]
   rfl
  refine take_ (i := 4) (N := some 38) (v := ?_) (a' := ?_) #[true, true, true, true, true, false, false, false, false, false, false] rfl rfl (by kernel_rfl) (fun _ _ _ h => h) (Or.inl ⟨by rfl, ?_⟩) hHeld ?_ ?_
  rotate_left
  ·
   rintro w' ⟨s0, s1, s2, s3⟩
   go_simp
   with_reducible rfl
  rotate_left
  ·
   simp only [Act.put, List.setIfInBounds_toArray, List.set_cons_zero, List.set_cons_succ]
   rfl
  refine take_ (i := 5) (N := some 39) (v := ?_) (a' := ?_) #[true, true, true, true, true, true, false, false, false, false, false] rfl rfl (by kernel_rfl) (fun _ _ _ h => h) (Or.inl ⟨by rfl, ?_⟩) hHeld ?_ ?_
  rotate_left
  ·
   rintro w' ⟨s0, s1, s2, s3⟩
   go_simp
   with_reducible rfl
  rotate_left
  ·
   simp only [Act.put, List.setIfInBounds_toArray, List.set_cons_zero, List.set_cons_succ]
   rfl
  refine pure_ (i := 6) (N := some 33) (v := ?_) (a' := ?_) #[true, true, true, true, true, true, true, false, false, false, false] rfl rfl (by kernel_rfl) (fun _ _ _ h => h) (Or.inl ⟨by rfl, ?_⟩) ?_ ?_
  rotate_left
  ·
   intro w'
   go_simp
   with_reducible rfl
  rotate_left
  ·
   simp only [Act.put, List.setIfInBounds_toArray, List.set_cons_zero, List.set_cons_succ]
   rfl
  refine pure_ (i := 7) (N := some 40) (v := ?_) (a' := ?_) #[true, true, true, true, true, true, true, true, false, false, false] rfl rfl (by kernel_rfl) (fun _ _ _ h => h) (Or.inl ⟨by rfl, ?_⟩) ?_ ?_
  rotate_left
  ·
   intro w'
   go_simp
   with_reducible rfl
  rotate_left
  ·
   simp only [Act.put, List.setIfInBounds_toArray, List.set_cons_zero, List.set_cons_succ]
   rfl
  refine pure_ (i := 8) (N := some 41) (v := ?_) (a' := ?_) #[true, true, true, true, true, true, true, true, true, false, false] rfl rfl (by kernel_rfl) (fun _ _ _ h => h) (Or.inl ⟨by rfl, ?_⟩) ?_ ?_
  rotate_left
  ·
   intro w'
   go_simp
   with_reducible rfl
  rotate_left
  ·
   simp only [Act.put, List.setIfInBounds_toArray, List.set_cons_zero, List.set_cons_succ]
   rfl
  refine pure_ (i := 9) (N := some 8) (v := ?_) (a' := ?_) #[true, true, true, true, true, true, true, true, true, true, false] rfl rfl (by kernel_rfl) (fun _ _ _ h => h) (Or.inl ⟨by rfl, ?_⟩) ?_ ?_
  rotate_left
  ·
   intro w'
   go_simp
   with_reducible rfl
  rotate_left
  ·
   simp only [Act.put, List.setIfInBounds_toArray, List.set_cons_zero, List.set_cons_succ]
   rfl
  refine pure_ (i := 10) (N := some 9) (v := ?_) (a' := ?_) #[true, true, true, true, true, true, true, true, true, true, true] rfl rfl (by kernel_rfl) (fun _ _ _ h => h) (Or.inl ⟨by rfl, ?_⟩) ?_ ?_
  rotate_left
  ·
   intro w'
   go_simp
   with_reducible rfl
  rotate_left
  ·
   simp only [Act.put, List.setIfInBounds_toArray, List.set_cons_zero, List.set_cons_succ]
   rfl
  refine done_ (by kernel_rfl) ?_
  clear hHeld
  have es1 : IntKind.u32.wrap (gs.length : Int) = (gs.length : Int) := u32_id (by omega) (by have := HGL.out; omega)
  have es2 : IntKind.u32.wrap (first + (gs.length : Int)) = first + (gs.length : Int) := u32_id (by have := HFB.out; omega) (by have := HGL.out; have := HFB.out; omega)
  have es3 : IntKind.u32.wrap (2 * (first + (gs.length : Int))) = 2 * (first + (gs.length : Int)) := u32_id (by have := HFB.out; omega) (by have := HGL.out; have := HFB.out; omega)
  go_wp2_with fail
  refine start_ (n := 13) (S := fun w' => w'.cell? ⟨gm, 0, none⟩ = some (.int .u32 first) ∧ w'.cell? ⟨gm, 1, none⟩ = some (.slice Ag gs.length cg)) (ds := []) #[false, false, false, false, false, false, false, false, false, false, false, false, false] (by kernel_rfl) rfl rfl ⟨(blk_cell KM9.out 0).trans rfl, (blk_cell KM9.out 1).trans rfl⟩ (fun hHeld => ?_)
  have HMX := Aside0.mk (HM9.out.step (W' := w9.drew) (below_drew1 (Below.refl _ _)))
  have HWX := Aside0.mk (show ∀ (b : Nat) (cs : Array Value), w.heap[b]? = some (.cells cs 68 (0, 0)) → w9.drew.heap[b]? = some (.cells cs 68 (0, 0)) from fun b cs h => blk_drew (HW9.out b cs h))
  have HOX := Aside0.mk (HO9.out.trans (OthersG.below (W1 := w9.drew) (below_drew1 (Below.refl _ _))))
  have KMX := Aside0.mk (blk_drew KM9.out)
  have BKX := Aside0.mk (blk_drew BK9.out)
  have HQX := Aside0.mk (Kd.R_drew HQ9.out)
  clear HM9 HO9 KM9 BK9 HQ9 HS9 HW9
  generalize w9.drew = wx at HMX HOX KMX BKX HQX HWX hHeld ⊢
  refine pure_ (i := 0) (N := some 44) (v := ?_) (a' := ?_) #[true, false, false, false, false, false, false, false, false, false, false, false, false] rfl rfl (by kernel_rfl) (fun _ _ _ h => h) (Or.inl ⟨by rfl, ?_⟩) ?_ ?_
  rotate_left
  ·
   intro w'
   go_simp
   with_reducible rfl
  rotate_left
  ·
   simp only [Act.put, List.setIfInBounds_toArray, List.set_cons_zero, List.set_cons_succ]
   rfl
  refine pure_ (i := 1) (N := some 45) (v := ?_) (a' := ?_) #[true, true, false, false, false, false, false, false, false, false, false, false, false] rfl rfl (by kernel_rfl) (fun _ _ _ h => h) (Or.inl ⟨by rfl, ?_⟩) ?_ ?_
  rotate_left
  ·
   intro w'
   go_simp
   with_reducible rfl
  rotate_left
  ·
   simp only [Act.put, List.setIfInBounds_toArray, List.set_cons_zero, List.set_cons_succ]
   rfl
  refine pure_ (i := 2) (N := some 46) (v := ?_) (a' := ?_) #[true, true, true, false, false, false, false, false, false, false, false, false, false] rfl rfl (by kernel_rfl) (fun _ _ _ h => h) (Or.inl ⟨by rfl, ?_⟩) ?_ ?_
  rotate_left
  ·
   intro w'
   go_simp
   with_reducible rfl
  rotate_left
  ·
   simp only [Act.put, List.setIfInBounds_toArray, List.set_cons_zero, List.set_cons_succ]
   rfl
  refine take_ (i := 3) (N := some 47) (v := ?_) (a' := ?_) #[true, true, true, true, false, false, false, false, false, false, false, false, false] rfl rfl (by kernel_rfl) (fun _ _ _ h => h) (Or.inl ⟨by rfl, ?_⟩) hHeld ?_ ?_
  rotate_left
  ·
   rintro w' ⟨s0, s1⟩
   go_simp
   with_reducible rfl
  rotate_left
  ·
   simp only [Act.put, List.setIfInBounds_toArray, List.set_cons_zero, List.set_cons_succ]
   rfl
  refine pure_ (i := 4) (N := some 48) (v := ?_) (a' := ?_) #[true, true, true, true, true, false, false, false, false, false, false, false, false] rfl rfl (by kernel_rfl) (fun _ _ _ h => h) (Or.inl ⟨by rfl, ?_⟩) ?_ ?_
  rotate_left
  ·
   intro w'
   go_simp
   with_reducible rfl
  rotate_left
  ·
   simp only [Act.put, List.setIfInBounds_toArray, List.set_cons_zero, List.set_cons_succ]
   rfl
  refine pure_ (i := 5) (N := some 49) (v := ?_) (a' := ?_) #[true, true, true, true, true, true, false, false, false, false, false, false, false] rfl rfl (by kernel_rfl) (fun _ _ _ h => h) (Or.inl ⟨by rfl, ?_⟩) ?_ ?_
  rotate_left
  ·
   intro w'
   go_simp
   with_reducible rfl
  rotate_left
  ·
   simp only [Act.put, List.setIfInBounds_toArray, List.set_cons_zero, List.set_cons_succ]
   rfl
  refine pure_ (i := 6) (N := some 50) (v := ?_) (a' := ?_) #[true, true, true, true, true, true, true, false, false, false, false, false, false] rfl rfl (by kernel_rfl) (fun _ _ _ h => h) (Or.inl ⟨by rfl, ?_⟩) ?_ ?_
  rotate_left
  ·
   intro w'
   go_simp
   with_reducible rfl
  rotate_left
  ·
   simp only [Act.put, List.setIfInBounds_toArray, List.set_cons_zero, List.set_cons_succ]
   rfl
  refine take_ (i := 7) (N := some 51) (v := ?_) (a' := ?_) #[true, true, true, true, true, true, true, true, false, false, false, false, false] rfl rfl (by kernel_rfl) (fun _ _ _ h => h) (Or.inl ⟨by rfl, ?_⟩) hHeld ?_ ?_
  rotate_left
  ·
   rintro w' ⟨s0, s1⟩
   go_simp
   with_reducible rfl
  rotate_left
  ·
   simp only [Act.put, List.setIfInBounds_toArray, List.set_cons_zero, List.set_cons_succ]
   rfl
  refine pure_ (i := 8) (N := some 52) (v := ?_) (a' := ?_) #[true, true, true, true, true, true, true, true, true, false, false, false, false] rfl rfl (by kernel_rfl) (fun _ _ _ h => h) (Or.inl ⟨by rfl, ?_⟩) ?_ ?_
  rotate_left
  ·
   intro w'
   go_simp
   with_reducible rfl
  rotate_left
  ·
   simp only [Act.put, List.setIfInBounds_toArray, List.set_cons_zero, List.set_cons_succ]
   rfl
  refine pure_ (i := 9) (N := some 53) (v := ?_) (a' := ?_) #[true, true, true, true, true, true, true, true, true, true, false, false, false] rfl rfl (by kernel_rfl) (fun _ _ _ h => h) (Or.inl ⟨by rfl, ?_⟩) ?_ ?_
  rotate_left
  ·
   intro w'
   go_simp
   with_reducible rfl
  rotate_left
  ·
   simp only [Act.put, List.setIfInBounds_toArray, List.set_cons_zero, List.set_cons_succ]
   rfl
  refine pure_ (i := 10) (N := some 54) (v := ?_) (a' := ?_) #[true, true, true, true, true, true, true, true, true, true, true, false, false] rfl rfl (by kernel_rfl) (fun _ _ _ h => h) (Or.inl ⟨by rfl, ?_⟩) ?_ ?_
  rotate_left
  ·
   intro w'
   go_simp
   with_reducible rfl
  rotate_left
  ·
   simp only [Act.put, List.setIfInBounds_toArray, List.set_cons_zero, List.set_cons_succ]
   rfl
  refine pure_ (i := 11) (N := some 55) (v := ?_) (a' := ?_) #[true, true, true, true, true, true, true, true, true, true, true, true, false] rfl rfl (by kernel_rfl) (fun _ _ _ h => h) (Or.inl ⟨by rfl, ?_⟩) ?_ ?_
  rotate_left
  ·
   intro w'
   go_simp
   with_reducible rfl
  rotate_left
  ·
   simp only [Act.put, List.setIfInBounds_toArray, List.set_cons_zero, List.set_cons_succ]
   rfl
  refine pure_ (i := 12) (N := some 8) (v := ?_) (a' := ?_) #[true, true, true, true, true, true, true, true, true, true, true, true, true] rfl rfl (by kernel_rfl) (fun _ _ _ h => h) (Or.inl ⟨by rfl, ?_⟩) ?_ ?_
  rotate_left
  ·
   intro w'
   go_simp
   with_reducible rfl
  rotate_left
  ·
   simp only [Act.put, List.setIfInBounds_toArray, List.set_cons_zero, List.set_cons_succ]
   rfl
  refine done_ (by kernel_rfl) ?_
  clear hHeld es1 es2 es3
  go_wp2_with fail
  refine start_ (n := 20) (S := fun w' => w'.cell? ⟨gm, 1, none⟩ = some (.slice Ag gs.length cg) ∧ w'.cell? ⟨gm, 2, none⟩ = some (.map (some mb)) ∧ w'.cell? ⟨g7, 0, none⟩ = some (.int .u32 hi) ∧ w'.cell? ⟨g7, 1, none⟩ = some (.int .u32 lo)) (ds := [19]) #[false, false, false, false, false, false, false, false, false, false, false, false, false, false, false, false, false, false, false, false] (by kernel_rfl) rfl rfl ⟨(blk_cell KMX.out 1).trans rfl, (blk_cell KMX.out 2).trans rfl, (blk_cell BKX.out 0).trans rfl, (blk_cell BKX.out 1).trans rfl⟩ (fun hHeld => ?_)
  have HMA := Aside0.mk (HMX.out.step (W' := wx.drew) (below_drew1 (Below.refl _ _)))
  have HWA := Aside0.mk (show ∀ (b : Nat) (cs : Array Value), w.heap[b]? = some (.cells cs 68 (0, 0)) → wx.drew.heap[b]? = some (.cells cs 68 (0, 0)) from fun b cs h => blk_drew (HWX.out b cs h))
  have HOA := Aside0.mk (HOX.out.trans (OthersG.below (W1 := wx.drew) (below_drew1 (Below.refl _ _))))
  have KM := Aside0.mk (blk_drew KMX.out)
  have BKA := Aside0.mk (blk_drew BKX.out)
  have HQ := Aside0.mk (Kd.R_drew HQX.out)
  clear HMX HOX KMX BKX HQX HWX
  generalize wx.drew = wa at HMA HOA KM BKA HQ HWA hHeld ⊢
  refine pure_ (i := 0) (N := some 56) (v := ?_) (a' := ?_) #[true, false, false, false, false, false, false, false, false, false, false, false, false, false, false, false, false, false, false, false] rfl rfl (by kernel_rfl) (fun _ _ _ h => h) (Or.inl ⟨by rfl, ?_⟩) ?_ ?_
  rotate_left
  ·
   intro w'
   go_simp
   with_reducible rfl
  rotate_left
  ·
   simp only [Act.put, List.setIfInBounds_toArray, List.set_cons_zero, List.set_cons_succ]
   rfl
  refine pure_ (i := 1) (N := some 57) (v := ?_) (a' := ?_) #[true, true, false, false, false, false, false, false, false, false, false, false, false, false, false, false, false, false, false, false] rfl rfl (by kernel_rfl) (fun _ _ _ h => h) (Or.inl ⟨by rfl, ?_⟩) ?_ ?_
  rotate_left
  ·
   intro w'
   go_simp
   with_reducible rfl
  rotate_left
  ·
   simp only [Act.put, List.setIfInBounds_toArray, List.set_cons_zero, List.set_cons_succ]
   rfl
  refine pure_ (i := 2) (N := some 58) (v := ?_) (a' := ?_) #[true, true, true, false, false, false, false, false, false, false, false, false, false, false, false, false, false, false, false, false] rfl rfl (by kernel_rfl) (fun _ _ _ h => h) (Or.inl ⟨by rfl, ?_⟩) ?_ ?_
  rotate_left
  ·
   intro w'
   go_simp
   with_reducible rfl
  rotate_left
  ·
   simp only [Act.put, List.setIfInBounds_toArray, List.set_cons_zero, List.set_cons_succ]
   rfl
  refine take_ (i := 3) (N := some 59) (v := ?_) (a' := ?_) #[true, true, true, true, false, false, false, false, false, false, false, false, false, false, false, false, false, false, false, false] rfl rfl (by kernel_rfl) (fun _ _ _ h => h) (Or.inl ⟨by rfl, ?_⟩) hHeld ?_ ?_
  rotate_left
  ·
   rintro w' ⟨s0, s1, s2, s3⟩
   go_simp
   with_reducible rfl
  rotate_left
  ·
   simp only [Act.put, List.setIfInBounds_toArray, List.set_cons_zero, List.set_cons_succ]
   rfl
  refine take_ (i := 4) (N := some 60) (v := ?_) (a' := ?_) #[true, true, true, true, true, false, false, false, false, false, false, false, false, false, false, false, false, false, false, false] rfl rfl (by kernel_rfl) (fun _ _ _ h => h) (Or.inl ⟨by rfl, ?_⟩) hHeld ?_ ?_
  rotate_left
  ·
   rintro w' ⟨s0, s1, s2, s3⟩
   go_simp
   with_reducible rfl
  rotate_left
  ·
   simp only [Act.put, List.setIfInBounds_toArray, List.set_cons_zero, List.set_cons_succ]
   rfl
  refine pure_ (i := 5) (N := some 61) (v := ?_) (a' := ?_) #[true, true, true, true, true, true, false, false, false, false, false, false, false, false, false, false, false, false, false, false] rfl rfl (by kernel_rfl) (fun _ _ _ h => h) (Or.inl ⟨by rfl, ?_⟩) ?_ ?_
  rotate_left
  ·
   intro w'
   go_simp
   with_reducible rfl
  rotate_left
  ·
   simp only [Act.put, List.setIfInBounds_toArray, List.set_cons_zero, List.set_cons_succ]
   rfl
  refine pure_ (i := 6) (N := some 62) (v := ?_) (a' := ?_) #[true, true, true, true, true, true, true, false, false, false, false, false, false, false, false, false, false, false, false, false] rfl rfl (by kernel_rfl) (fun _ _ _ h => h) (Or.inl ⟨by rfl, ?_⟩) ?_ ?_
  rotate_left
  ·
   intro w'
   go_simp
   with_reducible rfl
  rotate_left
  ·
   simp only [Act.put, List.setIfInBounds_toArray, List.set_cons_zero, List.set_cons_succ]
   rfl
  refine pure_ (i := 7) (N := some 63) (v := ?_) (a' := ?_) #[true, true, true, true, true, true, true, true, false, false, false, false, false, false, false, false, false, false, false, false] rfl rfl (by kernel_rfl) (fun _ _ _ h => h) (Or.inl ⟨by rfl, ?_⟩) ?_ ?_
  rotate_left
  ·
   intro w'
   go_simp
   with_reducible rfl
  rotate_left
  ·
   simp only [Act.put, List.setIfInBounds_toArray, List.set_cons_zero, List.set_cons_succ]
   rfl
  refine pure_ (i := 8) (N := some 64) (v := ?_) (a' := ?_) #[true, true, true, true, true, true, true, true, true, false, false, false, false, false, false, false, false, false, false, false] rfl rfl (by kernel_rfl) (fun _ _ _ h => h) (Or.inl ⟨by rfl, ?_⟩) ?_ ?_
  rotate_left
  ·
   intro w'
   go_simp
   with_reducible rfl
  rotate_left
  ·
   simp only [Act.put, List.setIfInBounds_toArray, List.set_cons_zero, List.set_cons_succ]
   rfl
  refine pure_ (i := 9) (N := some 65) (v := ?_) (a' := ?_) #[true, true, true, true, true, true, true, true, true, true, false, false, false, false, false, false, false, false, false, false] rfl rfl (by kernel_rfl) (fun _ _ _ h => h) (Or.inl ⟨by rfl, ?_⟩) ?_ ?_
  rotate_left
  ·
   intro w'
   go_simp
   with_reducible rfl
  rotate_left
  ·
   simp only [Act.put, List.setIfInBounds_toArray, List.set_cons_zero, List.set_cons_succ]
   rfl
  refine take_ (i := 10) (N := some 66) (v := ?_) (a' := ?_) #[true, true, true, true, true, true, true, true, true, true, true, false, false, false, false, false, false, false, false, false] rfl rfl (by kernel_rfl) (fun _ _ _ h => h) (Or.inl ⟨by rfl, ?_⟩) hHeld ?_ ?_
  rotate_left
  ·
   rintro w' ⟨s0, s1, s2, s3⟩
   go_simp
   with_reducible rfl
  rotate_left
  ·
   simp only [Act.put, List.setIfInBounds_toArray, List.set_cons_zero, List.set_cons_succ]
   rfl
  refine take_ (i := 11) (N := some 67) (v := ?_) (a' := ?_) #[true, true, true, true, true, true, true, true, true, true, true, true, false, false, false, false, false, false, false, false] rfl rfl (by kernel_rfl) (fun _ _ _ h => h) (Or.inl ⟨by rfl, ?_⟩) hHeld ?_ ?_
  rotate_left
  ·
   rintro w' ⟨s0, s1, s2, s3⟩
   go_simp
   with_reducible rfl
  rotate_left
  ·
   simp only [Act.put, List.setIfInBounds_toArray, List.set_cons_zero, List.set_cons_succ]
   rfl
  refine one_ (i := 12) (N := some 68) #[true, true, true, true, true, true, true, true, true, true, true, true, true, false, false, false, false, false, false, false] rfl rfl (by kernel_rfl) (by decide) (fun K hK => ?_)
  refine value_ (w1 := ?_) (v := ?_) (by rfl) rfl ?_ ?_
  rotate_left 2
  ·
   go_simp
   constructor
   · rfl
   · rfl
  refine hK.out _ _ ⟨(blk_cell (blk_alloc KM.out _) 1).trans rfl, (blk_cell (blk_alloc KM.out _) 2).trans rfl, (blk_cell (blk_alloc BKA.out _) 0).trans rfl, (blk_cell (blk_alloc BKA.out _) 1).trans rfl⟩ (fun hHeld => ?_)
  clear hK K
  refine norm_ (a' := ?_) ?_ ?_
  rotate_left
  ·
   show Act.put _ (some 68) _ = _
   simp only [Act.put, List.setIfInBounds_toArray, List.set_cons_zero, List.set_cons_succ]
   rfl
  refine one_ (i := 13) (N := some 69) #[true, true, true, true, true, true, true, true, true, true, true, true, true, true, false, false, false, false, false, false] rfl rfl (by kernel_rfl) (by decide) (fun K hK => ?_)
  refine Kd.R_append_step k68 (w0 := w0) w0.heap.size (by rfl) (.tmp 66) (.tmp 68) 23 68 (.agg #[(.int .u32 0), (.int .u32 0)]) 8 rfl Try.underlying23 info68 rfl (by decide) (by omega) (.slice Ag gs.length cg) gs (⟨hi, lo⟩ : S68) [.int .u32 hi, .int .u32 lo] (fun _ => True) (fun _ => False) rfl rfl (k68_mkM _ _ _ (⟨hi, lo⟩ : S68)) (fun _ hk => hk.elim) (fun _ _ => trivial) HQ.out HMA.out.below HMA.out.below.size (by have := HGL.out; omega) ?_
  intro v1 w1 hR hB hg _
  obtain ⟨Av, cv, hv_⟩ := Kd.R_slice hR
  subst hv_
  have HAD := Aside0.mk (fun es1 k1 => HMA.out.added KM.out HQ.out HNO.out HHI.out HLO.out hR hB hg es1 ((entG first gs).toArray.push ⟨keyG hi lo, .int .u32 (2 * (first + (gs.length : Int))), gs.length⟩) k1 (gs.length + 1) ⟨by simp [entG_snoc], by simp⟩)
  have KM1 := Aside0.mk (HAD.out #[] 0).2.2.1
  have MP1 := Aside0.mk (HAD.out #[] 0).2.2.2.1
  have BKB := Aside0.mk (blk_grown BKA.out hg HG7.out)
  clear hR hB hg
  refine hK.out _ _ ⟨(blk_cell KM1.out 1).trans rfl, (blk_cell KM1.out 2).trans rfl, (blk_cell BKB.out 0).trans rfl, (blk_cell BKB.out 1).trans rfl⟩ (fun hHeld => ?_)
  clear hK K
  refine norm_ (a' := ?_) ?_ ?_
  rotate_left
  ·
   show Act.put _ (some 69) _ = _
   simp only [Act.put, List.setIfInBounds_toArray, List.set_cons_zero, List.set_cons_succ]
   rfl
  obtain ⟨w2, hw2⟩ : ∃ w2, setBlock w1 mb (.map ((entG first gs).toArray.push ⟨keyG hi lo, .int .u32 0, gs.length⟩) (gs.length + 1)) = w2 := ⟨_, rfl⟩
  have hme := mapG_entry MP1.out HMA.out.ok HHI.out HLO.out HNO.out
  rw [hw2] at hme
  unfold keyG at hme
  have HME := Aside0.mk hme
  clear hme
  have KM2 := Aside0.mk (show w2.heap[gm]? = some (.cells #[.int .u32 first, .slice Ag gs.length cg, .map (some mb)] 123 (0, 0)) from by rw [← hw2]; exact (heap_setBlock_other MP1.out _ (fun e => by have := KM1.out; rw [e, MP1.out] at this; cases this)).trans KM1.out)
  have BKC := Aside0.mk (show w2.heap[g7]? = some (.cells #[.int .u32 hi, .int .u32 lo] 68 (0, 0)) from by rw [← hw2]; exact (heap_setBlock_other MP1.out _ (fun e => by have := BKB.out; rw [e, MP1.out] at this; cases this)).trans BKB.out)
  have MP2 := Aside0.mk (show w2.heap[mb]? = some (.map ((entG first gs).toArray.push ⟨keyG hi lo, .int .u32 0, gs.length⟩) (gs.length + 1)) from by rw [← hw2]; exact heap_setBlock_same MP1.out _)
  have HW2 := Aside0.mk hw2
  clear hw2
  refine one_ (i := 14) (N := some 70) #[true, true, true, true, true, true, true, true, true, true, true, true, true, true, true, false, false, false, false, false] rfl rfl (by kernel_rfl) (by decide) (fun K hK => ?_)
  refine value_ (w1 := ?_) (v := ?_) (by rfl) rfl ?_ ?_
  rotate_left 2
  ·
   have hme := HME.out
   go_simp
   constructor
   · rfl
   · rfl
  refine hK.out _ _ ⟨(blk_cell KM2.out 1).trans rfl, (blk_cell KM2.out 2).trans rfl, (blk_cell BKC.out 0).trans rfl, (blk_cell BKC.out 1).trans rfl⟩ (fun hHeld => ?_)
  clear hK K
  refine norm_ (a' := ?_) ?_ ?_
  rotate_left
  ·
   show Act.put _ (some 70) _ = _
   simp only [Act.put, List.setIfInBounds_toArray, List.set_cons_zero, List.set_cons_succ]
   rfl
  refine pure_ (i := 15) (N := some 71) (v := ?_) (a' := ?_) #[true, true, true, true, true, true, true, true, true, true, true, true, true, true, true, true, false, false, false, false] rfl rfl (by kernel_rfl) (fun _ _ _ h => h) (Or.inl ⟨by rfl, ?_⟩) ?_ ?_
  rotate_left
  ·
   intro w'
   go_simp
   with_reducible rfl
  rotate_left
  ·
   simp only [Act.put, List.setIfInBounds_toArray, List.set_cons_zero, List.set_cons_succ]
   rfl
  obtain ⟨w3, hw3⟩ : ∃ w3, setBlock w2 mb (.map ((entG first gs).toArray.push ⟨keyG hi lo, .int .u32 (2 * (first + (gs.length : Int))), gs.length⟩) (gs.length + 1)) = w3 := ⟨_, rfl⟩
  have hms := mapG_store (.int .u32 (2 * (first + (gs.length : Int)))) MP2.out
  rw [hw3] at hms
  have HMS := Aside0.mk hms
  clear hms
  have KM3 := Aside0.mk (show w3.heap[gm]? = some (.cells #[.int .u32 first, .slice Ag gs.length cg, .map (some mb)] 123 (0, 0)) from by rw [← hw3]; exact (heap_setBlock_other MP2.out _ (fun e => by have := KM2.out; rw [e, MP2.out] at this; cases this)).trans KM2.out)
  have BKD := Aside0.mk (show w3.heap[g7]? = some (.cells #[.int .u32 hi, .int .u32 lo] 68 (0, 0)) from by rw [← hw3]; exact (heap_setBlock_other MP2.out _ (fun e => by have := BKC.out; rw [e, MP2.out] at this; cases this)).trans BKC.out)
  have HFIN := HAD.out ((entG first gs).toArray.push ⟨keyG hi lo, .int .u32 0, gs.length⟩) (gs.length + 1)
  rw [HW2.out, hw3, show (gs ++ [(⟨hi, lo⟩ : S68)]).length = gs.length + 1 from by simp] at HFIN
  replace HFIN := Aside0.mk HFIN
  clear hw3 HAD
  refine one_ (i := 16) (N := none) #[true, true, true, true, true, true, true, true, true, true, true, true, true, true, true, true, true, false, false, false] rfl rfl (by kernel_rfl) (by decide) (fun K hK => ?_)
  refine skip_step (w1 := ?_) (by rfl) rfl ?_ ?_
  rotate_left
  ·
   have hme := HMS.out
   go_simp
   rfl
  refine hK.out _ _ ⟨(blk_cell KM3.out 1).trans rfl, (blk_cell KM3.out 2).trans rfl, (blk_cell BKD.out 0).trans rfl, (blk_cell BKD.out 1).trans rfl⟩ (fun hHeld => ?_)
  clear hK K
  refine pure_ (i := 17) (N := some 72) (v := ?_) (a' := ?_) #[true, true, true, true, true, true, true, true, true, true, true, true, true, true, true, true, true, true, false, false] rfl rfl (by kernel_rfl) (fun _ _ _ h => h) (Or.inl ⟨by rfl, ?_⟩) ?_ ?_
  rotate_left
  ·
   intro w'
   go_simp
   with_reducible rfl
  rotate_left
  ·
   simp only [Act.put, List.setIfInBounds_toArray, List.set_cons_zero, List.set_cons_succ]
   rfl
  refine pure_ (i := 18) (N := some 73) (v := ?_) (a' := ?_) #[true, true, true, true, true, true, true, true, true, true, true, true, true, true, true, true, true, true, true, false] rfl rfl (by kernel_rfl) (fun _ _ _ h => h) (Or.inl ⟨by rfl, ?_⟩) ?_ ?_
  rotate_left
  ·
   intro w'
   go_simp
   with_reducible rfl
  rotate_left
  ·
   simp only [Act.put, List.setIfInBounds_toArray, List.set_cons_zero, List.set_cons_succ]
   rfl
  have i1 : w3.cell? ⟨gm, 1, none⟩ = some (.slice Ag gs.length cg) := (blk_cell KM3.out 1).trans rfl
  have fr := blk_frozen KM3.out 1
  clear hHeld
  refine last_ (i := 19) (N := none) #[true, true, true, true, true, true, true, true, true, true, true, true, true, true, true, true, true, true, true, true] rfl rfl (by kernel_rfl) (by decide) (fun K hK => ?_)
  refine skip_step (w1 := ?_) (by rfl) rfl ?_ ?_
  rotate_left
  ·
   go_simp
   rfl
  refine hK.out _ _ ?_
  clear hK K
  refine done_ (by kernel_rfl) ?_
  clear i1 fr
  go_wp2
  go_ret
  exact ⟨rfl, HFIN.out.1, HOA.out.trans HFIN.out.2.1, fun b cs h hv => HFIN.out.2.2.2.2.2 b cs (HWA.out b cs h) (hv _ HG0.out)⟩
end Go.Proofs.Yteiiodlgdbiimaa.F
end
section
namespace Go.Proofs.Yteiiodlgdbiimaa.F
open Go.Joins Go.ChangeShapes Go.WideShapes Go.ChangeAt Go.Deep Go.RowKit Go.Proofs.YteiiodlgdbiimaaW.PrintWords Go.Proofs.YteiiodlgdbiimaaW.PrintLast Go.Proofs.YteiiodlgdbiimaaW.PrintMore
set_option linter.unusedVariables false
set_option linter.unusedSimpArgs false
section
variable {H : Type} {enc : TypeId × Value → H} {w : World} {base : Nat} {spare : Nat → Bool} {held : Bool}
theorem open_pairs {t e : TypeId} {fs : Array Field} {fuel : Nat} {cs : List Value} {x : DataW H × List MemPlace} (ht : Try.prog.underlying t = some (.slice e)) (he : Try.prog.underlying e = some (.struct fs))
    (hone : oneCellFields Try.prog fs = true) (hC : Try.prog.cellsOf e = fs.size) (h : DataW.trod enc Try.prog w base spare held fuel t cs = some x) :
    (cs = [.slice none 0 0] ∧ x = (.nil, [])) ∨
    ∃ (a : Addr) (len cap m : Nat) (D : Nat → DataW H) (Pl : Nat → List MemPlace), cs = [.slice (some a) len cap] ∧ base ≤ a.block ∧ len ≤ cap ∧ cap ≤ maxLen ∧ m = (if spare a.block then cap else len) ∧
      x = (.slice ((List.range len).map D) ((List.range (m - len)).map fun j => D (len + j)), MemPlace.row a (m * fs.size) ++ (List.range m).flatMap Pl) ∧
      ∀ i, i < m → ∃ (ys : List (DataW H × List MemPlace)) (n : Nat), D i = .agg (ys.map (·.1)) ∧ Pl i = ys.flatMap (·.2) ∧ ys.length = fs.size ∧
        ∀ (j : Nat) (f : Field), fs[j]? = some f → ∃ (v : Value) (y : DataW H × List MemPlace), w.cell? (a.add (i * fs.size + j)) = some v ∧ ys[j]? = some y ∧ DataW.trod enc Try.prog w base spare held n f.type [v] = some y := by
  rcases open_slice ht h with h0 | ⟨a, len, cap, m, n, D, Pl, hcs, hb, hl, hm, hmm, hx, hi⟩
  · exact .inl h0
  · refine .inr ⟨a, len, cap, m, D, Pl, hcs, hb, hl, hm, hmm, by rw [hC] at hx; exact hx, fun i him => ?_⟩
    obtain ⟨cs', hc, ht'⟩ := hi i him
    rw [hC] at hc
    obtain ⟨ys, n', hn', hy, hlen, hyl, hf⟩ := DataW.trod_struct he ht'
    obtain ⟨_, hcl, hat⟩ := World.cells?_some hc
    simp only [Prod.mk.injEq] at hy
    refine ⟨ys, n', hy.1, hy.2, hyl, fun j f hj => ?_⟩
    obtain ⟨ho, hk⟩ := hone_of hone j f hj
    have hjl : j < fs.size := (Array.getElem?_eq_some_iff.1 hj).1
    have hcell := hat j hjl
    have hv : cs'[j]? = some (cs'[j]'(by omega)) := List.getElem?_eq_getElem (by omega)
    have h1 := hf j f hj
    rw [ho, hk] at h1
    have hone' : (cs'.drop j).take 1 = [cs'[j]'(by omega)] := by
      rw [List.drop_eq_getElem_cons (by omega)]
      rfl
    rw [hone'] at h1
    have hys : ys[j]? = some (ys[j]'(by omega)) := List.getElem?_eq_getElem (by omega)
    refine ⟨_, _, ?_, hys, h1.trans hys⟩
    rw [← Go.Deep.add_add, hcell, hv]
end
section
variable {H : Type} {enc : TypeId × Value → H} {w : World} {base : Nat} {spare : Nat → Bool} {held : Bool}
set_option maxRecDepth 100000 in
theorem open_six {r : Reach} {b0 : Nat} {t : TypeId} {f0 f1 f2 f3 f4 f5 : Field} {v : Value} {d : DataW H} {p : List MemPlace} (hs : Try.prog.underlying t = some (.struct #[f0, f1, f2, f3, f4, f5])) (hone : oneCellFields Try.prog #[f0, f1, f2, f3, f4, f5] = true) (hC : Try.prog.cellsOf t = 6)
    (hv : Value.okWide Try.prog w r b0 t v) (h : DataW.Trod enc Try.prog w base spare held t v d p) :
    ∃ (v0 v1 v2 v3 v4 v5 : Value) (y0 y1 y2 y3 y4 y5 : DataW H × List MemPlace) (n : Nat), v = .agg #[v0, v1, v2, v3, v4, v5] ∧ d = .agg [y0.1, y1.1, y2.1, y3.1, y4.1, y5.1] ∧ p = y0.2 ++ (y1.2 ++ (y2.2 ++ (y3.2 ++ (y4.2 ++ y5.2)))) ∧
      DataW.trod enc Try.prog w base spare held n f0.type [v0] = some y0 ∧ DataW.trod enc Try.prog w base spare held n f1.type [v1] = some y1 ∧ DataW.trod enc Try.prog w base spare held n f2.type [v2] = some y2 ∧ DataW.trod enc Try.prog w base spare held n f3.type [v3] = some y3 ∧ DataW.trod enc Try.prog w base spare held n f4.type [v4] = some y4 ∧ DataW.trod enc Try.prog w base spare held n f5.type [v5] = some y5 := by
  obtain ⟨cs, rfl, hsz⟩ := okWide_struct hs hv
  obtain ⟨l⟩ := cs
  match l, hsz.trans hC with
  | [c0, c1, c2, c3, c4, c5], _ =>
    obtain ⟨fuel, hf⟩ := h
    obtain ⟨xs, n, _, hx, _, hlen, hg⟩ := DataW.trod_struct hs hf
    obtain ⟨o0, k0⟩ := hone_of hone 0 f0 rfl
    obtain ⟨o1, k1⟩ := hone_of hone 1 f1 rfl
    obtain ⟨o2, k2⟩ := hone_of hone 2 f2 rfl
    obtain ⟨o3, k3⟩ := hone_of hone 3 f3 rfl
    obtain ⟨o4, k4⟩ := hone_of hone 4 f4 rfl
    obtain ⟨o5, k5⟩ := hone_of hone 5 f5 rfl
    match xs, hlen with
    | [y0, y1, y2, y3, y4, y5], _ =>
      simp only [Prod.mk.injEq] at hx
      exact ⟨c0, c1, c2, c3, c4, c5, y0, y1, y2, y3, y4, y5, n, rfl, by simpa using hx.1, by simpa using hx.2, by simpa [Value.cells, o0, k0] using hg 0 f0 rfl, by simpa [Value.cells, o1, k1] using hg 1 f1 rfl, by simpa [Value.cells, o2, k2] using hg 2 f2 rfl, by simpa [Value.cells, o3, k3] using hg 3 f3 rfl, by simpa [Value.cells, o4, k4] using hg 4 f4 rfl, by simpa [Value.cells, o5, k5] using hg 5 f5 rfl⟩
end
theorem list_of {α : Type} (Q : Nat → α → Prop) : ∀ n : Nat, (∀ i, i < n → ∃ g, Q i g) → ∃ l : List α, l.length = n ∧ ∀ i g, l[i]? = some g → Q i g
  | 0, _ => ⟨[], rfl, fun i g h => by simp at h⟩
  | n + 1, h => by
    obtain ⟨l, hl, hq⟩ := list_of Q n (fun i hi => h i (by omega))
    obtain ⟨g, hg⟩ := h n (by omega)
    refine ⟨l ++ [g], by simp [hl], fun i x hx => ?_⟩
    by_cases hi : i < n
    · rw [List.getElem?_append_left (by omega)] at hx
      exact hq i x hx
    · have hi2 : i = n := by
        have := (List.getElem?_eq_some_iff.1 hx).1
        simp only [List.length_append, List.length_singleton, hl] at this
        omega
      subst hi2
      rw [List.getElem?_append_right (by omega), hl] at hx
      simp at hx
      rw [← hx]
      exact hg
theorem wf_u32 {x : Int} (h : (Lit.int .u32 x).wf = true) : 0 ≤ x ∧ x < 4294967296 := by
  simp only [Lit.wf, Bool.and_eq_true, decide_eq_true_eq] at h
  rw [show IntKind.u32.min = 0 from by decide, show IntKind.u32.max = 4294967295 from by decide] at h
  omega
theorem wf_u8 {x : Int} (h : (Lit.int .u8 x).wf = true) : 0 ≤ x ∧ x < 256 := by
  simp only [Lit.wf, Bool.and_eq_true, decide_eq_true_eq] at h
  rw [show IntKind.u8.min = 0 from by decide, show IntKind.u8.max = 255 from by decide] at h
  omega
theorem wf_i64 {x : Int} (h : (Lit.int .i64 x).wf = true) : -9223372036854775808 ≤ x ∧ x < 9223372036854775808 := by
  simp only [Lit.wf, Bool.and_eq_true, decide_eq_true_eq] at h
  rw [show IntKind.i64.min = -9223372036854775808 from by decide, show IntKind.i64.max = 9223372036854775807 from by decide] at h
  omega
theorem open41 {H : Type} {enc : TypeId × Value → H} {w : World} {base : Nat} {sp : Nat → Bool} {held : Bool} {fuel : Nat} {v : Value} {x : DataW H × List MemPlace} (h : DataW.trod enc Try.prog w base sp held fuel 22 [v] = some x) :
    ∃ (A : Option Addr) (c : Nat) (l : List S41), v = .slice A l.length c ∧ l.length ≤ c ∧ Kd.C k41 w A l.length l ∧ ∀ g ∈ l, (0 ≤ g.f0 ∧ g.f0 < 4294967296) ∧ (0 ≤ g.f1 ∧ g.f1 < 256) := by
  rcases open_pairs Try.underlying22 Try.underlying41 (by kernel_rfl) (by kernel_rfl) h with ⟨hcs, _⟩ | ⟨a, len, cap, m, D, Pl, hcs, hb, hl, hm, hmm, _, hi⟩
  · injection hcs with e1 _
    exact ⟨none, 0, [], e1, Nat.le_refl _, ⟨rfl, by simp, fun h => absurd h (by simp)⟩, fun g hg => by cases hg⟩
  · injection hcs with e1 _
    have hlm : len ≤ m := by rw [hmm]; split <;> omega
    obtain ⟨l, hll, hq⟩ := list_of (fun i (g : S41) => (w.cell? (a.add (i * 2 + 0)) = some (.int .u32 g.f0) ∧ w.cell? (a.add (i * 2 + 1)) = some (.int .u8 g.f1)) ∧ (0 ≤ g.f0 ∧ g.f0 < 4294967296) ∧ (0 ≤ g.f1 ∧ g.f1 < 256)) len (fun i hlt => by
      obtain ⟨ys, n, _, _, _, hf⟩ := hi i (by omega)
      obtain ⟨v0, y0, c0, _, t0⟩ := hf 0 _ rfl
      obtain ⟨v1, y1, c1, _, t1⟩ := hf 1 _ rfl
      obtain ⟨n0, e0, _, w0⟩ := DataW.trod_int Try.underlying39 t0
      obtain ⟨n1, e1', _, w1⟩ := DataW.trod_int Try.underlying5 t1
      injection e0 with e0 _
      injection e1' with e1' _
      subst e0
      subst e1'
      exact ⟨⟨n0, n1⟩, ⟨c0, c1⟩, wf_u32 w0, wf_u8 w1⟩)
    refine ⟨some a, cap, l, by rw [hll]; exact e1, by omega, ⟨rfl, by simp only [maxLen] at hm; omega, fun _ => ⟨a, rfl, fun j p hj => ⟨[.int .u32 p.f0, .int .u8 p.f1], rfl, k41_mk w p, fun i u hu => ?_⟩⟩⟩, fun g hg => ?_⟩
    · obtain ⟨⟨q0, q1⟩, _⟩ := hq j p hj
      cases i with
      | zero =>
        cases hu
        exact q0
      | succ i =>
        cases i with
        | zero =>
          cases hu
          exact q1
        | succ i => simp at hu
    · obtain ⟨j, hj, rfl⟩ := List.mem_iff_getElem.1 hg
      exact (hq j _ (List.getElem?_eq_getElem hj)).2
theorem open68 {H : Type} {enc : TypeId × Value → H} {w : World} {base : Nat} {sp : Nat → Bool} {held : Bool} {fuel : Nat} {v : Value} {x : DataW H × List MemPlace} (h : DataW.trod enc Try.prog w base sp held fuel 23 [v] = some x) :
    ∃ (A : Option Addr) (c : Nat) (l : List S68), v = .slice A l.length c ∧ l.length ≤ c ∧ Kd.C k68 w A l.length l ∧ ∀ g ∈ l, (0 ≤ g.f0 ∧ g.f0 < 4294967296) ∧ (0 ≤ g.f1 ∧ g.f1 < 4294967296) := by
  rcases open_pairs Try.underlying23 Try.underlying68 (by kernel_rfl) (by kernel_rfl) h with ⟨hcs, _⟩ | ⟨a, len, cap, m, D, Pl, hcs, hb, hl, hm, hmm, _, hi⟩
  · injection hcs with e1 _
    exact ⟨none, 0, [], e1, Nat.le_refl _, ⟨rfl, by simp, fun h => absurd h (by simp)⟩, fun g hg => by cases hg⟩
  · injection hcs with e1 _
    have hlm : len ≤ m := by rw [hmm]; split <;> omega
    obtain ⟨l, hll, hq⟩ := list_of (fun i (g : S68) => (w.cell? (a.add (i * 2 + 0)) = some (.int .u32 g.f0) ∧ w.cell? (a.add (i * 2 + 1)) = some (.int .u32 g.f1)) ∧ (0 ≤ g.f0 ∧ g.f0 < 4294967296) ∧ (0 ≤ g.f1 ∧ g.f1 < 4294967296)) len (fun i hlt => by
      obtain ⟨ys, n, _, _, _, hf⟩ := hi i (by omega)
      obtain ⟨v0, y0, c0, _, t0⟩ := hf 0 _ rfl
      obtain ⟨v1, y1, c1, _, t1⟩ := hf 1 _ rfl
      obtain ⟨n0, e0, _, w0⟩ := DataW.trod_int Try.underlying39 t0
      obtain ⟨n1, e1', _, w1⟩ := DataW.trod_int Try.underlying39 t1
      injection e0 with e0 _
      injection e1' with e1' _
      subst e0
      subst e1'
      exact ⟨⟨n0, n1⟩, ⟨c0, c1⟩, wf_u32 w0, wf_u32 w1⟩)
    refine ⟨some a, cap, l, by rw [hll]; exact e1, by omega, ⟨rfl, by simp only [maxLen] at hm; omega, fun _ => ⟨a, rfl, fun j p hj => ⟨[.int .u32 p.f0, .int .u32 p.f1], rfl, k68_mk w p, fun i u hu => ?_⟩⟩⟩, fun g hg => ?_⟩
    · obtain ⟨⟨q0, q1⟩, _⟩ := hq j p hj
      cases i with
      | zero =>
        cases hu
        exact q0
      | succ i =>
        cases i with
        | zero =>
          cases hu
          exact q1
        | succ i => simp at hu
    · obtain ⟨j, hj, rfl⟩ := List.mem_iff_getElem.1 hg
      exact (hq j _ (List.getElem?_eq_getElem hj)).2
theorem openU {H : Type} {enc : TypeId × Value → H} {w : World} {base : Nat} {sp : Nat → Bool} {held : Bool} {fuel : Nat} {v : Value} {x : DataW H × List MemPlace} (h : DataW.trod enc Try.prog w base sp held fuel 24 [v] = some x) :
    ∃ (A : Option Addr) (c : Nat) (l : List Int), v = .slice A l.length c ∧ l.length ≤ c ∧ Kd.C (Kd.int .u32) w A l.length l ∧ ∀ g ∈ l, 0 ≤ g ∧ g < 4294967296 := by
  rcases open_ints Try.underlying24 Try.underlying39 (by kernel_rfl) h with ⟨hcs, _⟩ | ⟨a, len, cap, zs, hcs, _, hl, hm, hz, _, hcell, hwz⟩
  · injection hcs with e1 _
    exact ⟨none, 0, [], e1, Nat.le_refl _, ⟨rfl, by simp, fun h => absurd h (by simp)⟩, fun g hg => by cases hg⟩
  · injection hcs with e1 _
    have hlz : len ≤ zs.length := by rw [hz]; split <;> omega
    have hlen : (zs.take len).length = len := by rw [List.length_take]; omega
    refine ⟨some a, cap, zs.take len, by rw [hlen]; exact e1, by omega, ⟨rfl, by simp only [maxLen] at hm; omega, fun _ => ⟨a, rfl, fun j p hj => ⟨[.int .u32 p], rfl, rfl, fun i u hu => ?_⟩⟩⟩, fun g hg => wf_u32 (hwz g (List.mem_of_mem_take hg))⟩
    cases i with
    | zero =>
      cases hu
      obtain ⟨hj1, hj2⟩ := List.getElem?_eq_some_iff.1 hj
      have hj3 : j < zs.length := by omega
      have := hcell j hj3
      rw [List.getD_eq_getElem?_getD, List.getElem?_eq_getElem hj3, Option.getD_some] at this
      rw [List.getElem_take] at hj2
      rw [hj2] at this
      show w.cell? (a.add (j * 1 + 0)) = _
      rw [Nat.mul_one, Nat.add_zero]
      exact this
    | succ i => simp at hu
theorem openB {H : Type} {enc : TypeId × Value → H} {w : World} {base : Nat} {sp : Nat → Bool} {held : Bool} {fuel : Nat} {v : Value} {x : DataW H × List MemPlace} (h : DataW.trod enc Try.prog w base sp held fuel 28 [v] = some x) :
    ∃ (A : Option Addr) (c : Nat) (l : List Int), v = .slice A l.length c ∧ l.length ≤ c ∧ Kd.C (Kd.int .u8) w A l.length l ∧ ∀ g ∈ l, 0 ≤ g ∧ g < 256 := by
  rcases open_ints Try.underlying28 Try.underlying5 (by kernel_rfl) h with ⟨hcs, _⟩ | ⟨a, len, cap, zs, hcs, _, hl, hm, hz, _, hcell, hwz⟩
  · injection hcs with e1 _
    exact ⟨none, 0, [], e1, Nat.le_refl _, ⟨rfl, by simp, fun h => absurd h (by simp)⟩, fun g hg => by cases hg⟩
  · injection hcs with e1 _
    have hlz : len ≤ zs.length := by rw [hz]; split <;> omega
    have hlen : (zs.take len).length = len := by rw [List.length_take]; omega
    refine ⟨some a, cap, zs.take len, by rw [hlen]; exact e1, by omega, ⟨rfl, by simp only [maxLen] at hm; omega, fun _ => ⟨a, rfl, fun j p hj => ⟨[.int .u8 p], rfl, rfl, fun i u hu => ?_⟩⟩⟩, fun g hg => wf_u8 (hwz g (List.mem_of_mem_take hg))⟩
    cases i with
    | zero =>
      cases hu
      obtain ⟨hj1, hj2⟩ := List.getElem?_eq_some_iff.1 hj
      have hj3 : j < zs.length := by omega
      have := hcell j hj3
      rw [List.getD_eq_getElem?_getD, List.getElem?_eq_getElem hj3, Option.getD_some] at this
      rw [List.getElem_take] at hj2
      rw [hj2] at this
      show w.cell? (a.add (j * 1 + 0)) = _
      rw [Nat.mul_one, Nat.add_zero]
      exact this
    | succ i => simp at hu
def InU32 (l : List Int) : Prop := ∀ g ∈ l, 0 ≤ g ∧ g < 4294967296
def InU8 (l : List Int) : Prop := ∀ g ∈ l, 0 ≤ g ∧ g < 256
def In41 (l : List S41) : Prop := ∀ g ∈ l, (0 ≤ g.f0 ∧ g.f0 < 4294967296) ∧ (0 ≤ g.f1 ∧ g.f1 < 256)
def In68 (l : List S68) : Prop := ∀ g ∈ l, (0 ≤ g.f0 ∧ g.f0 < 4294967296) ∧ (0 ≤ g.f1 ∧ g.f1 < 4294967296)
set_option maxRecDepth 100000 in
theorem openCirc {H : Type} {enc : TypeId × Value → H} {w : World} {base : Nat} {sp : Nat → Bool} {held : Bool} {r : Reach} {b0 : Nat} {v : Value} {d : DataW H} {p : List MemPlace} (hv : Value.okWide Try.prog w r b0 26 v) (h : DataW.Trod enc Try.prog w base sp held 26 v d p) :
    ∃ (a0 : Int) (A1 : Option Addr) (c1 : Nat) (l1 : List S41) (A2 : Option Addr) (c2 : Nat) (l2 : List S68) (A3 : Option Addr) (c3 : Nat) (l3 : List Int) (A4 : Option Addr) (c4 : Nat) (l4 : List Int) (A5 : Option Addr) (c5 : Nat) (l5 : List Int),
      v = .agg #[.int .i64 a0, .slice A1 l1.length c1, .slice A2 l2.length c2, .slice A3 l3.length c3, .slice A4 l4.length c4, .slice A5 l5.length c5] ∧
      (-9223372036854775808 ≤ a0 ∧ a0 < 9223372036854775808) ∧ (l1.length ≤ c1 ∧ Kd.C k41 w A1 l1.length l1 ∧ In41 l1) ∧ (l2.length ≤ c2 ∧ Kd.C k68 w A2 l2.length l2 ∧ In68 l2) ∧
      (l3.length ≤ c3 ∧ Kd.C (Kd.int .u32) w A3 l3.length l3 ∧ InU32 l3) ∧ (l4.length ≤ c4 ∧ Kd.C (Kd.int .u32) w A4 l4.length l4 ∧ InU32 l4) ∧ (l5.length ≤ c5 ∧ Kd.C (Kd.int .u32) w A5 l5.length l5 ∧ InU32 l5) := by
  obtain ⟨v0, v1, v2, v3, v4, v5, y0, y1, y2, y3, y4, y5, n, rfl, _, _, t0, t1, t2, t3, t4, t5⟩ := open_six Try.underlying26 (by kernel_rfl) (by kernel_rfl) hv h
  obtain ⟨a0, e0, _, w0⟩ := DataW.trod_int Try.underlying3 t0
  injection e0 with e0 _
  subst e0
  obtain ⟨A1, c1, l1, rfl, h1, k1, i1⟩ := open41 t1
  obtain ⟨A2, c2, l2, rfl, h2, k2, i2⟩ := open68 t2
  obtain ⟨A3, c3, l3, rfl, h3, k3, i3⟩ := openU t3
  obtain ⟨A4, c4, l4, rfl, h4, k4, i4⟩ := openU t4
  obtain ⟨A5, c5, l5, rfl, h5, k5, i5⟩ := openU t5
  exact ⟨a0, A1, c1, l1, A2, c2, l2, A3, c3, l3, A4, c4, l4, A5, c5, l5, rfl, wf_i64 w0, ⟨h1, k1, i1⟩, ⟨h2, k2, i2⟩, ⟨h3, k3, i3⟩, ⟨h4, k4, i4⟩, ⟨h5, k5, i5⟩⟩
end Go.Proofs.Yteiiodlgdbiimaa.F
end
section
namespace Go.Proofs.Yteiiodlgdbiimaa.F
open Go.RowKit Go.Shelf Go.Proofs.YteiiodlgdbiimaaW.PrintWords Go.Proofs.YteiiodlgdbiimaaW.PrintLast Go.Proofs.YteiiodlgdbiimaaW.PrintMore
set_option linter.unusedVariables false
set_option linter.unusedSimpArgs false
theorem Ev.ifp {α : Type} {c : Prop} [Decidable c] {g f : Nat → Option α} {r : α} (hc : c) (h : Ev g r) : Ev (fun k => if c then g k else f k) r := Ev.congr (fun k => if_pos hc) h
theorem Ev.ifn {α : Type} {c : Prop} [Decidable c] {g f : Nat → Option α} {r : α} (hc : ¬ c) (h : Ev f r) : Ev (fun k => if c then g k else f k) r := Ev.congr (fun k => if_neg hc) h
theorem Ev.bound {α β : Type} {o : Option α} {a : α} {f : Nat → α → Option β} {r : β} (h : o = some a) (k : Ev (fun n => f n a) r) : Ev (fun n => o.bind (f n)) r := Ev.congr (fun n => by rw [h]; rfl) k
theorem half_u32 {x : Int} (h0 : 0 ≤ x) (h1 : x < 4294967296) : (Int.tdiv x 2) % 4294967296 = x / 2 := by
  rw [Int.tdiv_eq_ediv_of_nonneg h0]
  omega
theorem wrap_nat {i : Nat} (h : i < 1000000000) : wrap64 ((i : Int) + 1) = ((i + 1 : Nat) : Int) := by
  have e : ((i + 1 : Nat) : Int) = (i : Int) + 1 := by push_cast; rfl
  rw [e]
  exact wrap64_id (by omega) (by omega)
theorem rd_at {l : List Int} {i : Nat} (h : i < l.length) : rd l (i : Int) = l[i] := by simp [rd, List.getD_eq_getElem?_getD, List.getElem?_eq_getElem h]
theorem rd41_at {l : List S41} {i : Nat} (h : i < l.length) : rd_T41 l (i : Int) = l[i] := by simp [rd_T41, List.getD_eq_getElem?_getD, List.getElem?_eq_getElem h]
theorem rd68_at {l : List S68} {i : Nat} (h : i < l.length) : rd_T68 l (i : Int) = l[i] := by simp [rd_T68, List.getD_eq_getElem?_getD, List.getElem?_eq_getElem h]
section
variable {a0 : Int} {l1 : List S41} {l2 : List S68} {l3 l4 l5 : List Int}
theorem okIn_of (h1 : In41 l1) (h2 : In68 l2) (n1 : l1.length ≤ 1099511627776) (n2 : l2.length ≤ 1099511627776) : okIn l1 l2 = true := by
  simp only [okIn, u32s, Bool.and_eq_true, decide_eq_true_eq, List.all_eq_true, List.mem_map]
  refine ⟨⟨⟨⟨n1, n2⟩, ?_⟩, ?_⟩, ?_⟩
  · rintro x ⟨g, hg, rfl⟩
    exact (h1 g hg).1
  · rintro x ⟨g, hg, rfl⟩
    exact (h2 g hg).1
  · rintro x ⟨g, hg, rfl⟩
    exact (h2 g hg).2
theorem u32s_of {l : List Int} (h : InU32 l) : u32s l = true := by
  simp only [u32s, Bool.and_eq_true, decide_eq_true_eq, List.all_eq_true]
  exact h
end
end Go.Proofs.Yteiiodlgdbiimaa.F
end
section
namespace Go.Proofs.Yteiiodlgdbiimaa.F
open Go.RowKit Go.Proofs.YteiiodlgdbiimaaW.PrintWords Go.Proofs.YteiiodlgdbiimaaW.PrintLast Go.Proofs.YteiiodlgdbiimaaW.PrintMore
attribute [local go_sem] max2_int min2_int max_two min_two max_three min_three max_four min_four
set_option linter.unusedVariables false
set_option linter.unusedSimpArgs false
def strash_Lit.f (l0 : List Int) (a1 : Int) : Option (Int) := if (wrap64 (a1 / 2)) < (l0.length : Int) then (if 0 ≤ (a1 / 2) then (if (a1 / 2) < (l0.length : Int) then (some (Go.bits .xor .u32 (rd l0 (a1 / 2)) (Go.bits .and .u32 a1 1))) else (none)) else (none)) else (some 0)
set_option maxHeartbeats 8000000 in
set_option maxRecDepth 100000 in
theorem strash_Lit.calls (A0 : Option Addr) (c0 : Nat) (l0 : List Int) (a1 : Int) (r : Int) (w : World) (hr0 : Kd.C (Kd.int .u32) w A0 l0.length l0) (hc0 : l0.length ≤ c0) (h : strash_Lit.f l0 a1 = some r) :
    Calls Try.prog 45 #[.slice A0 l0.length c0, .int .u32 a1] w fun e w' => e = .returned (.int .u32 r) ∧ Drawn0 w w' := by
  have HR0 := Aside0.mk hr0
  have HC0 := Aside0.mk hc0
  clear hr0 hc0
  have H : (if (wrap64 (a1 / 2)) < (l0.length : Int) then (if 0 ≤ (a1 / 2) then (if (a1 / 2) < (l0.length : Int) then (some (Go.bits .xor .u32 (rd l0 (a1 / 2)) (Go.bits .and .u32 a1 1))) else (none)) else (none)) else (some 0)) = some r := h
  clear h
  by_cases c3 : (wrap64 (a1 / 2)) < (l0.length : Int)
  · rw [if_pos c3] at H
    have c3b0 : decide ((wrap64 (a1 / 2)) < (l0.length : Int)) = true := decide_eq_true c3
    clear c3
    obtain ⟨ji4, hji4⟩ : ∃ j_ : Int, (a1 / 2) = j_ := ⟨_, rfl⟩
    replace H : (if 0 ≤ (ji4) then (if (ji4) < (l0.length : Int) then (some (Go.bits .xor .u32 (rd l0 (ji4)) (Go.bits .and .u32 a1 1))) else (none)) else (none)) = some r := by first | (rw [hji4] at H; exact H) | (simp only [hji4] at H ⊢; exact H)
    (try rw [hji4] at c3b0)
    by_cases c5 : 0 ≤ (ji4)
    · rw [if_pos c5] at H
      have c5b0 : decide (0 ≤ (ji4)) = true := decide_eq_true c5
      clear c5
      by_cases c6 : (ji4) < (l0.length : Int)
      · rw [if_pos c6] at H
        have c6b0 : decide ((ji4) < (l0.length : Int)) = true := decide_eq_true c6
        clear c6
        obtain rfl := Option.some.inj H
        have p304 : 0 ≤ ((ji4) : Int) := of_decide_eq_true (by first | (with_reducible assumption) | assumption)
        have q304 : (ji4) < (l0.length : Int) := of_decide_eq_true (by first | (with_reducible assumption) | assumption)
        obtain ⟨ad304, e304, hx304_0⟩ := Kd.at_int HR0.out (ji4) p304 q304
        cases e304
        replace p304 := eq_true p304
        replace q304 := eq_true q304
        go_enter Try.func45, Try.ntmps45
        go_wp2
        go_ret
        exact ⟨by first | rfl | (simp; done) | (simp only [← hji4] <;> (first | rfl | simp)) | (simp [*]; done), by repeat (first | exact Drawn0.refl _ | apply Drawn0.step)⟩
      · rw [if_neg c6] at H
        exact absurd H (by simp)
    · rw [if_neg c5] at H
      exact absurd H (by simp)
  · rw [if_neg c3] at H
    have c3b0 : decide ((wrap64 (a1 / 2)) < (l0.length : Int)) = false := decide_eq_false c3
    clear c3
    obtain rfl := Option.some.inj H
    go_enter Try.func45, Try.ntmps45
    go_wp2
    go_ret
    exact ⟨by first | rfl | (simp; done) | (simp [*]; done), by repeat (first | exact Drawn0.refl _ | apply Drawn0.step)⟩
end Go.Proofs.Yteiiodlgdbiimaa.F
end
section
namespace Go.Proofs.Yteiiodlgdbiimaa.F
open Go.RowKit Go.Shelf Go.Proofs.YteiiodlgdbiimaaW.PrintWords Go.Proofs.YteiiodlgdbiimaaW.PrintLast Go.Proofs.YteiiodlgdbiimaaW.PrintMore
set_option linter.unusedVariables false
set_option linter.unusedSimpArgs false
theorem u32_nat {x : Int} (h0 : 0 ≤ x) (h1 : x < 4294967296) : ∃ n : Nat, x = (n : Int) ∧ n < 2 ^ 32 := by
  obtain ⟨n, rfl⟩ := Int.eq_ofNat_of_zero_le h0
  exact ⟨n, rfl, by omega⟩
theorem xor_one {x : Int} (h0 : 0 ≤ x) (h1 : x < 4294967296) : Go.bits .xor .u32 x 1 = 2 * (x / 2) + (x + 1) % 2 := by
  obtain ⟨n, rfl, hn⟩ := u32_nat h0 h1
  have e : Go.bits .xor .u32 (n : Int) 1 = IntKind.u32.wrap ((n ^^^ 1 : Nat) : Int) := by
    have h32 : IntKind.u32.bits = 32 := rfl
    simp only [Go.bits, h32]
    have h1' : (1 : Int) = ((1 : Nat) : Int) := rfl
    rw [h1', BitVec.ofInt_natCast, BitVec.ofInt_natCast, BitVec.toNat_xor, BitVec.toNat_ofNat, BitVec.toNat_ofNat, h32, Nat.mod_eq_of_lt hn]
  have hd : (n ^^^ 1) / 2 = n / 2 := by rw [Nat.xor_div_two]; simp
  have hm : (n ^^^ 1) % 2 = (n + 1) % 2 := by
    have ht := Nat.testBit_xor n 1 0
    simp only [Nat.testBit_zero] at ht
    rw [show decide True = true from rfl] at ht
    by_cases hc : n % 2 = 1
    · rw [decide_eq_true hc] at ht
      have := of_decide_eq_false (show decide ((n ^^^ 1) % 2 = 1) = false from ht)
      omega
    · rw [decide_eq_false hc] at ht
      have := of_decide_eq_true (show decide ((n ^^^ 1) % 2 = 1) = true from ht)
      omega
  rw [e, u32_id (by omega) (by omega)]
  omega
theorem xor_zero32 {x : Int} (h0 : 0 ≤ x) (h1 : x < 4294967296) : Go.bits .xor .u32 x 0 = x := by
  obtain ⟨n, rfl, hn⟩ := u32_nat h0 h1
  have e : Go.bits .xor .u32 (n : Int) 0 = IntKind.u32.wrap ((n ^^^ 0 : Nat) : Int) := by
    have h32 : IntKind.u32.bits = 32 := rfl
    simp only [Go.bits, h32]
    have h1' : (0 : Int) = ((0 : Nat) : Int) := rfl
    rw [h1', BitVec.ofInt_natCast, BitVec.ofInt_natCast, BitVec.toNat_xor, BitVec.toNat_ofNat, BitVec.toNat_ofNat, h32, Nat.mod_eq_of_lt hn]
  rw [e, Nat.xor_zero, u32_id (by omega) (by omega)]
theorem and_one {x : Int} (h0 : 0 ≤ x) (h1 : x < 4294967296) : Go.bits .and .u32 x 1 = x % 2 := by
  obtain ⟨n, rfl, hn⟩ := u32_nat h0 h1
  have e : Go.bits .and .u32 (n : Int) 1 = IntKind.u32.wrap ((n &&& 1 : Nat) : Int) := by
    have h32 : IntKind.u32.bits = 32 := rfl
    simp only [Go.bits, h32]
    have h1' : (1 : Int) = ((1 : Nat) : Int) := rfl
    rw [h1', BitVec.ofInt_natCast, BitVec.ofInt_natCast, BitVec.toNat_and, BitVec.toNat_ofNat, BitVec.toNat_ofNat, h32, Nat.mod_eq_of_lt hn]
  rw [e, Nat.and_one_is_mod, u32_id (by omega) (by omega)]
  omega
theorem xinfoU' : (Try.prog.info? 39).map (fun i => (i.zero, i.size, i.bytes)) = some (some (.int .u32 0), 1, 4) := by kernel_rfl
theorem take_next {α : Type} {l : List α} {k : Nat} (h : k < l.length) : l.take (k + 1) = l.take k ++ [l[k]] := by
  rw [List.take_add_one, List.getElem?_eq_getElem h]
  rfl
def litP (tl : List Int) (x : Int) : Int := if x / 2 < (tl.length : Int) then Go.bits .xor .u32 (rd tl (x / 2)) (Go.bits .and .u32 x 1) else 0
theorem lit_is {tl : List Int} {x : Int} (h0 : 0 ≤ x) (h1 : x < 4294967296) : strash_Lit.f tl x = some (litP tl x) := by
  unfold strash_Lit.f litP
  rw [wrap64_id (by omega) (by omega)]
  split
  · rename_i h
    have h2 : 0 ≤ x / 2 := by omega
    simp only [h, h2, if_true]
  · rfl
theorem rd_u32 {tl : List Int} (ht : InU32 tl) (i : Int) : 0 ≤ rd tl i ∧ rd tl i < 4294967296 := by
  unfold rd
  rw [List.getD_eq_getElem?_getD]
  cases h : tl[i.toNat]? with
  | none => simp
  | some v => exact ht v (List.mem_of_getElem? h)
theorem litP_u32 {tl : List Int} (ht : InU32 tl) {x : Int} (h0 : 0 ≤ x) (h1 : x < 4294967296) : 0 ≤ litP tl x ∧ litP tl x < 4294967296 := by
  unfold litP
  have hr := rd_u32 ht (x / 2)
  split
  · rw [and_one h0 h1]
    rcases (show x % 2 = 0 ∨ x % 2 = 1 by omega) with e | e
    · rw [e, xor_zero32 hr.1 hr.2]
      exact hr
    · rw [e, xor_one hr.1 hr.2]
      omega
  · omega
set_option maxHeartbeats 4000000 in
set_option maxRecDepth 100000 in
theorem lits104 (tl : List Int) (At : Option Addr) (ct g5 : Nat) (l : List Int) (A : Option Addr) (c : Nat) (w : World) (hl : Kd.C (Kd.int .u32) w A l.length l) (hu : InU32 l) (hn : l.length ≤ 5000) (hto : Kd.C (Kd.int .u32) w At tl.length tl) (hct : tl.length ≤ ct)
    (hb : w.heap[g5]? = some (.cells #[.slice At tl.length ct] 24 (0, 0))) :
    Calls Try.prog 104 #[.slice A l.length c, .pointer (some ⟨g5, 0, none⟩)] w fun e w' => ∃ v : Value, e = .returned v ∧ Kd.R (Kd.int .u32) 39 w' w.heap.size (fun _ => True) v (l.map (litP tl)) ∧ Below w.heap.size w w' := by
  have HL := Aside0.mk hl
  have HU := Aside0.mk hu
  have HN := Aside0.mk hn
  have HT := Aside0.mk hto
  have HB5 := Aside0.mk hb
  clear hl hu hn hto hb
  go_enter Try.func104, Try.ntmps104
  go_wp2
  go_loopg [3, 8] l.length (fun gg v3 v8 wr => ∃ (k : Nat) (ys : List Int), l.length - k ≤ gg ∧ v8 = .int .i64 k ∧ Aside0 (k ≤ l.length) ∧ Aside0 (ys = (l.take k).map (litP tl)) ∧ Aside0 (Below w.heap.size w wr) ∧ Aside0 (Kd.R (Kd.int .u32) 39 wr w.heap.size (fun _ => True) v3 ys))
  case atStart => exact ⟨0, [], by omega, rfl, ⟨Nat.zero_le _⟩, ⟨rfl⟩, ⟨Below.refl _ _⟩, ⟨Kd.R_nil _ _ _ _ _⟩⟩
  case round =>
    obtain ⟨k, ys, hg, rfl, HKP, HY, HBL, HR⟩ := hrel
    have hln := HN.out
    by_cases hlt : k < l.length
    · have hltz : (k : Int) < (l.length : Int) := by omega
      obtain ⟨ad, e, xq⟩ := Kd.at_int (Kd.C_below HL.out HBL.out) (k : Int) (by omega) hltz
      cases e
      have ek : (k : Int).toNat = k := by omega
      rw [ek] at xq
      clear ek
      have hx : 0 ≤ rd l (k : Int) ∧ rd l (k : Int) < 4294967296 := rd_u32 HU.out _
      have E : Aside0 (ys ++ [litP tl (rd l (k : Int))] = (l.take (k + 1)).map (litP tl)) := ⟨by rw [HY.out, take_next hlt, List.map_append, rd_at hlt]; rfl⟩
      have HYL := Aside0.mk (show ys.length ≤ 5000 from by rw [HY.out]; simp; omega)
      generalize rd l (k : Int) = x at xq hx E
      have HX := Aside0.mk hx
      have z5 : wr.cell? ⟨g5, 0, none⟩ = some (.slice At tl.length ct) := (blk_cell (blk_below HB5.out HBL.out) 0).trans rfl
      obtain ⟨A3, c3, rfl⟩ := Kd.R_slice HR.out
      clear hx HY
      go_wp2_with (first | (go_at_call 45; refine (strash_Lit.calls At ct tl x (litP tl x) _ (Kd.C_below HT.out HBL.out) hct (lit_is HX.out.1 HX.out.2)).mono ?_; rintro e w2 ⟨rfl, hd⟩; have HD := Aside0.mk (below_step HBL.out hd.below); have HRD := Aside0.mk (Kd.R_below HR.out hd.below); clear hd z5 xq) | ((with_reducible refine gate_builtin (b := .append) (xs := #[.tmp 12, .tmp 16]) rfl ?_); at_builtin; refine Kd.R_append (Kd.int .u32) (w0 := w) w.heap.size rfl (.tmp 12) (.tmp 16) 24 39 (.int .u32 0) 4 rfl Try.underlying24 xinfoU' rfl (by decide) (by omega) (.slice A3 ys.length c3) ys (litP tl x) [.int .u32 (litP tl x)] (fun _ => True) (fun _ => False) rfl (by first | (go_simp; done) | (go_simp; rfl)) rfl (fun _ hk => hk.elim) (fun _ _ => trivial) HRD.out HD.out HD.out.size (by have := HYL.out; omega) ?_; intro v1 w3 hR hB _ _; have HR3 := Aside0.mk hR; have HB3 := Aside0.mk hB; clear hR hB))
      go_wp2
      go_roundg (l.length - (k + 1))
      case measure => omega
      case rel => exact ⟨k + 1, _, by omega, by go_num, ⟨by omega⟩, E, HB3, HR3⟩
    · have hltz : ¬ (k : Int) < (l.length : Int) := by omega
      have E : Aside0 (ys = l.map (litP tl)) := ⟨by rw [HY.out, List.take_of_length_le (by omega)]⟩
      go_wp2
      go_ret
      exact ⟨_, rfl, by rw [← E.out]; exact HR.out, HBL.out⟩
end Go.Proofs.Yteiiodlgdbiimaa.F
end
section
namespace Go.Proofs.Yteiiodlgdbiimaa.F
open Go.RowKit Go.Shelf Go.Proofs.YteiiodlgdbiimaaW.PrintWords Go.Proofs.YteiiodlgdbiimaaW.PrintLast Go.Proofs.YteiiodlgdbiimaaW.PrintMore
set_option linter.unusedVariables false
set_option linter.unusedSimpArgs false
theorem idxG_lt {gs : List S68} {a b : Int} {j : Nat} (h : idxG gs a b = some j) : j < gs.length := by
  obtain ⟨⟨g, hg, _⟩, _⟩ := idxG_some gs j h
  exact (List.getElem?_eq_some_iff.1 hg).1
theorem gateP_ok {first : Int} {gs : List S68} {a b : Int} (hf : 0 ≤ first ∧ first ≤ 40000) (hl : gs.length ≤ 40000) (ha : 0 ≤ a ∧ a < 4294967296) (hb : 0 ≤ b ∧ b < 4294967296) :
    (0 ≤ (gateP first gs a b).1 ∧ (gateP first gs a b).1 < 4294967296) ∧ (gateP first gs a b).2.length ≤ gs.length + 1 := by
  have hHI : 0 ≤ mx a b ∧ mx a b < 4294967296 := by unfold mx; split <;> omega
  unfold gateP
  split
  · exact ⟨⟨by dsimp only; omega, by dsimp only; omega⟩, Nat.le_succ _⟩
  split
  · exact ⟨⟨by dsimp only; omega, by dsimp only; omega⟩, Nat.le_succ _⟩
  split
  · exact ⟨hHI, Nat.le_succ _⟩
  split
  · exact ⟨hHI, Nat.le_succ _⟩
  cases h : idxG gs (mx a b) (mn a b) with
  | some j =>
    have := idxG_lt h
    exact ⟨⟨by dsimp only; omega, by dsimp only; omega⟩, Nat.le_succ _⟩
  | none => exact ⟨⟨by dsimp only; omega, by dsimp only; omega⟩, by simp⟩
def stepW (first : Int) (l2 : List S68) (s : List Int × List S68) (v : Nat) (x : Int) : List Int × List S68 :=
  if x ≠ 2 then (s.1 ++ [x], s.2) else if (v : Int) < first then (s.1 ++ [2 * (v : Int)], s.2)
  else (s.1 ++ [(gateP first s.2 (litP s.1 (rd_T68 l2 ((v : Int) - first)).f0) (litP s.1 (rd_T68 l2 ((v : Int) - first)).f1)).1], (gateP first s.2 (litP s.1 (rd_T68 l2 ((v : Int) - first)).f0) (litP s.1 (rd_T68 l2 ((v : Int) - first)).f1)).2)
def runW (first : Int) (l2 : List S68) (is : List Int) : Nat → List Int × List S68
  | 0 => ([], [])
  | k + 1 => stepW first l2 (runW first l2 is k) k (rd is (k : Int))
theorem rd68_ok {l2 : List S68} (h : In68 l2) (i : Int) : (0 ≤ (rd_T68 l2 i).f0 ∧ (rd_T68 l2 i).f0 < 4294967296) ∧ (0 ≤ (rd_T68 l2 i).f1 ∧ (rd_T68 l2 i).f1 < 4294967296) := by
  unfold rd_T68
  rw [List.getD_eq_getElem?_getD]
  cases hg : l2[i.toNat]? with
  | none => exact ⟨⟨by decide, by decide⟩, ⟨by decide, by decide⟩⟩
  | some g => exact h g (List.mem_of_getElem? hg)
theorem rd_u8 {is : List Int} (h : InU8 is) (i : Int) : 0 ≤ rd is i ∧ rd is i < 256 := by
  unfold rd
  rw [List.getD_eq_getElem?_getD]
  cases hg : is[i.toNat]? with
  | none => exact ⟨by decide, by decide⟩
  | some g => exact h g (List.mem_of_getElem? hg)
theorem runW_ok {first : Int} {l2 : List S68} {is : List Int} (hf : 0 ≤ first ∧ first ≤ 40000) (h2 : In68 l2) (hi : InU8 is) : ∀ k : Nat, k ≤ 40000 → (runW first l2 is k).1.length = k ∧ (runW first l2 is k).2.length ≤ k ∧ InU32 (runW first l2 is k).1
  | 0, _ => ⟨rfl, Nat.le_refl _, fun x hx => by cases hx⟩
  | k + 1, hk => by
    obtain ⟨i1, i2, i3⟩ := runW_ok hf h2 hi k (by omega)
    have hx := rd_u8 hi (k : Int)
    unfold runW
    generalize runW first l2 is k = s at i1 i2 i3 ⊢
    unfold stepW
    have snoc : ∀ y : Int, 0 ≤ y → y < 4294967296 → InU32 (s.1 ++ [y]) := fun y h0 h1 z hz => by
      rcases List.mem_append.1 hz with hz | hz
      · exact i3 z hz
      · rw [List.mem_singleton.1 hz]
        exact ⟨h0, h1⟩
    split
    · exact ⟨by simp [i1], by simp; omega, snoc _ (by omega) (by omega)⟩
    · split
      · exact ⟨by simp [i1], by simp; omega, snoc _ (by omega) (by omega)⟩
      · have hg := rd68_ok h2 ((k : Int) - first)
        have hG := gateP_ok (gs := s.2) hf (by omega) (litP_u32 i3 hg.1.1 hg.1.2) (litP_u32 i3 hg.2.1 hg.2.2)
        exact ⟨by simp [i1], by dsimp only; omega, snoc _ hG.1.1 hG.1.2⟩
theorem MkSt.over {first : Int} {gs : List S68} {w0 : World} {gm mb : Nat} {W w1 : World} {v : Value} {xs : List Int} (h : MkSt first gs w0 gm mb W) (hR : Kd.R (Kd.int .u32) 39 W w0.heap.size (fun _ => True) v xs) (hB : Below w0.heap.size w0 w1) (hg : W.grownBy w1 v.ownBlock) : MkSt first gs w0 gm mb w1 := by
  obtain ⟨vg, hk, hq⟩ := h.st
  refine ⟨hB, h.gm0, h.mb0, h.ok, h.ap, blk_grown h.map hg (fun e => ?_), vg, blk_grown hk hg (Kd.R_ne hR hk (by decide)), Kd.R_over' hq (Kd.R_typed hR) (by decide) hg⟩
  obtain ⟨cs, hc⟩ := Kd.R_typed hR mb e.symm
  rw [h.map] at hc
  cases hc
theorem MkSt.set {first : Int} {gs : List S68} {w0 : World} {gm mb : Nat} {W : World} (h : MkSt first gs w0 gm mb W) {g t : Nat} {cells : Array Value} (hk : W.heap[g]? = some (.cells cells t (0, 0))) (h1 : t ≠ 123) (h2 : t ≠ 68) (hg : w0.heap.size ≤ g) (i : Nat) (u : Value) : MkSt first gs w0 gm mb (W.setCell ⟨g, i, none⟩ u) := by
  obtain ⟨vg, hb, hq⟩ := h.st
  refine ⟨h.below.setCell (p := ⟨g, i, none⟩) hg u, h.gm0, h.mb0, h.ok, h.ap, (Below.heap_setCell _ _ _ mb (fun e => ?_)).trans h.map, vg, blk_far hb (p := ⟨g, i, none⟩) (blk_ne hb hk (fun e => h1 e.symm)) u, ?_⟩
  · have e' : mb = g := e
    rw [← e', h.map] at hk
    cases hk
  · refine Kd.R_set hq hk ?_ i u
    intro q hq'
    have : q = 68 := by simpa [k68, Kd.iso, Kd.pair, Kd.int, Kd.scalar] using hq'
    rw [this]
    exact fun e => h2 e.symm
structure WiSt (a0 : Int) (A1 : Option Addr) (c1 : Nat) (l1 : List S41) (A2 : Option Addr) (c2 : Nat) (l2 : List S68) (A3 : Option Addr) (c3 : Nat) (l3 : List Int) (A4 : Option Addr) (c4 : Nat) (l4 : List Int) (A5 : Option Addr) (c5 : Nat) (l5 : List Int) (w0 : World) (g4 g5 gm mb : Nat) (first : Int) (tl : List Int) (gs : List S68) (W : World) : Prop where
  mkr : MkSt first gs w0 gm mb W
  k2 : W.heap[w0.heap.size]? = some (.cells #[.int .i64 a0, .slice A1 l1.length c1, .slice A2 l2.length c2, .slice A3 l3.length c3, .slice A4 l4.length c4, .slice A5 l5.length c5] 26 (0, 0))
  k4 : W.heap[g4]? = some (.cells #[.int .i64 0, .slice none 0 0, .slice none 0 0, .slice none 0 0, .slice none 0 0, .slice none 0 0] 26 (0, 0))
  h4 : w0.heap.size < g4
  h5 : w0.heap.size ≤ g5
  k5 : ∃ vt, W.heap[g5]? = some (.cells #[vt] 24 (0, 0)) ∧ Kd.R (Kd.int .u32) 39 W w0.heap.size (fun _ => True) vt tl
section
variable {a0 : Int} {A1 : Option Addr} {c1 : Nat} {l1 : List S41} {A2 : Option Addr} {c2 : Nat} {l2 : List S68} {A3 : Option Addr} {c3 : Nat} {l3 : List Int} {A4 : Option Addr} {c4 : Nat} {l4 : List Int} {A5 : Option Addr} {c5 : Nat} {l5 : List Int} {w0 : World} {g4 g5 gm mb : Nat} {first : Int} {tl : List Int} {gs : List S68} {W W' : World}
theorem WiSt.step (h : WiSt a0 A1 c1 l1 A2 c2 l2 A3 c3 l3 A4 c4 l4 A5 c5 l5 w0 g4 g5 gm mb first tl gs W) (hb : Below W.heap.size W W') : WiSt a0 A1 c1 l1 A2 c2 l2 A3 c3 l3 A4 c4 l4 A5 c5 l5 w0 g4 g5 gm mb first tl gs W' := by
  obtain ⟨vt, k, r⟩ := h.k5
  exact ⟨h.mkr.step hb, blk_below h.k2 hb, blk_below h.k4 hb, h.h4, h.h5, vt, blk_below k hb, Kd.R_below r hb⟩
theorem WiSt.gated (h : WiSt a0 A1 c1 l1 A2 c2 l2 A3 c3 l3 A4 c4 l4 A5 c5 l5 w0 g4 g5 gm mb first tl gs W) {gs' : List S68} (hm : MkSt first gs' w0 gm mb W') (ho : OthersG W W') : WiSt a0 A1 c1 l1 A2 c2 l2 A3 c3 l3 A4 c4 l4 A5 c5 l5 w0 g4 g5 gm mb first tl gs' W' := by
  obtain ⟨vt, k, r⟩ := h.k5
  exact ⟨hm, ho _ _ _ h.k2 (by decide) (by decide), ho _ _ _ h.k4 (by decide) (by decide), h.h4, h.h5, vt, ho _ _ _ k (by decide) (by decide), R_othersG r ho⟩
theorem WiSt.appended (h : WiSt a0 A1 c1 l1 A2 c2 l2 A3 c3 l3 A4 c4 l4 A5 c5 l5 w0 g4 g5 gm mb first tl gs W) {vt v1 : Value} {w1 : World} {x : Int} (hk : W.heap[g5]? = some (.cells #[vt] 24 (0, 0))) (hr : Kd.R (Kd.int .u32) 39 W w0.heap.size (fun _ => True) vt tl)
    (hR : Kd.R (Kd.int .u32) 39 w1 w0.heap.size (fun _ => True) v1 (tl ++ [x])) (hB : Below w0.heap.size w0 w1) (hg : W.grownBy w1 vt.ownBlock) :
    WiSt a0 A1 c1 l1 A2 c2 l2 A3 c3 l3 A4 c4 l4 A5 c5 l5 w0 g4 g5 gm mb first (tl ++ [x]) gs (w1.setCell ⟨g5, 0, none⟩ v1) ∧ w1.heap[g5]? = some (.cells #[vt] 24 (0, 0)) := by
  have k5 := blk_grown hk hg (Kd.R_ne hr hk (by decide))
  have k2 := blk_grown h.k2 hg (Kd.R_ne hr h.k2 (by decide))
  have k4 := blk_grown h.k4 hg (Kd.R_ne hr h.k4 (by decide))
  exact ⟨⟨(h.mkr.over hr hB hg).set k5 (by decide) (by decide) h.h5 0 v1, blk_far k2 (p := ⟨g5, 0, none⟩) (blk_ne k2 k5 (by decide)) v1, blk_far k4 (p := ⟨g5, 0, none⟩) (blk_ne k4 k5 (by decide)) v1, h.h4, h.h5, v1, by simpa using blk_set k5 0 v1, Kd.R_set hR k5 (by decide) 0 v1⟩, k5⟩
end
def withOk (a0 : Int) (l1 : List S41) (l2 : List S68) (l3 l4 l5 is : List Int) : Prop := mayB a0 l1 l2 l3 l4 l5 = true ∧ (is.length : Int) = a0 + (l1.length : Int) + (l2.length : Int) + 1 ∧ rd is 0 = 0 ∧ is.all (fun x => decide (x ≤ 2)) = true
def u8s (l : List Int) : Bool := l.all fun x => decide (0 ≤ x) && decide (x < 256)
def wasW (a0 : Int) (l1 : List S41) (l2 : List S68) (is : List Int) : List Int × List S68 := runW (1 + a0 + (l1.length : Int)) l2 is is.length
def strash_With.f (a0_0 : Int) (l0_1 : List (S41)) (l0_2 : List (S68)) (l0_3 : List Int) (l0_4 : List Int) (l0_5 : List Int) (l1 : List Int) : Option (Int × (List (S41)) × (List (S68)) × List Int × List Int × List Int × List Int × Int) :=
  if okIn l0_1 l0_2 = true ∧ u32s l0_3 = true ∧ u32s l0_4 = true ∧ u32s l0_5 = true ∧ u8s l1 = true ∧ u8s (l0_1.map (·.f1)) = true then
    if withOk a0_0 l0_1 l0_2 l0_3 l0_4 l0_5 l1 then some (a0_0, l0_1.map (fun g => ⟨litP (wasW a0_0 l0_1 l0_2 l1).1 g.f0, g.f1⟩), (wasW a0_0 l0_1 l0_2 l1).2, l0_3.map (litP (wasW a0_0 l0_1 l0_2 l1).1), l0_4.map (litP (wasW a0_0 l0_1 l0_2 l1).1), l0_5.map (litP (wasW a0_0 l0_1 l0_2 l1).1), (wasW a0_0 l0_1 l0_2 l1).1, 0)
    else some (0, [], [], [], [], [], [], 2)
  else none
end Go.Proofs.Yteiiodlgdbiimaa.F
end
section
namespace Go.Proofs.Yteiiodlgdbiimaa.F
open Go.RowKit Go.Proofs.YteiiodlgdbiimaaW.PrintWords Go.Proofs.YteiiodlgdbiimaaW.PrintLast Go.Proofs.YteiiodlgdbiimaaW.PrintMore
attribute [local go_sem] max2_int min2_int max_two min_two max_three min_three max_four min_four
set_option linter.unusedVariables false
set_option linter.unusedSimpArgs false
def slices_Max_uint8_uint8.l0 : Nat → List Int → Int → Int → Option (Int)
  | 0, _, _, _ => none
  | k + 1, x0, x3, x4 => if x4 < (x0.length : Int) then (if 0 ≤ x4 then (slices_Max_uint8_uint8.l0 k x0 (mx x3 (rd x0 x4)) (wrap64 (x4 + 1))) else (none)) else (some x3)
def slices_Max_uint8_uint8.f (k : Nat) (l0 : List Int) : Option (Int) := if (l0.length : Int) < 1 then (none) else (if 0 < (l0.length : Int) then (slices_Max_uint8_uint8.l0 k l0 (rd l0 0) 1) else (none))
set_option maxHeartbeats 8000000 in
set_option maxRecDepth 100000 in
theorem slices_Max_uint8_uint8.calls (k : Nat) (A0 : Option Addr) (c0 : Nat) (l0 : List Int) (r : Int) (w : World) (hr0 : Kd.C (Kd.int .u8) w A0 l0.length l0) (hc0 : l0.length ≤ c0) (h : slices_Max_uint8_uint8.f k l0 = some r) :
    Calls Try.prog 102 #[.slice A0 l0.length c0] w fun e w' => e = .returned (.int .u8 r) ∧ Below w.heap.size w w' := by
  have HR0 := Aside0.mk hr0
  have HC0 := Aside0.mk hc0
  clear hr0 hc0
  have HB := Aside0.mk (Below.refl w.heap.size w)
  have H : (if (l0.length : Int) < 1 then (none) else (if 0 < (l0.length : Int) then (slices_Max_uint8_uint8.l0 k l0 (rd l0 0) 1) else (none))) = some r := h
  clear h
  by_cases c2 : (l0.length : Int) < 1
  · rw [if_pos c2] at H
    exact absurd H (by simp)
  · rw [if_neg c2] at H
    have c2b0 : decide ((l0.length : Int) < 1) = false := decide_eq_false c2
    have c2b1 : decide (l0.length < 1) = false := decide_eq_false (by omega)
    clear c2
    by_cases c3 : 0 < (l0.length : Int)
    · rw [if_pos c3] at H
      have c3b0 : decide (0 < (l0.length : Int)) = true := decide_eq_true c3
      have c3b1 : decide (0 < l0.length) = true := decide_eq_true (by omega)
      clear c3
      have H' := Aside0.mk H
      clear H
      have p305 : 0 ≤ (0 : Int) := (by omega)
      have q305 : 0 < (l0.length : Int) := of_decide_eq_true (by first | (with_reducible assumption) | assumption)
      obtain ⟨ad305, e305, hx305_0⟩ := Kd.at_int HR0.out 0 p305 q305
      cases e305
      have qi305 : (0 < l0.length) = True := eq_true (by omega)
      (try rw [show ((0 : Int)).toNat = 0 from rfl] at hx305_0)
      (try rw [Addr.add_zero'] at hx305_0)
      replace p305 := eq_true p305
      replace q305 := eq_true q305
      go_enter Try.func102, Try.ntmps102
      go_wp2
      go_loopg [3, 4] k (fun kq v3 v4 w' => ∃ (x3_1 : Int) (x4_1 : Int), v3 = .int .u8 x3_1 ∧ v4 = .int .i64 x4_1 ∧ Aside0 (slices_Max_uint8_uint8.l0 kq l0 x3_1 x4_1 = some r) ∧ Aside0 (kq ≤ k) ∧ Aside0 (Below w.heap.size w w'))
      case atStart => exact ⟨(rd l0 0), (1), (by first | rfl | (simp; done) | (simp [*]; done)), (by first | rfl | (simp; done) | (simp [*]; done)), H', ⟨Nat.le_refl _⟩, ⟨by repeat (first | (with_reducible first | exact HB.out | apply below_alloc | apply pw_below_drewN | apply below_drew1) | exact HB.out)⟩⟩
      case round =>
        clear H'
        try clear c1
        try clear c2
        try clear c2b0
        try clear c2b1
        try clear p2
        try clear c3
        try clear c3b0
        try clear c3b1
        try clear p3
        try clear q3
        try clear hx3
        try clear qi3
        try clear hx305_0
        try clear p305
        try clear q305
        obtain ⟨x3_1, x4_1, rfl, rfl, HA, HK1, HB⟩ := hrel
        cases gk with
        | zero => exact absurd HA.out (by simp [slices_Max_uint8_uint8.l0])
        | succ k1 =>
          have H := HA.out
          clear HA
          simp only [slices_Max_uint8_uint8.l0] at H
          by_cases c4 : x4_1 < (l0.length : Int)
          · rw [if_pos c4] at H
            have c4b0 : decide (x4_1 < (l0.length : Int)) = true := decide_eq_true c4
            clear c4
            by_cases c5 : 0 ≤ x4_1
            · rw [if_pos c5] at H
              have c5b0 : decide (0 ≤ x4_1) = true := decide_eq_true c5
              clear c5
              obtain ⟨ji6, hji6⟩ : ∃ j_ : Int, (mx x3_1 (rd l0 x4_1)) = j_ := ⟨_, rfl⟩
              replace H : (slices_Max_uint8_uint8.l0 k1 l0 ji6 (wrap64 (x4_1 + 1))) = some r := by first | (rw [hji6] at H; exact H) | (simp only [hji6] at H ⊢; exact H)
              have hji6_ : (if x3_1 < (rd l0 x4_1) then (rd l0 x4_1) else x3_1) = ji6 := hji6
              have H' := Aside0.mk H
              clear H
              have p306 : 0 ≤ (x4_1 : Int) := of_decide_eq_true (by first | (with_reducible assumption) | assumption)
              have q306 : x4_1 < (l0.length : Int) := of_decide_eq_true (by first | (with_reducible assumption) | assumption)
              obtain ⟨ad306, e306, hx306_0⟩ := Kd.at_int HR0.out x4_1 p306 q306
              obtain rfl : ad305 = ad306 := (by injection e306)
              replace hx306_0 := (HB.out.cell (World.block_lt_of_cell? w _ hx306_0)).trans hx306_0
              replace p306 := eq_true p306
              replace q306 := eq_true q306
              go_wp2
              go_roundg k1
              case measure => have := HK1.out; omega
              case rel => exact ⟨(ji6), (wrap64 (x4_1 + 1)), (by first | rfl | (simp; done) | (simp only [← hji6] <;> (first | rfl | simp)) | (simp [*]; done)), (by first | rfl | (simp; done) | (simp [*]; done)), H', ⟨by have := HK1.out; omega⟩, ⟨by repeat (first | (with_reducible first | exact HB.out | apply below_alloc | apply pw_below_drewN | apply below_drew1) | exact HB.out)⟩⟩
            · rw [if_neg c5] at H
              exact absurd H (by simp)
          · rw [if_neg c4] at H
            have c4b0 : decide (x4_1 < (l0.length : Int)) = false := decide_eq_false c4
            clear c4
            obtain rfl := Option.some.inj H
            go_wp2
            go_ret
            exact ⟨by first | rfl | (simp [errW_none, errW_some] <;> rfl) | (simp [*, errW_none, errW_some] <;> rfl), by repeat (first | (with_reducible first | exact HB.out | apply below_alloc | apply pw_below_drewN | apply below_drew1) | exact HB.out)⟩
    · rw [if_neg c3] at H
      exact absurd H (by simp)
end Go.Proofs.Yteiiodlgdbiimaa.F
end
