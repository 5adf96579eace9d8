/- The program may be entered: told word by word, so that no long text is taken apart. -/
import Derived.Test.YteiiodlgdbiimaaRows
import Derived.WalkKit
import Derived.ProofKit
import Derived.ChangeOld
import Derived.SizedLaws
namespace Go.Proofs.Yteiiodlgdbiimaa
theorem strip_cut (r : List (List Char)) : stripLifts liftWords ("cut".toList :: r) = ([], "cut".toList :: r) := by kernel_rfl
theorem may_enter_of (P : Program) (p q : String) (h : P.initOrder = p ++ q) (hs : ∀ r, behindMainWord (wordsSigns (p.toList ++ r)) = "cut".toList :: wordsSigns r) (hl : P.laysLater = false) (hb : P.bearsReflect = false) (hd : P.doorFits [] = true) : P.mayEnter = true := by
  unfold Program.mayEnter
  rw [h, String.toList_append, hs]
  have hs2 := strip_cut (wordsSigns q.toList)
  dsimp only
  generalize stripLifts liftWords ("cut".toList :: wordsSigns q.toList) = sl at hs2 ⊢
  subst hs2
  simp [hl, hb, hd]
theorem make_of (P : Program) (p q : String) (h : P.initOrder = p ++ q) (hs : ∀ r, behindMainWord (wordsSigns (p.toList ++ r)) = "cut".toList :: wordsSigns r) : P.make = some .cut := by
  unfold Program.make
  rw [h, String.toList_append, hs]
  rfl
theorem lifts_of (P : Program) (p q : String) (h : P.initOrder = p ++ q) (hs : ∀ r, behindMainWord (wordsSigns (p.toList ++ r)) = "cut".toList :: wordsSigns r) : P.liftsFinal = false := by
  have hw : behindMainWord (wordsSigns P.initOrder.toList) = "cut".toList :: wordsSigns q.toList := by rw [h, String.toList_append, hs]
  have hs2 := strip_cut (wordsSigns q.toList)
  unfold Program.liftsFinal Program.headLifts
  rw [hw]
  dsimp only
  generalize stripLifts liftWords ("cut".toList :: wordsSigns q.toList) = sl at hs2 ⊢
  subst hs2
  simp
theorem order_eq : Try.pinned.checked.prog.initOrder = "harness 8bc95be9aef776efc07c83d12f0bd9a4e60c13404288aaedbc3ff7bc00220b1d cut " ++ "at inquest/inquestlaw09.ConeGrows inquest/inquestlaw25.ExtractKeeps inquest/inquestlaw24.StrashTells inquest/inquestlaw24.StrashRuns inquest/inquestlaw24.StrashSmall inquest/inquestlaw26.StuckFolds inquest/inquestlaw24.StrashWith inquest/inquestlaw24.StrashLits inquest/inquestlaw09.ConeTells inquest/inquestlaw09.ConeCounts inquest/inquestlaw23.WatchTells inquest/inquestlaw23.WatchLong inquest/inquestlaw23.WatchSure inquest/inquestlaw25.ExtractTells inquest/inquestlaw25.ExtractFails inquest/inquestlaw25.ExtractParts inquest/inquestlaw26.StuckEver inquest/inquestlaw26.StuckAgain inquest/inquestlaw23.WatchExtends inquest/inquestlaw26.StuckTells" := by kernel_rfl
theorem signs_eq (r : List Char) : behindMainWord (wordsSigns (("harness 8bc95be9aef776efc07c83d12f0bd9a4e60c13404288aaedbc3ff7bc00220b1d cut " : String).toList ++ r)) = "cut".toList :: wordsSigns r := by kernel_rfl
theorem lays_no : Try.pinned.checked.prog.laysLater = false := by kernel_rfl
theorem bears_no : Try.pinned.checked.prog.bearsReflect = false := by kernel_rfl
theorem door_yes : Try.pinned.checked.prog.doorFits [] = true := by kernel_rfl
theorem may_enter : Try.pinned.checked.prog.mayEnter = true := may_enter_of _ _ _ order_eq signs_eq lays_no bears_no door_yes
theorem make_is : Try.pinned.checked.prog.make = some .cut := make_of _ _ _ order_eq signs_eq
theorem lifts_no : Try.pinned.checked.prog.liftsFinal = false := lifts_of _ _ _ order_eq signs_eq
end Go.Proofs.Yteiiodlgdbiimaa
