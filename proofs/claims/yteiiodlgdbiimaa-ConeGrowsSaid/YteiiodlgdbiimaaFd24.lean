/- The Lean function of function 24, out of the printed text. -/
-- OUT OF what was printed by print.py (a twelfth state) out of the translation. Not trusted: Lean checks it.
import Derived.Test.YteiiodlgdbiimaaF0
import Derived.Test.YteiiodlgdbiimaaFn25
import Derived.Test.YteiiodlgdbiimaaFn28
import Derived.Test.YteiiodlgdbiimaaFn29
import Derived.Test.YteiiodlgdbiimaaXFrames
namespace Go.Proofs.Yteiiodlgdbiimaa.F
open Go.RowKit Go.Proofs.YteiiodlgdbiimaaW.PrintWords Go.Proofs.YteiiodlgdbiimaaW.PrintLast Go.Proofs.YteiiodlgdbiimaaW.PrintMore
attribute [local go_sem] max2_int min2_int max_two min_two max_three min_three max_four min_four   -- for this text's walks alone
set_option linter.unusedVariables false
set_option linter.unusedSimpArgs false

/-! ### inquestlaw09_lives: function 24 -/
def inquestlaw09_lives.f (k : Nat)  : Option (Bool) := (some (([(⟨8, 0⟩ : S41)] : List (S41)) : List (S41))).bind fun y120 => ((some (([(⟨6, 2⟩ : S68)] : List (S68)) : List (S68))).bind fun y123 => ((some (([6] : List Int) : List Int)).bind fun y126 => ((cone_Of.f 2 y120 y123 ([] : List Int) y126 ([] : List Int) (([6] : List Int))).bind fun bt133 => ((cone_Ever.f 2 y120 y123 ([] : List Int) y126 ([] : List Int) (([6] : List Int))).bind fun bt140 => ((cone_Frames.f 2 y120 y123 ([] : List Int) y126 ([] : List Int) 0 2).bind fun bt144 => ((some (([false, false, false, true, false] : List Bool) : List Bool)).bind fun y148 => ((some (([false, true, false, true, true] : List Bool) : List Bool)).bind fun y151 => (if bt133.2 = 0 then ((inquestref00_Bools.f k bt133.1 y148).bind fun t154 => (if t154 = true then (if bt140.2 = 0 then ((inquestref00_Bools.f k bt140.1 y151).bind fun t155 => (if t155 = true then (if bt144.2 = 0 then (if (bt144.1.length : Int) = 2 then (if 0 < (bt144.1.length : Int) then ((inquestref00_Bools.f k (rd_L16 bt144.1 0) y151).bind fun t157 => (if t157 = true then (if 1 < (bt144.1.length : Int) then ((inquestref00_Bools.f k (rd_L16 bt144.1 1) y148).bind fun t159 => (some t159)) else (none)) else (some false))) else (none)) else (some false)) else (some false)) else (some false))) else (some false)) else (some false))) else (some false)))))))))
theorem inquestlaw09_lives.mono : ∀ k, LeO (inquestlaw09_lives.f k ) (inquestlaw09_lives.f (k + 1) ) := by
  intro  k
  unfold inquestlaw09_lives.f
  repeat' first
      | (with_reducible exact inquestref00_Bools.mono _ _ _)
      | (with_reducible exact LeO.refl _)
      | (with_reducible exact LeO.none _)
      | (with_reducible refine LeO.ite ?_ ?_)
      | (with_reducible refine LeO.bind ?_ (fun _ => ?_))
      | exact inquestref00_Bools.mono _ _ _
      | exact LeO.none _
      | refine LeO.ite ?_ ?_
      | refine LeO.bind ?_ (fun _ => ?_)
end Go.Proofs.Yteiiodlgdbiimaa.F
