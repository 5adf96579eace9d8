/- The Lean function of function 3, out of the printed text. -/
-- OUT OF what was printed by print.py (a twelfth state) out of the translation. Not trusted: Lean checks it.
import Derived.Test.YteiiodlgdbiimaaF0
import Derived.Test.YteiiodlgdbiimaaFn23
import Derived.Test.YteiiodlgdbiimaaFn25
import Derived.Test.YteiiodlgdbiimaaFn28
import Derived.Test.YteiiodlgdbiimaaFn29
import Derived.Test.YteiiodlgdbiimaaFd24
import Derived.Test.YteiiodlgdbiimaaFn26
import Derived.Test.YteiiodlgdbiimaaFn27
import Derived.Test.YteiiodlgdbiimaaXFrames
namespace Go.Proofs.Yteiiodlgdbiimaa.F
open Go.RowKit Go.Proofs.YteiiodlgdbiimaaW.PrintWords Go.Proofs.YteiiodlgdbiimaaW.PrintLast Go.Proofs.YteiiodlgdbiimaaW.PrintMore
attribute [local go_sem] max2_int min2_int max_two min_two max_three min_three max_four min_four   -- for this text's walks alone
set_option linter.unusedVariables false
set_option linter.unusedSimpArgs false

/-! ### inquestlaw09_ConeGrows: function 3 -/
mutual
def inquestlaw09_ConeGrows.j0 : Nat → List Int → List Int → Int → Int → Bool → Int → List (S41) → List (S68) → List Int → List Int → List Int → Option (Bool)
  | 0, _, _, _, _, _, _, _, _, _, _, _ => none
  | k + 1, x1, x2, x3, x4, x39, x172000, x172001, x172002, x172003, x172004, x172005 => if x39 = true then ((inquestlaw09_lives.f k).bind fun t173 => (some t173)) else ((cone_Ever.f x172000 x172001 x172002 x172003 x172004 x172005 x1).bind fun bt174 => (if bt174.2 = 0 then ((inquestref03_May.f k x172000 x172001 x172002 x172003 x172004 x172005).bind fun t179 => (if t179 = true then ((inquestref03_Vars.f k x172000 x172001 x172002 x172003 x172004 x172005).bind fun t180 => (inquestlaw09_ConeGrows.j1 k x1 x2 x3 x4 bt174.1 ((bt174.1.length : Int) != (wrap64 (t180 + 1))) x172000 x172001 x172002 x172003 x172004 x172005)) else (inquestlaw09_ConeGrows.j1 k x1 x2 x3 x4 bt174.1 true x172000 x172001 x172002 x172003 x172004 x172005))) else (if (bt174.1.length : Int) = 0 then ((inquestlaw09_lives.f k).bind fun t178 => (some t178)) else (some false))))
def inquestlaw09_ConeGrows.j1 : Nat → List Int → List Int → Int → Int → List Bool → Bool → Int → List (S41) → List (S68) → List Int → List Int → List Int → Option (Bool)
  | 0, _, _, _, _, _, _, _, _, _, _, _, _ => none
  | k + 1, x1, x2, x3, x4, x11, x65, x172000, x172001, x172002, x172003, x172004, x172005 => if x65 = true then (some false) else (if ([] : List Int).length + x1.length < 35184372088832 then (inquestlaw09_ConeGrows.l0 k x2 x3 x4 x11 (([] : List Int) ++ x1) (x172001.length : Int) 0 x172000 x172001 x172002 x172003 x172004 x172005) else (none))
def inquestlaw09_ConeGrows.l0 : Nat → List Int → Int → Int → List Bool → List Int → Int → Int → Int → List (S41) → List (S68) → List Int → List Int → List Int → Option (Bool)
  | 0, _, _, _, _, _, _, _, _, _, _, _, _, _ => none
  | k + 1, x2, x3, x4, x11, x13, x71, x72, x172000, x172001, x172002, x172003, x172004, x172005 => if x72 < x71 then (if 0 ≤ (wrap64 ((wrap64 (1 + x172000)) + x72)) then (if (wrap64 ((wrap64 (1 + x172000)) + x72)) < (x11.length : Int) then (if rdOf false x11 (wrap64 ((wrap64 (1 + x172000)) + x72)) = true then (if 0 ≤ x72 then (if x72 < (x172001.length : Int) then (if x13.length < 35184372088832 then (inquestlaw09_ConeGrows.l0 k x2 x3 x4 x11 (x13 ++ [(rd_T41 x172001 x72).f0]) x71 (wrap64 (x72 + 1)) x172000 x172001 x172002 x172003 x172004 x172005) else (none)) else (none)) else (none)) else (inquestlaw09_ConeGrows.l0 k x2 x3 x4 x11 x13 x71 (wrap64 (x72 + 1)) x172000 x172001 x172002 x172003 x172004 x172005)) else (none)) else (none)) else ((cone_Of.f x172000 x172001 x172002 x172003 x172004 x172005 x13).bind fun bt189 => (if x13.length + x2.length < 35184372088832 then ((cone_Ever.f x172000 x172001 x172002 x172003 x172004 x172005 (x13 ++ x2)).bind fun bt196 => (if bt189.2 = 0 then ((inquestref00_Bools.f k bt189.1 x11).bind fun t200 => (inquestlaw09_ConeGrows.j3 k x3 x4 x11 bt196.1 bt196.2 (!t200) x172000 x172001 x172002 x172003 x172004 x172005)) else (inquestlaw09_ConeGrows.j3 k x3 x4 x11 bt196.1 bt196.2 true x172000 x172001 x172002 x172003 x172004 x172005))) else (none)))
def inquestlaw09_ConeGrows.j3 : Nat → Int → Int → List Bool → List Bool → Int → Bool → Int → List (S41) → List (S68) → List Int → List Int → List Int → Option (Bool)
  | 0, _, _, _, _, _, _, _, _, _, _, _, _ => none
  | k + 1, x3, x4, x11, x17, x18, x114, x172000, x172001, x172002, x172003, x172004, x172005 => if x114 = true then (some false) else (inquestlaw09_ConeGrows.l1 k x3 x4 x11 x17 x18 (x11.length : Int) 0 x172000 x172001 x172002 x172003 x172004 x172005)
def inquestlaw09_ConeGrows.l1 : Nat → Int → Int → List Bool → List Bool → Int → Int → Int → Int → List (S41) → List (S68) → List Int → List Int → List Int → Option (Bool)
  | 0, _, _, _, _, _, _, _, _, _, _, _, _, _ => none
  | k + 1, x3, x4, x11, x17, x18, x116, x117, x172000, x172001, x172002, x172003, x172004, x172005 => if x117 < x116 then (if x18 = 0 then (if x117 ≥ (x17.length : Int) then (some false) else (if 0 ≤ x117 then (if x117 < (x11.length : Int) then (if rdOf false x11 x117 = true then (if x117 < (x17.length : Int) then (if rdOf false x17 x117 = true then (inquestlaw09_ConeGrows.l1 k x3 x4 x11 x17 x18 x116 (wrap64 (x117 + 1)) x172000 x172001 x172002 x172003 x172004 x172005) else (some false)) else (none)) else (inquestlaw09_ConeGrows.l1 k x3 x4 x11 x17 x18 x116 (wrap64 (x117 + 1)) x172000 x172001 x172002 x172003 x172004 x172005)) else (none)) else (none))) else (inquestlaw09_ConeGrows.l1 k x3 x4 x11 x17 x18 x116 (wrap64 (x117 + 1)) x172000 x172001 x172002 x172003 x172004 x172005)) else ((cone_Frames.f x172000 x172001 x172002 x172003 x172004 x172005 x3 x4).bind fun bt203 => (if bt203.2 = 0 then (if ([] : List Int).length + x172005.length < 35184372088832 then ((some (([] : List Int) ++ x172005 : List Int)).bind fun y208 => (if 0 ≤ x3 then (if x3 < (x172004.length : Int) then (if y208.length < 35184372088832 then ((cone_Ever.f x172000 x172001 x172002 x172003 x172004 x172005 (y208 ++ [rd x172004 x3])).bind fun bt215 => (if bt215.2 = 0 then (inquestlaw09_ConeGrows.j5 k bt203.1 bt215.1 ((bt203.1.length : Int) != x4)) else (inquestlaw09_ConeGrows.j5 k bt203.1 bt215.1 true))) else (none)) else (none)) else (none))) else (none)) else ((inquestlaw09_lives.f k).bind fun t207 => (some t207))))
def inquestlaw09_ConeGrows.j5 : Nat → List (List Bool) → List Bool → Bool → Option (Bool)
  | 0, _, _, _ => none
  | k + 1, x20, x23, x176 => if x176 = true then (some false) else (inquestlaw09_ConeGrows.l2 k x20 x23 (x20.length : Int) 0)
def inquestlaw09_ConeGrows.l2 : Nat → List (List Bool) → List Bool → Int → Int → Option (Bool)
  | 0, _, _, _, _ => none
  | k + 1, x20, x23, x178, x179 => if x179 < x178 then (if 0 ≤ x179 then (if x179 < (x20.length : Int) then (inquestlaw09_ConeGrows.l3 k x20 x23 x179 x178 x179 ((rd_L16 x20 x179).length : Int) 0) else (none)) else (none)) else ((inquestlaw09_lives.f k).bind fun t219 => (some t219))
def inquestlaw09_ConeGrows.l3 : Nat → List (List Bool) → List Bool → Int → Int → Int → Int → Int → Option (Bool)
  | 0, _, _, _, _, _, _, _ => none
  | k + 1, x20, x23, x25, x178, x179, x186, x187 => if x187 < x186 then (if x187 ≥ (x23.length : Int) then (some false) else (if 0 ≤ x25 then (if x25 < (x20.length : Int) then (if 0 ≤ x187 then (if x187 < ((rd_L16 x20 x25).length : Int) then (if rdOf false (rd_L16 x20 x25) x187 = true then (if x187 < (x23.length : Int) then (if rdOf false x23 x187 = true then (inquestlaw09_ConeGrows.l3 k x20 x23 x25 x178 x179 x186 (wrap64 (x187 + 1))) else (some false)) else (none)) else (inquestlaw09_ConeGrows.l3 k x20 x23 x25 x178 x179 x186 (wrap64 (x187 + 1)))) else (none)) else (none)) else (none)) else (none))) else (inquestlaw09_ConeGrows.l2 k x20 x23 x178 (wrap64 (x179 + 1)))
end
def inquestlaw09_ConeGrows.f (k : Nat) (a0_0 : Int) (l0_1 : List (S41)) (l0_2 : List (S68)) (l0_3 : List Int) (l0_4 : List Int) (l0_5 : List Int) (l1 : List Int) (l2 : List Int) (a3 : Int) (a4 : Int) : Option (Bool) := (inquestlaw09_great.f a0_0 l0_1 l0_2 l0_3 l0_4 l0_5 0 ([] : List Int) ([] : List (List Int))).bind fun t172 => (if t172 = true then (inquestlaw09_ConeGrows.j0 k l1 l2 a3 a4 true a0_0 l0_1 l0_2 l0_3 l0_4 l0_5) else (if (l1.length : Int) > 300 then (inquestlaw09_ConeGrows.j0 k l1 l2 a3 a4 true a0_0 l0_1 l0_2 l0_3 l0_4 l0_5) else (inquestlaw09_ConeGrows.j0 k l1 l2 a3 a4 (decide ((l2.length : Int) > 300)) a0_0 l0_1 l0_2 l0_3 l0_4 l0_5)))
theorem inquestlaw09_ConeGrows.mono_l : ∀ k, (∀ y0 y1 y2 y3 y4 y5 y6 y7 y8 y9 y10, LeO (inquestlaw09_ConeGrows.j0 k y0 y1 y2 y3 y4 y5 y6 y7 y8 y9 y10) (inquestlaw09_ConeGrows.j0 (k + 1) y0 y1 y2 y3 y4 y5 y6 y7 y8 y9 y10)) ∧ (∀ y0 y1 y2 y3 y4 y5 y6 y7 y8 y9 y10 y11, LeO (inquestlaw09_ConeGrows.j1 k y0 y1 y2 y3 y4 y5 y6 y7 y8 y9 y10 y11) (inquestlaw09_ConeGrows.j1 (k + 1) y0 y1 y2 y3 y4 y5 y6 y7 y8 y9 y10 y11)) ∧ (∀ y0 y1 y2 y3 y4 y5 y6 y7 y8 y9 y10 y11 y12, LeO (inquestlaw09_ConeGrows.l0 k y0 y1 y2 y3 y4 y5 y6 y7 y8 y9 y10 y11 y12) (inquestlaw09_ConeGrows.l0 (k + 1) y0 y1 y2 y3 y4 y5 y6 y7 y8 y9 y10 y11 y12)) ∧ (∀ y0 y1 y2 y3 y4 y5 y6 y7 y8 y9 y10 y11, LeO (inquestlaw09_ConeGrows.j3 k y0 y1 y2 y3 y4 y5 y6 y7 y8 y9 y10 y11) (inquestlaw09_ConeGrows.j3 (k + 1) y0 y1 y2 y3 y4 y5 y6 y7 y8 y9 y10 y11)) ∧ (∀ y0 y1 y2 y3 y4 y5 y6 y7 y8 y9 y10 y11 y12, LeO (inquestlaw09_ConeGrows.l1 k y0 y1 y2 y3 y4 y5 y6 y7 y8 y9 y10 y11 y12) (inquestlaw09_ConeGrows.l1 (k + 1) y0 y1 y2 y3 y4 y5 y6 y7 y8 y9 y10 y11 y12)) ∧ (∀ y0 y1 y2, LeO (inquestlaw09_ConeGrows.j5 k y0 y1 y2) (inquestlaw09_ConeGrows.j5 (k + 1) y0 y1 y2)) ∧ (∀ y0 y1 y2 y3, LeO (inquestlaw09_ConeGrows.l2 k y0 y1 y2 y3) (inquestlaw09_ConeGrows.l2 (k + 1) y0 y1 y2 y3)) ∧ (∀ y0 y1 y2 y3 y4 y5 y6, LeO (inquestlaw09_ConeGrows.l3 k y0 y1 y2 y3 y4 y5 y6) (inquestlaw09_ConeGrows.l3 (k + 1) y0 y1 y2 y3 y4 y5 y6))
  | 0 => ⟨fun _ _ _ _ _ _ _ _ _ _ _ r h => by simp [inquestlaw09_ConeGrows.j0] at h, fun _ _ _ _ _ _ _ _ _ _ _ _ r h => by simp [inquestlaw09_ConeGrows.j1] at h, fun _ _ _ _ _ _ _ _ _ _ _ _ _ r h => by simp [inquestlaw09_ConeGrows.l0] at h, fun _ _ _ _ _ _ _ _ _ _ _ _ r h => by simp [inquestlaw09_ConeGrows.j3] at h, fun _ _ _ _ _ _ _ _ _ _ _ _ _ r h => by simp [inquestlaw09_ConeGrows.l1] at h, fun _ _ _ r h => by simp [inquestlaw09_ConeGrows.j5] at h, fun _ _ _ _ r h => by simp [inquestlaw09_ConeGrows.l2] at h, fun _ _ _ _ _ _ _ r h => by simp [inquestlaw09_ConeGrows.l3] at h⟩
  | k + 1 => by
    obtain ⟨ih0, ih1, ih2, ih3, ih4, ih5, ih6, ih7⟩ := inquestlaw09_ConeGrows.mono_l k
    refine ⟨?_, ?_, ?_, ?_, ?_, ?_, ?_, ?_⟩
    · intro y0 y1 y2 y3 y4 y5 y6 y7 y8 y9 y10
      unfold inquestlaw09_ConeGrows.j0
      repeat' first
      | (with_reducible exact ih0 _ _ _ _ _ _ _ _ _ _ _)
      | (with_reducible exact ih1 _ _ _ _ _ _ _ _ _ _ _ _)
      | (with_reducible exact ih2 _ _ _ _ _ _ _ _ _ _ _ _ _)
      | (with_reducible exact ih3 _ _ _ _ _ _ _ _ _ _ _ _)
      | (with_reducible exact ih4 _ _ _ _ _ _ _ _ _ _ _ _ _)
      | (with_reducible exact ih5 _ _ _)
      | (with_reducible exact ih6 _ _ _ _)
      | (with_reducible exact ih7 _ _ _ _ _ _ _)
      | (with_reducible exact inquestlaw09_lives.mono _)
      | (with_reducible exact inquestref00_Bools.mono _ _ _)
      | (with_reducible exact inquestref03_May.mono _ _ _ _ _ _ _)
      | (with_reducible exact inquestref03_Vars.mono _ _ _ _ _ _ _)
      | (with_reducible exact LeO.refl _)
      | (with_reducible exact LeO.none _)
      | (with_reducible refine LeO.ite ?_ ?_)
      | (with_reducible refine LeO.bind ?_ (fun _ => ?_))
      | exact ih0 _ _ _ _ _ _ _ _ _ _ _
      | exact ih1 _ _ _ _ _ _ _ _ _ _ _ _
      | exact ih2 _ _ _ _ _ _ _ _ _ _ _ _ _
      | exact ih3 _ _ _ _ _ _ _ _ _ _ _ _
      | exact ih4 _ _ _ _ _ _ _ _ _ _ _ _ _
      | exact ih5 _ _ _
      | exact ih6 _ _ _ _
      | exact ih7 _ _ _ _ _ _ _
      | exact inquestlaw09_lives.mono _
      | exact inquestref00_Bools.mono _ _ _
      | exact inquestref03_May.mono _ _ _ _ _ _ _
      | exact inquestref03_Vars.mono _ _ _ _ _ _ _
      | exact LeO.none _
      | refine LeO.ite ?_ ?_
      | refine LeO.bind ?_ (fun _ => ?_)
    · intro y0 y1 y2 y3 y4 y5 y6 y7 y8 y9 y10 y11
      unfold inquestlaw09_ConeGrows.j1
      repeat' first
      | (with_reducible exact ih0 _ _ _ _ _ _ _ _ _ _ _)
      | (with_reducible exact ih1 _ _ _ _ _ _ _ _ _ _ _ _)
      | (with_reducible exact ih2 _ _ _ _ _ _ _ _ _ _ _ _ _)
      | (with_reducible exact ih3 _ _ _ _ _ _ _ _ _ _ _ _)
      | (with_reducible exact ih4 _ _ _ _ _ _ _ _ _ _ _ _ _)
      | (with_reducible exact ih5 _ _ _)
      | (with_reducible exact ih6 _ _ _ _)
      | (with_reducible exact ih7 _ _ _ _ _ _ _)
      | (with_reducible exact inquestlaw09_lives.mono _)
      | (with_reducible exact inquestref00_Bools.mono _ _ _)
      | (with_reducible exact inquestref03_May.mono _ _ _ _ _ _ _)
      | (with_reducible exact inquestref03_Vars.mono _ _ _ _ _ _ _)
      | (with_reducible exact LeO.refl _)
      | (with_reducible exact LeO.none _)
      | (with_reducible refine LeO.ite ?_ ?_)
      | (with_reducible refine LeO.bind ?_ (fun _ => ?_))
      | exact ih0 _ _ _ _ _ _ _ _ _ _ _
      | exact ih1 _ _ _ _ _ _ _ _ _ _ _ _
      | exact ih2 _ _ _ _ _ _ _ _ _ _ _ _ _
      | exact ih3 _ _ _ _ _ _ _ _ _ _ _ _
      | exact ih4 _ _ _ _ _ _ _ _ _ _ _ _ _
      | exact ih5 _ _ _
      | exact ih6 _ _ _ _
      | exact ih7 _ _ _ _ _ _ _
      | exact inquestlaw09_lives.mono _
      | exact inquestref00_Bools.mono _ _ _
      | exact inquestref03_May.mono _ _ _ _ _ _ _
      | exact inquestref03_Vars.mono _ _ _ _ _ _ _
      | exact LeO.none _
      | refine LeO.ite ?_ ?_
      | refine LeO.bind ?_ (fun _ => ?_)
    · intro y0 y1 y2 y3 y4 y5 y6 y7 y8 y9 y10 y11 y12
      unfold inquestlaw09_ConeGrows.l0
      repeat' first
      | (with_reducible exact ih0 _ _ _ _ _ _ _ _ _ _ _)
      | (with_reducible exact ih1 _ _ _ _ _ _ _ _ _ _ _ _)
      | (with_reducible exact ih2 _ _ _ _ _ _ _ _ _ _ _ _ _)
      | (with_reducible exact ih3 _ _ _ _ _ _ _ _ _ _ _ _)
      | (with_reducible exact ih4 _ _ _ _ _ _ _ _ _ _ _ _ _)
      | (with_reducible exact ih5 _ _ _)
      | (with_reducible exact ih6 _ _ _ _)
      | (with_reducible exact ih7 _ _ _ _ _ _ _)
      | (with_reducible exact inquestlaw09_lives.mono _)
      | (with_reducible exact inquestref00_Bools.mono _ _ _)
      | (with_reducible exact inquestref03_May.mono _ _ _ _ _ _ _)
      | (with_reducible exact inquestref03_Vars.mono _ _ _ _ _ _ _)
      | (with_reducible exact LeO.refl _)
      | (with_reducible exact LeO.none _)
      | (with_reducible refine LeO.ite ?_ ?_)
      | (with_reducible refine LeO.bind ?_ (fun _ => ?_))
      | exact ih0 _ _ _ _ _ _ _ _ _ _ _
      | exact ih1 _ _ _ _ _ _ _ _ _ _ _ _
      | exact ih2 _ _ _ _ _ _ _ _ _ _ _ _ _
      | exact ih3 _ _ _ _ _ _ _ _ _ _ _ _
      | exact ih4 _ _ _ _ _ _ _ _ _ _ _ _ _
      | exact ih5 _ _ _
      | exact ih6 _ _ _ _
      | exact ih7 _ _ _ _ _ _ _
      | exact inquestlaw09_lives.mono _
      | exact inquestref00_Bools.mono _ _ _
      | exact inquestref03_May.mono _ _ _ _ _ _ _
      | exact inquestref03_Vars.mono _ _ _ _ _ _ _
      | exact LeO.none _
      | refine LeO.ite ?_ ?_
      | refine LeO.bind ?_ (fun _ => ?_)
    · intro y0 y1 y2 y3 y4 y5 y6 y7 y8 y9 y10 y11
      unfold inquestlaw09_ConeGrows.j3
      repeat' first
      | (with_reducible exact ih0 _ _ _ _ _ _ _ _ _ _ _)
      | (with_reducible exact ih1 _ _ _ _ _ _ _ _ _ _ _ _)
      | (with_reducible exact ih2 _ _ _ _ _ _ _ _ _ _ _ _ _)
      | (with_reducible exact ih3 _ _ _ _ _ _ _ _ _ _ _ _)
      | (with_reducible exact ih4 _ _ _ _ _ _ _ _ _ _ _ _ _)
      | (with_reducible exact ih5 _ _ _)
      | (with_reducible exact ih6 _ _ _ _)
      | (with_reducible exact ih7 _ _ _ _ _ _ _)
      | (with_reducible exact inquestlaw09_lives.mono _)
      | (with_reducible exact inquestref00_Bools.mono _ _ _)
      | (with_reducible exact inquestref03_May.mono _ _ _ _ _ _ _)
      | (with_reducible exact inquestref03_Vars.mono _ _ _ _ _ _ _)
      | (with_reducible exact LeO.refl _)
      | (with_reducible exact LeO.none _)
      | (with_reducible refine LeO.ite ?_ ?_)
      | (with_reducible refine LeO.bind ?_ (fun _ => ?_))
      | exact ih0 _ _ _ _ _ _ _ _ _ _ _
      | exact ih1 _ _ _ _ _ _ _ _ _ _ _ _
      | exact ih2 _ _ _ _ _ _ _ _ _ _ _ _ _
      | exact ih3 _ _ _ _ _ _ _ _ _ _ _ _
      | exact ih4 _ _ _ _ _ _ _ _ _ _ _ _ _
      | exact ih5 _ _ _
      | exact ih6 _ _ _ _
      | exact ih7 _ _ _ _ _ _ _
      | exact inquestlaw09_lives.mono _
      | exact inquestref00_Bools.mono _ _ _
      | exact inquestref03_May.mono _ _ _ _ _ _ _
      | exact inquestref03_Vars.mono _ _ _ _ _ _ _
      | exact LeO.none _
      | refine LeO.ite ?_ ?_
      | refine LeO.bind ?_ (fun _ => ?_)
    · intro y0 y1 y2 y3 y4 y5 y6 y7 y8 y9 y10 y11 y12
      unfold inquestlaw09_ConeGrows.l1
      repeat' first
      | (with_reducible exact ih0 _ _ _ _ _ _ _ _ _ _ _)
      | (with_reducible exact ih1 _ _ _ _ _ _ _ _ _ _ _ _)
      | (with_reducible exact ih2 _ _ _ _ _ _ _ _ _ _ _ _ _)
      | (with_reducible exact ih3 _ _ _ _ _ _ _ _ _ _ _ _)
      | (with_reducible exact ih4 _ _ _ _ _ _ _ _ _ _ _ _ _)
      | (with_reducible exact ih5 _ _ _)
      | (with_reducible exact ih6 _ _ _ _)
      | (with_reducible exact ih7 _ _ _ _ _ _ _)
      | (with_reducible exact inquestlaw09_lives.mono _)
      | (with_reducible exact inquestref00_Bools.mono _ _ _)
      | (with_reducible exact inquestref03_May.mono _ _ _ _ _ _ _)
      | (with_reducible exact inquestref03_Vars.mono _ _ _ _ _ _ _)
      | (with_reducible exact LeO.refl _)
      | (with_reducible exact LeO.none _)
      | (with_reducible refine LeO.ite ?_ ?_)
      | (with_reducible refine LeO.bind ?_ (fun _ => ?_))
      | exact ih0 _ _ _ _ _ _ _ _ _ _ _
      | exact ih1 _ _ _ _ _ _ _ _ _ _ _ _
      | exact ih2 _ _ _ _ _ _ _ _ _ _ _ _ _
      | exact ih3 _ _ _ _ _ _ _ _ _ _ _ _
      | exact ih4 _ _ _ _ _ _ _ _ _ _ _ _ _
      | exact ih5 _ _ _
      | exact ih6 _ _ _ _
      | exact ih7 _ _ _ _ _ _ _
      | exact inquestlaw09_lives.mono _
      | exact inquestref00_Bools.mono _ _ _
      | exact inquestref03_May.mono _ _ _ _ _ _ _
      | exact inquestref03_Vars.mono _ _ _ _ _ _ _
      | exact LeO.none _
      | refine LeO.ite ?_ ?_
      | refine LeO.bind ?_ (fun _ => ?_)
    · intro y0 y1 y2
      unfold inquestlaw09_ConeGrows.j5
      repeat' first
      | (with_reducible exact ih0 _ _ _ _ _ _ _ _ _ _ _)
      | (with_reducible exact ih1 _ _ _ _ _ _ _ _ _ _ _ _)
      | (with_reducible exact ih2 _ _ _ _ _ _ _ _ _ _ _ _ _)
      | (with_reducible exact ih3 _ _ _ _ _ _ _ _ _ _ _ _)
      | (with_reducible exact ih4 _ _ _ _ _ _ _ _ _ _ _ _ _)
      | (with_reducible exact ih5 _ _ _)
      | (with_reducible exact ih6 _ _ _ _)
      | (with_reducible exact ih7 _ _ _ _ _ _ _)
      | (with_reducible exact inquestlaw09_lives.mono _)
      | (with_reducible exact inquestref00_Bools.mono _ _ _)
      | (with_reducible exact inquestref03_May.mono _ _ _ _ _ _ _)
      | (with_reducible exact inquestref03_Vars.mono _ _ _ _ _ _ _)
      | (with_reducible exact LeO.refl _)
      | (with_reducible exact LeO.none _)
      | (with_reducible refine LeO.ite ?_ ?_)
      | (with_reducible refine LeO.bind ?_ (fun _ => ?_))
      | exact ih0 _ _ _ _ _ _ _ _ _ _ _
      | exact ih1 _ _ _ _ _ _ _ _ _ _ _ _
      | exact ih2 _ _ _ _ _ _ _ _ _ _ _ _ _
      | exact ih3 _ _ _ _ _ _ _ _ _ _ _ _
      | exact ih4 _ _ _ _ _ _ _ _ _ _ _ _ _
      | exact ih5 _ _ _
      | exact ih6 _ _ _ _
      | exact ih7 _ _ _ _ _ _ _
      | exact inquestlaw09_lives.mono _
      | exact inquestref00_Bools.mono _ _ _
      | exact inquestref03_May.mono _ _ _ _ _ _ _
      | exact inquestref03_Vars.mono _ _ _ _ _ _ _
      | exact LeO.none _
      | refine LeO.ite ?_ ?_
      | refine LeO.bind ?_ (fun _ => ?_)
    · intro y0 y1 y2 y3
      unfold inquestlaw09_ConeGrows.l2
      repeat' first
      | (with_reducible exact ih0 _ _ _ _ _ _ _ _ _ _ _)
      | (with_reducible exact ih1 _ _ _ _ _ _ _ _ _ _ _ _)
      | (with_reducible exact ih2 _ _ _ _ _ _ _ _ _ _ _ _ _)
      | (with_reducible exact ih3 _ _ _ _ _ _ _ _ _ _ _ _)
      | (with_reducible exact ih4 _ _ _ _ _ _ _ _ _ _ _ _ _)
      | (with_reducible exact ih5 _ _ _)
      | (with_reducible exact ih6 _ _ _ _)
      | (with_reducible exact ih7 _ _ _ _ _ _ _)
      | (with_reducible exact inquestlaw09_lives.mono _)
      | (with_reducible exact inquestref00_Bools.mono _ _ _)
      | (with_reducible exact inquestref03_May.mono _ _ _ _ _ _ _)
      | (with_reducible exact inquestref03_Vars.mono _ _ _ _ _ _ _)
      | (with_reducible exact LeO.refl _)
      | (with_reducible exact LeO.none _)
      | (with_reducible refine LeO.ite ?_ ?_)
      | (with_reducible refine LeO.bind ?_ (fun _ => ?_))
      | exact ih0 _ _ _ _ _ _ _ _ _ _ _
      | exact ih1 _ _ _ _ _ _ _ _ _ _ _ _
      | exact ih2 _ _ _ _ _ _ _ _ _ _ _ _ _
      | exact ih3 _ _ _ _ _ _ _ _ _ _ _ _
      | exact ih4 _ _ _ _ _ _ _ _ _ _ _ _ _
      | exact ih5 _ _ _
      | exact ih6 _ _ _ _
      | exact ih7 _ _ _ _ _ _ _
      | exact inquestlaw09_lives.mono _
      | exact inquestref00_Bools.mono _ _ _
      | exact inquestref03_May.mono _ _ _ _ _ _ _
      | exact inquestref03_Vars.mono _ _ _ _ _ _ _
      | exact LeO.none _
      | refine LeO.ite ?_ ?_
      | refine LeO.bind ?_ (fun _ => ?_)
    · intro y0 y1 y2 y3 y4 y5 y6
      unfold inquestlaw09_ConeGrows.l3
      repeat' first
      | (with_reducible exact ih0 _ _ _ _ _ _ _ _ _ _ _)
      | (with_reducible exact ih1 _ _ _ _ _ _ _ _ _ _ _ _)
      | (with_reducible exact ih2 _ _ _ _ _ _ _ _ _ _ _ _ _)
      | (with_reducible exact ih3 _ _ _ _ _ _ _ _ _ _ _ _)
      | (with_reducible exact ih4 _ _ _ _ _ _ _ _ _ _ _ _ _)
      | (with_reducible exact ih5 _ _ _)
      | (with_reducible exact ih6 _ _ _ _)
      | (with_reducible exact ih7 _ _ _ _ _ _ _)
      | (with_reducible exact inquestlaw09_lives.mono _)
      | (with_reducible exact inquestref00_Bools.mono _ _ _)
      | (with_reducible exact inquestref03_May.mono _ _ _ _ _ _ _)
      | (with_reducible exact inquestref03_Vars.mono _ _ _ _ _ _ _)
      | (with_reducible exact LeO.refl _)
      | (with_reducible exact LeO.none _)
      | (with_reducible refine LeO.ite ?_ ?_)
      | (with_reducible refine LeO.bind ?_ (fun _ => ?_))
      | exact ih0 _ _ _ _ _ _ _ _ _ _ _
      | exact ih1 _ _ _ _ _ _ _ _ _ _ _ _
      | exact ih2 _ _ _ _ _ _ _ _ _ _ _ _ _
      | exact ih3 _ _ _ _ _ _ _ _ _ _ _ _
      | exact ih4 _ _ _ _ _ _ _ _ _ _ _ _ _
      | exact ih5 _ _ _
      | exact ih6 _ _ _ _
      | exact ih7 _ _ _ _ _ _ _
      | exact inquestlaw09_lives.mono _
      | exact inquestref00_Bools.mono _ _ _
      | exact inquestref03_May.mono _ _ _ _ _ _ _
      | exact inquestref03_Vars.mono _ _ _ _ _ _ _
      | exact LeO.none _
      | refine LeO.ite ?_ ?_
      | refine LeO.bind ?_ (fun _ => ?_)
theorem inquestlaw09_ConeGrows.mono : ∀ a0 a1 a2 a3 a4 a5 a6 a7 a8 a9 k, LeO (inquestlaw09_ConeGrows.f k a0 a1 a2 a3 a4 a5 a6 a7 a8 a9) (inquestlaw09_ConeGrows.f (k + 1) a0 a1 a2 a3 a4 a5 a6 a7 a8 a9) := by
  intro a0 a1 a2 a3 a4 a5 a6 a7 a8 a9 k
  obtain ⟨ih0, ih1, ih2, ih3, ih4, ih5, ih6, ih7⟩ := inquestlaw09_ConeGrows.mono_l k
  unfold inquestlaw09_ConeGrows.f
  repeat' first
      | (with_reducible exact ih0 _ _ _ _ _ _ _ _ _ _ _)
      | (with_reducible exact ih1 _ _ _ _ _ _ _ _ _ _ _ _)
      | (with_reducible exact ih2 _ _ _ _ _ _ _ _ _ _ _ _ _)
      | (with_reducible exact ih3 _ _ _ _ _ _ _ _ _ _ _ _)
      | (with_reducible exact ih4 _ _ _ _ _ _ _ _ _ _ _ _ _)
      | (with_reducible exact ih5 _ _ _)
      | (with_reducible exact ih6 _ _ _ _)
      | (with_reducible exact ih7 _ _ _ _ _ _ _)
      | (with_reducible exact inquestlaw09_lives.mono _)
      | (with_reducible exact inquestref00_Bools.mono _ _ _)
      | (with_reducible exact inquestref03_May.mono _ _ _ _ _ _ _)
      | (with_reducible exact inquestref03_Vars.mono _ _ _ _ _ _ _)
      | (with_reducible exact LeO.refl _)
      | (with_reducible exact LeO.none _)
      | (with_reducible refine LeO.ite ?_ ?_)
      | (with_reducible refine LeO.bind ?_ (fun _ => ?_))
      | exact ih0 _ _ _ _ _ _ _ _ _ _ _
      | exact ih1 _ _ _ _ _ _ _ _ _ _ _ _
      | exact ih2 _ _ _ _ _ _ _ _ _ _ _ _ _
      | exact ih3 _ _ _ _ _ _ _ _ _ _ _ _
      | exact ih4 _ _ _ _ _ _ _ _ _ _ _ _ _
      | exact ih5 _ _ _
      | exact ih6 _ _ _ _
      | exact ih7 _ _ _ _ _ _ _
      | exact inquestlaw09_lives.mono _
      | exact inquestref00_Bools.mono _ _ _
      | exact inquestref03_May.mono _ _ _ _ _ _ _
      | exact inquestref03_Vars.mono _ _ _ _ _ _ _
      | exact LeO.none _
      | refine LeO.ite ?_ ?_
      | refine LeO.bind ?_ (fun _ => ?_)
end Go.Proofs.Yteiiodlgdbiimaa.F
