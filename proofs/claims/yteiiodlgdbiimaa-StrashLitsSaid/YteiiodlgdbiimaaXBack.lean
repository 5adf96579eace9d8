/- slices.Backward over a slice of slices hands its loop the places from the last to the first, whatever the loop stores into the slice. -/
import Derived.RangeFuncNested
import Derived.RangeFuncBound
import Derived.RangeFuncCalls
import Derived.RangeFuncLeaves
import Derived.Shelf.Abstract
import Derived.Shelf.RegionOpen
import Derived.WalkKit
import Derived.OwnWalkIn
import Derived.TacticsInMore
import Derived.LoopNIn
import Derived.LoopIn
import Derived.Test.YteiiodlgdbiimaaXBase
namespace Go.Proofs.Yteiiodlgdbiimaa.F
open Go.RowKit Go.Shelf Go.Proofs.YteiiodlgdbiimaaW.PrintWords Go.Proofs.YteiiodlgdbiimaaW.PrintLast Go.Proofs.YteiiodlgdbiimaaW.PrintMore
set_option linter.unusedVariables false
set_option linter.unusedSimpArgs false
attribute [local go_sem] Oper.semAt_some

/-- what a round is handed: a place below n, and a slice -/
def BackX (n : Nat) := { p : Nat × (Option Addr × Nat × Nat) // p.1 < n }
def BackX.args {n : Nat} (x : BackX n) : Array Value := #[.int .i64 (x.1.1 : Int), .slice x.1.2.1 x.1.2.2.1 x.1.2.2.2]
/-- each cell of the row holds a slice -/
def RowOk (g n : Nat) (W : World) : Prop := ∀ j, j < n → ∃ A l c, W.cell? ⟨g, j, none⟩ = some (.slice A l c)
/-- what a round keeps: the captured slice, and that each cell holds a slice -/
def BackKeeps (b g n c : Nat) (W W' : World) : Prop := (W.cell? ⟨b, 0, none⟩ = some (.slice (some ⟨g, 0, none⟩) n c) → W'.cell? ⟨b, 0, none⟩ = some (.slice (some ⟨g, 0, none⟩) n c)) ∧ (RowOk g n W → RowOk g n W')
theorem BackKeeps.trans {b g n c : Nat} {A B C : World} (h : BackKeeps b g n c A B) (k : BackKeeps b g n c B C) : BackKeeps b g n c A C := ⟨fun x => k.1 (h.1 x), fun x => k.2 (h.2 x)⟩
def backPlaces (n k : Nat) : List Nat := (List.range k).map fun j => n - 1 - j
theorem backPlaces_succ (n k : Nat) : backPlaces n (k + 1) = backPlaces n k ++ [n - 1 - k] := by simp [backPlaces, List.range_succ]
theorem backPlaces_length (n k : Nat) : (backPlaces n k).length = k := by simp [backPlaces]

set_option maxRecDepth 100000 in
set_option maxHeartbeats 2000000 in
theorem back1_in (F : Fence) (m : Nat) (hf : F.fn 145) (hro : F.round = none) (hm : 1 ≤ m) (l b g n c : Nat) (hn : n ≤ 1000000) (J Jx : List (BackX n) → World → Prop)
    (hY : ∀ pre x W, J pre W → pre.length < n → YieldAt F (m - 1) Try.prog l x.args W fun e W' =>
      (e = .returned (.bool true) ∧ J (pre ++ [x]) W' ∧ BackKeeps b g n c W W') ∨ (e = .returned (.bool false) ∧ Jx (pre ++ [x]) W'))
    (W : World) (hb : W.cell? ⟨b, 0, none⟩ = some (.slice (some ⟨g, 0, none⟩) n c)) (hc : RowOk g n W) (h0 : J [] W) :
    CallsIn F m Try.prog 145 #[.func (.yield l) #[] #[], .pointer (some ⟨b, 0, none⟩)] W fun e W' => (∃ v, e = .returned v) ∧
      ((∃ ys : List (BackX n), ys.map (fun x => x.1.1) = backPlaces n n ∧ J ys W') ∨ (∃ pre, True ∧ Jx pre W')) := by
  refine callsIn_of_wp Try.func145 rfl hf ?_ hro
  simp only [Try.ntmps145, List.size_toArray, List.length_cons, List.length_nil, Nat.reduceAdd, Nat.reduceSub, Array.replicate_succ, Array.replicate_zero, List.push_toArray, List.append_toArray, List.nil_append, List.cons_append]
  gi_wp2
  gi_loopw [3] (fun i wr => ∃ (k : Nat) (ys : List (BackX n)), k ≤ n ∧ i = .int .i64 ((n : Int) - 1 - (k : Int)) ∧ Aside0 (ys.map (fun x => x.1.1) = backPlaces n k) ∧ Aside0 (J ys wr) ∧ wr.cell? ⟨b, 0, none⟩ = some (.slice (some ⟨g, 0, none⟩) n c) ∧ Aside0 (RowOk g n wr))
    (fun i _ => (intOf i + 1).toNat)
  case atStart => exact ⟨0, [], Nat.zero_le _, by simp, ⟨rfl⟩, ⟨h0⟩, hb, ⟨hc⟩⟩
  case round =>
    clear hb hc h0
    obtain ⟨k, ys, hk, rfl, HY, HJ, hb, HC⟩ := hrel
    by_cases hlt : k < n
    · have hge : (0 : Int) ≤ (n : Int) - 1 - (k : Int) := by omega
      have hge2 : (k : Int) ≤ (n : Int) - 1 := by omega
      obtain ⟨A, la, ca, hx⟩ := HC.out (n - 1 - k) (by omega)
      have HLEN : Aside0 (ys.length = k) := ⟨by have := congrArg List.length HY.out; simpa [backPlaces_length] using this⟩
      obtain ⟨fn, tmps, assign, body, hy, hR⟩ := hY ys ⟨(n - 1 - k, (A, la, ca)), by omega⟩ wr HJ.out (by rw [HLEN.out]; exact hlt)
      dsimp only [BackX.args] at hy
      rw [show ((n - 1 - k : Nat) : Int) = (n : Int) - 1 - (k : Int) by omega] at hy
      have hlt2 : (n : Int) - 1 - (k : Int) < (n : Int) := by omega
      gi_wp2
      refine hR.mono ?_
      rintro e W3 (⟨rfl, hJ3, hk3⟩ | ⟨rfl, hJx3⟩)
      · gi_wp2
        go_roundw
        case rel => exact ⟨k + 1, _, by omega, by simp; omega, ⟨by rw [List.map_append, HY.out, backPlaces_succ]; rfl⟩, ⟨hJ3⟩, hk3.1 hb, ⟨hk3.2 HC.out⟩⟩
        case measure => simp [intOf]; omega
      · gi_wp2
        refine bodyPost_ret (results_none rfl _ _ _) rfl ?_
        exact ⟨⟨_, rfl⟩, .inr ⟨_, trivial, hJx3⟩⟩
    · obtain rfl : k = n := by omega
      have hge2 : ¬ (k : Int) ≤ (k : Int) - 1 := by omega
      gi_wp2
      go_end0
      exact ⟨⟨_, rfl⟩, .inl ⟨ys, HY.out, HJ.out⟩⟩
set_option maxHeartbeats 1000000 in
theorem back_in (F : Fence) (m : Nat) (hf : F.fn 93) (hro : F.round = none) (a : Option Addr) (len cap : Nat) (w : World) :
    CallsIn F m Try.prog 93 #[.slice a len cap] w fun e w' => e = .returned (.func (.func 145) #[] #[.pointer (some ⟨w.heap.size, 0, none⟩)]) ∧ w' = w.alloc (.cells #[.slice a len cap] 43) := by
  refine callsIn_of_wp Try.func93 rfl hf ?_ hro
  simp only [Try.ntmps93, List.size_toArray, List.length_cons, List.length_nil, Nat.reduceAdd, Nat.reduceSub, Array.replicate_succ, Array.replicate_zero, List.push_toArray, List.append_toArray, List.nil_append, List.cons_append]
  gi_wp2
  go_ret
  exact ⟨rfl, rfl⟩
theorem back_stops (F : Fence) (m : Nat) (hf : F.fn 145) (hro : F.round = none) (hm : 1 ≤ m) (b g n c : Nat) (hn : n ≤ 1000000) (w : World) (hb : w.cell? ⟨b, 0, none⟩ = some (.slice (some ⟨g, 0, none⟩) n c)) (hc : RowOk g n w) :
    SeqStopsK F m Try.prog 145 #[.pointer (some ⟨b, 0, none⟩)] (fun x : BackX n => x.args) (BackKeeps b g n c) (fun ys => ys.map (fun x => x.1.1) = backPlaces n n) (fun _ => True) n w := fun l J Jx W hW _ _ hY h0 =>
  back1_in F m hf hro hm l b g n c hn J Jx hY W (pw_cell_below hW hb) (fun j hj => by obtain ⟨A, la, ca, h⟩ := hc j hj; exact ⟨A, la, ca, pw_cell_below hW h⟩) h0
theorem backKeeps_b {b g n c : Nat} (W : World) (l : Nat) (o o' : Obj) (h : W.heap[l]? = some o) (hc : o.isCells = false) : BackKeeps b g n c W (W.putObj l o') :=
  ⟨fun hx => cell_kept hx (grownBy_putObj' W l o') (fun r e => by cases e; exact ⟨o, h, hc⟩), fun hr j hj => by obtain ⟨A, la, ca, hx⟩ := hr j hj; exact ⟨A, la, ca, cell_kept hx (grownBy_putObj' W l o') (fun r e => by cases e; exact ⟨o, h, hc⟩)⟩⟩
end Go.Proofs.Yteiiodlgdbiimaa.F
