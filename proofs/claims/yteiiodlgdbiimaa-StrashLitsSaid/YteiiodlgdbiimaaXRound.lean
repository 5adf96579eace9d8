/- Within a round of a range over a function: a region is walked as without a fence. -/
import Derived.Test.YteiiodlgdbiimaaXBack
namespace Go.Proofs.Yteiiodlgdbiimaa.F
open Go.RowKit Go.Shelf Go.Proofs.YteiiodlgdbiimaaW.PrintWords Go.Proofs.YteiiodlgdbiimaaW.PrintLast Go.Proofs.YteiiodlgdbiimaaW.PrintMore
set_option linter.unusedVariables false
set_option linter.unusedSimpArgs false
section
variable {P : Program} {ops : Array Oper} {rest : List Oper} {o : Oper} {a : Act} {w : World} {Q : Exit → Act → World → Prop} {n : Nat}
theorem calls_rd (l : Nat) {f : FuncId} {args : Array Value} {R : Ending → World → Prop} (h : Calls P f args w R) : CallsIn (Fence.wide.inRound l) n P f args w R := CallsIn.inRound l (callsIn_wide.2 h)
theorem rows_rd (l : Nat) {row : String} {args : Array Value} {R : Value → World → Prop} (h : Rows P row args w R) : RowsIn (Fence.wide.inRound l) n P row args w R :=
  fun c cs _ => let ⟨v, w', r, s⟩ := h c cs; ⟨v, w', r, stepsIn_wide.2 s⟩
def noDefer (o : Oper) : Bool := match o.op with | .defer _ => false | _ => true
theorem noDefer_ne (h : noDefer o = true) : ∀ c, o.op ≠ .defer c := fun c e => by unfold noDefer at h; rw [e] at h; cases h
theorem op_rd (l : Nat) {next next' : Act → World → Prop} (hd : noDefer o = true) (hn : ∀ a w, next a w → next' a w) (h : o.wp P a w next Q) : o.wpIn (Fence.wide.inRound l) n P a w next' Q := by
  refine ⟨fun f _ => trivial, ?_⟩
  rw [Oper.semAt_plain _ _ _ (noDefer_ne hd)]
  unfold Oper.wp at h
  generalize (execOp a.eval o).run P w = r at h ⊢
  cases r with
  | ok x w' =>
    cases x with
    | value v => exact hn _ _ h
    | skip => exact hn _ _ h
    | defer d => exact hn _ _ h
    | enter f args => 
      refine ⟨(fun hx => by cases hx), calls_rd l (Calls.mono h ?_)⟩
      intro e w2 he
      cases e with
      | returned v => exact hn _ _ he
      | panicked c => exact he
      | outgrown => exact he
    | row r args => exact ⟨(fun hx => by cases hx), rows_rd l (Rows.mono h fun v w2 he => hn _ _ he)⟩
    | _ => exact h.elim
  | halt x w' => cases x <;> first | exact h | exact h.elim
theorem list_rd (l : Nat) (hQ : ¬ LetsOut Q) : ∀ (rest : List Oper) (hd : rest.all noDefer = true) (a : Act) (w : World), wpList P ops Q rest a w → wpListIn (Fence.wide.inRound l) n P ops Q rest a w
  | [], _, a, w, h => h
  | o :: rest, hd, a, w, h => by
    simp only [List.all_cons, Bool.and_eq_true] at hd
    unfold wpList at h
    unfold wpListIn
    split at h
    case isTrue hw =>
      rw [if_pos hw]
      rcases h with h | h
      · exact op_rd l hd.1 (list_rd l hQ rest hd.2) h
      · exact (hQ h.2).elim
    case isFalse hw =>
      rw [if_neg hw]
      exact ⟨fun f _ => trivial, list_rd l hQ rest hd.2 _ _ h⟩
theorem ops_rd (l : Nat) (hQ : ¬ LetsOut Q) (hd : ops.all noDefer = true) : ∀ (rest : List Nat) (a : Act) (w : World), wpOps P ops Q rest a w → wpOpsIn (Fence.wide.inRound l) n P ops Q rest a w
  | [], a, w, h => h
  | i :: rest, a, w, h => by
    unfold wpOps at h
    unfold wpOpsIn
    split at h
    case h_1 e => simp only [e]; exact ops_rd l hQ hd rest _ _ h
    case h_2 o e =>
      simp only [e]
      have ho : noDefer o = true := by
        have := Array.getElem?_eq_some_iff.1 e
        obtain ⟨hi, rfl⟩ := this
        exact Array.all_eq_true.1 hd i hi
      split at h
      case isTrue hw =>
        rw [if_pos hw]
        rcases h with h | h
        · exact op_rd l ho (ops_rd l hQ hd rest) h
        · exact (hQ h.2).elim
      case isFalse hw =>
        rw [if_neg hw]
        exact ⟨fun f _ => trivial, ops_rd l hQ hd rest _ _ h⟩
/-- a region in its written order -/
theorem region_rd (l : Nat) {id : Nat} {ls : List Oper} (hQ : ¬ LetsOut Q) (hd : ls.all noDefer = true) (h : wpList P ls.toArray Q ls a w) : (Code.region id ls.toArray false).wpIn (Fence.wide.inRound l) n P Q a w :=
  wpIn_region_list (list_rd l hQ _ (by simpa using hd) _ _ (by simpa using h))
/-- a region that draws its order -/
theorem draws_rd (l : Nat) {id : Nat} (hm : P.follows .mixedOrders = true) (hQ : ¬ LetsOut Q) (hd : ops.all noDefer = true)
    (h : wpAny P .any ops Q ops.size (Array.replicate ops.size false) a { w with drawn := w.drawn + 1 }) : (Code.region id ops true).wpIn (Fence.wide.inRound l) n P Q a w :=
  wpIn_region_draw fun t => by
    simp only [Region.schedule, hm, Bool.true_or, if_true]
    exact ops_rd l hQ hd _ _ _ (wpAny_sound ops.size t _ a _ h)
theorem start_rd (r : Nat) {S : World → Prop} {ds : List Nat} {id n' : Nat} (l : Array Bool) (hm : P.follows .mixedOrders = true) (hQ : ¬ LetsOut Q) (hd : ops.all noDefer = true) (hn : ops.size = n') (hl : Array.replicate n' false = l) (hS : S w.drew)
    (h : S w.drew → wpAnyLast P .any ops Q S ds n' l a w.drew) : (Code.region id ops true).wpIn (Fence.wide.inRound r) n P Q a w := by
  subst hn
  subst hl
  exact draws_rd r hm hQ hd (wpAny_of_last _ _ _ _ (h hS))
end
end Go.Proofs.Yteiiodlgdbiimaa.F
