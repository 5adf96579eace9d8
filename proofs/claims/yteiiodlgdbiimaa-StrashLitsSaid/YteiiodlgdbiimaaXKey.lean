/- The map of a maker: a gate's two literals as a key; what a look-up and a store come to. -/
import Derived.Test.YteiiodlgdbiimaaXFramesP
import Derived.WideKeyEntry
import Derived.DeepKeys5
namespace Go.Proofs.Yteiiodlgdbiimaa.F
open Go.RowKit Go.Shelf Go.ChangeMaps Go.MapKept Go.Proofs.YteiiodlgdbiimaaW.PrintWords Go.Proofs.YteiiodlgdbiimaaW.PrintLast Go.Proofs.YteiiodlgdbiimaaW.PrintMore
set_option linter.unusedVariables false
set_option linter.unusedSimpArgs false
theorem laid68 : laidOutB Try.prog = true := by kernel_rfl
theorem klaw68 : WideMaps.KeyLaw Try.prog 68 := deep_law_gate laid68 (of_decide_eq_true (by kernel_rfl)) (of_decide_eq_true (by kernel_rfl)) (by kernel_rfl) (by kernel_rfl)
def keyG (a b : Int) : Value := .agg #[.int .u32 a, .int .u32 b]
theorem wf_u32_mk {x : Int} (h : 0 ≤ x ∧ x < 4294967296) : (Lit.int .u32 x).wf = true := by
  simp only [Lit.wf, Bool.and_eq_true, decide_eq_true_eq]
  rw [show IntKind.u32.min = 0 from by decide, show IntKind.u32.max = 4294967295 from by decide]
  omega
theorem key_isG {a b : Int} (ha : 0 ≤ a ∧ a < 4294967296) (hb : 0 ≤ b ∧ b < 4294967296) : ∃ l, keyOf Try.prog 68 (keyG a b) = some l := by
  obtain ⟨m, hm⟩ : ∃ m, Try.prog.types.size = m + 1 := ⟨Try.prog.types.size - 1, by have : 0 < Try.prog.types.size := of_decide_eq_true (by kernel_rfl); omega⟩
  have e1 : Try.prog.keyType 68 = true := by kernel_rfl
  have e2 : (keyG a b).formed Try.prog 68 = true := by kernel_rfl
  have e3 : ∃ ls, Try.prog.keyLits (Try.prog.types.size + 1) 68 (keyG a b).cells.toList = some ls := by
    rw [hm]
    have c68 : Try.prog.cellsOf 68 = 2 := by kernel_rfl
    have c39 : Try.prog.cellsOf 39 = 1 := by kernel_rfl
    simp [Program.keyLits, keyG, Value.cells, Try.underlying68, Try.underlying39, c68, c39, wf_u32_mk ha, wf_u32_mk hb]
  obtain ⟨ls, e3⟩ := e3
  unfold keyOf
  rw [Try.underlying68]
  simp only [e1, e2, e3, Bool.and_self, if_true, Option.map_some]
  exact ⟨_, rfl⟩
def Gate32 (g : S68) : Prop := (0 ≤ g.f0 ∧ g.f0 < 4294967296) ∧ (0 ≤ g.f1 ∧ g.f1 < 4294967296)
def entG (first : Int) (gs : List S68) : List MapEntry := gs.zipIdx.map fun p => { key := keyG p.1.f0 p.1.f1, val := .int .u32 (2 * (first + (p.2 : Int))), born := p.2 }
theorem entG_snoc (first : Int) (gs : List S68) (g : S68) : entG first (gs ++ [g]) = entG first gs ++ [{ key := keyG g.f0 g.f1, val := .int .u32 (2 * (first + (gs.length : Int))), born := gs.length }] := by
  simp [entG, List.zipIdx_append]
theorem entG_len (first : Int) (gs : List S68) : (entG first gs).length = gs.length := by simp [entG]
theorem entG_at {first : Int} {gs : List S68} {j : Nat} {e : MapEntry} (h : (entG first gs)[j]? = some e) : ∃ g, gs[j]? = some g ∧ e = { key := keyG g.f0 g.f1, val := .int .u32 (2 * (first + (j : Int))), born := j } := by
  simp only [entG, List.getElem?_map, List.getElem?_zipIdx] at h
  cases hg : gs[j]? with
  | none => rw [hg] at h; cases h
  | some g =>
    rw [hg] at h
    simp only [Option.map_some, Nat.zero_add, Option.some.injEq] at h
    exact ⟨g, rfl, h.symm⟩
theorem entG_mem {first : Int} {gs : List S68} {g : S68} {j : Nat} (h : gs[j]? = some g) : ({ key := keyG g.f0 g.f1, val := .int .u32 (2 * (first + (j : Int))), born := j } : MapEntry) ∈ entG first gs := by
  refine List.mem_of_getElem? (i := j) ?_
  simp [entG, List.getElem?_zipIdx, h]
/-- where a gate stands -/
def idxG : List S68 → Int → Int → Option Nat
  | [], _, _ => none
  | g :: r, a, b => if g.f0 = a ∧ g.f1 = b then some 0 else (idxG r a b).map (· + 1)
theorem idxG_none {a b : Int} : ∀ gs : List S68, idxG gs a b = none → ∀ g ∈ gs, ¬ (g.f0 = a ∧ g.f1 = b)
  | [], _, g, hg => by cases hg
  | x :: r, h, g, hg => by
    unfold idxG at h
    split at h
    · cases h
    · rename_i hc
      rcases List.mem_cons.1 hg with rfl | hg
      · exact hc
      · exact idxG_none r (by simpa using h) g hg
theorem idxG_some {a b : Int} : ∀ (gs : List S68) (j : Nat), idxG gs a b = some j → (∃ g, gs[j]? = some g ∧ g.f0 = a ∧ g.f1 = b) ∧ ∀ i, i < j → ∀ g, gs[i]? = some g → ¬ (g.f0 = a ∧ g.f1 = b)
  | [], j, h => by cases h
  | x :: r, j, h => by
    unfold idxG at h
    split at h
    · rename_i hc
      cases h
      exact ⟨⟨x, rfl, hc⟩, fun i hi => by omega⟩
    · rename_i hc
      obtain ⟨k, hk, rfl⟩ := Option.map_eq_some_iff.1 h
      obtain ⟨h1, h2⟩ := idxG_some r k hk
      refine ⟨by simpa using h1, fun i hi g hg => ?_⟩
      cases i with
      | zero =>
        cases hg
        exact hc
      | succ i => exact h2 i (by omega) g (by simpa using hg)
/-- no two gates are alike -/
def Apart68 (gs : List S68) : Prop := ∀ (i j : Nat) (g h : S68), gs[i]? = some g → gs[j]? = some h → g.f0 = h.f0 → g.f1 = h.f1 → i = j
theorem zero39 (w : World) : (zeroValue 39).run Try.prog w = .ok (.int .u32 0) w := by kernel_rfl
section
variable {first : Int} {gs : List S68} {w : World} {mb : Nat} {a b : Int}
theorem keys68 (hg : ∀ g ∈ gs, Gate32 g) : ∀ e ∈ entG first gs, ∃ l, keyOf Try.prog 68 e.key = some l := by
  intro e he
  obtain ⟨j, hj⟩ := List.getElem?_of_mem he
  obtain ⟨g, h1, rfl⟩ := entG_at hj
  have := hg g (List.mem_of_getElem? h1)
  exact key_isG this.1 this.2
theorem keyG_inj {a b c d : Int} (h : keyG a b = keyG c d) : a = c ∧ b = d := by
  unfold keyG at h
  injection h with h
  have h1 : [Value.int .u32 a, Value.int .u32 b] = [Value.int .u32 c, Value.int .u32 d] := congrArg Array.toList h
  injection h1 with e1 h2
  injection h2 with e2 _
  injection e1 with _ e1
  injection e2 with _ e2
  exact ⟨e1, e2⟩
theorem find_none (hg : ∀ g ∈ gs, Gate32 g) (ha : 0 ≤ a ∧ a < 4294967296) (hb : 0 ≤ b ∧ b < 4294967296) (hn : ∀ g ∈ gs, ¬ (g.f0 = a ∧ g.f1 = b)) (w : World) : (Instr.findKey 68 (keyG a b) (entG first gs)).run Try.prog w = .ok none w := by
  obtain ⟨l, hl⟩ := key_isG ha hb
  rcases klaw68.find w hl (entG first gs) (keys68 hg) with ⟨h1, _⟩ | ⟨j, e, _, h2, h3⟩
  · exact h1
  · obtain ⟨g, hg1, rfl⟩ := entG_at h2
    obtain ⟨e1, e2⟩ := keyG_inj h3
    exact absurd ⟨e1, e2⟩ (hn g (List.mem_of_getElem? hg1))
theorem find_some (hg : ∀ g ∈ gs, Gate32 g) (hd : Apart68 gs) (ha : 0 ≤ a ∧ a < 4294967296) (hb : 0 ≤ b ∧ b < 4294967296) {j : Nat} {g : S68} (hj : gs[j]? = some g) (h0 : g.f0 = a) (h1 : g.f1 = b) (w : World) :
    (Instr.findKey 68 (keyG a b) (entG first gs)).run Try.prog w = .ok (some (j, .int .u32 (2 * (first + (j : Int))))) w := by
  obtain ⟨l, hl⟩ := key_isG ha hb
  rcases klaw68.find w hl (entG first gs) (keys68 hg) with ⟨_, h2⟩ | ⟨i, e, hr, h2, h3⟩
  · exact absurd (show keyG g.f0 g.f1 = keyG a b by rw [h0, h1]) (h2 _ (entG_mem hj))
  · obtain ⟨g', hg1, rfl⟩ := entG_at h2
    obtain ⟨e1, e2⟩ := keyG_inj h3
    obtain rfl : i = j := hd i j g' g hg1 hj (by rw [e1, h0]) (by rw [e2, h1])
    exact hr
theorem lookG_none (hm : w.heap[mb]? = some (.map (entG first gs).toArray gs.length)) (hg : ∀ g ∈ gs, Gate32 g) (ha : 0 ≤ a ∧ a < 4294967296) (hb : 0 ≤ b ∧ b < 4294967296) (hn : ∀ g ∈ gs, ¬ (g.f0 = a ∧ g.f1 = b)) :
    (Instr.lookup 121 (.map (some mb)) (keyG a b) true).run Try.prog w = .ok (.tuple #[.int .u32 0, .bool false]) w := by
  obtain ⟨l, hl⟩ := key_isG ha hb
  have h1 := find_none (first := first) hg ha hb hn w
  simp [Instr.lookup, run_underlying Try.underlying121, MapKept.run_getObj_map hm, klaw68.check w _ hl, h1, zero39, Result.andThen]
theorem lookG_some (hm : w.heap[mb]? = some (.map (entG first gs).toArray gs.length)) (hg : ∀ g ∈ gs, Gate32 g) (hd : Apart68 gs) (ha : 0 ≤ a ∧ a < 4294967296) (hb : 0 ≤ b ∧ b < 4294967296) {j : Nat} {g : S68} (hj : gs[j]? = some g) (h0 : g.f0 = a) (h1 : g.f1 = b) :
    (Instr.lookup 121 (.map (some mb)) (keyG a b) true).run Try.prog w = .ok (.tuple #[.int .u32 (2 * (first + (j : Int))), .bool true]) w := by
  obtain ⟨l, hl⟩ := key_isG ha hb
  have h2 := find_some (first := first) hg hd ha hb hj h0 h1 w
  simp [Instr.lookup, run_underlying Try.underlying121, MapKept.run_getObj_map hm, klaw68.check w _ hl, h2, Result.andThen]
theorem mapG_entry (hm : w.heap[mb]? = some (.map (entG first gs).toArray gs.length)) (hg : ∀ g ∈ gs, Gate32 g) (ha : 0 ≤ a ∧ a < 4294967296) (hb : 0 ≤ b ∧ b < 4294967296) (hn : ∀ g ∈ gs, ¬ (g.f0 = a ∧ g.f1 = b)) :
    (Instr.mapEntry 121 (.map (some mb)) (keyG a b)).run Try.prog w = .ok (.tuple #[.int .u32 0, .int .i64 gs.length]) (setBlock w mb (.map ((entG first gs).toArray.push ⟨keyG a b, .int .u32 0, gs.length⟩) (gs.length + 1))) := by
  obtain ⟨l, hl⟩ := key_isG ha hb
  have h1 := find_none (first := first) hg ha hb hn w
  simp [Instr.mapEntry, run_underlying Try.underlying121, MapKept.run_getObj_map hm, klaw68.check w false hl, h1, zero39, MapKept.run_setObj_map _ hm, Result.andThen, setBlock, goInt]
theorem mapG_store (v : Value) (hm : w.heap[mb]? = some (.map ((entG first gs).toArray.push ⟨keyG a b, .int .u32 0, gs.length⟩) (gs.length + 1))) :
    (Instr.entryStore 121 (.map (some mb)) (.int .i64 gs.length) v).run Try.prog w = .ok () (setBlock w mb (.map ((entG first gs).toArray.push ⟨keyG a b, v, gs.length⟩) (gs.length + 1))) := by
  have hidx : ((entG first gs).toArray.push ⟨keyG a b, .int .u32 0, gs.length⟩).findIdx? (fun e => ((e.born : Nat) : Int) == ((gs.length : Nat) : Int)) = some gs.length := by
    rw [WideElems.findIdx_arr]
    refine WideElems.findIdx_born (e0 := ⟨keyG a b, .int .u32 0, gs.length⟩) ?_ ?_
    · have e : ((entG first gs).toArray.push ⟨keyG a b, .int .u32 0, gs.length⟩).toList.map (·.born) = List.range (gs.length + 1) := by
        apply List.ext_getElem?
        intro i
        simp [entG, List.getElem?_append, List.getElem?_range, List.getElem?_zipIdx, List.range_succ]
        by_cases hi : i < gs.length
        · simp [hi]
        · simp [hi]
      rw [e]
      exact List.nodup_range
    · simp [entG_len]
  have hmod : ((entG first gs).toArray.push ⟨keyG a b, .int .u32 0, gs.length⟩).modify gs.length (fun e => { e with val := v }) = (entG first gs).toArray.push ⟨keyG a b, v, gs.length⟩ := by
    apply Array.ext'
    have := WideElems.modify_last (fun e : MapEntry => { e with val := v }) (⟨keyG a b, .int .u32 0, gs.length⟩ : MapEntry) (entG first gs)
    rw [entG_len] at this
    rw [Array.toList_modify, Array.toList_push, Array.toList_push]
    simpa using this
  generalize (entG first gs).toArray.push ⟨keyG a b, .int .u32 0, gs.length⟩ = es at hm hidx hmod
  generalize (entG first gs).toArray.push ⟨keyG a b, v, gs.length⟩ = es' at hmod ⊢
  simp [Instr.entryStore, MapKept.run_getObj_map hm, asInt, asIntOf, hidx, hmod, MapKept.run_setObj_map _ hm, Result.andThen, setBlock]
end
end Go.Proofs.Yteiiodlgdbiimaa.F
