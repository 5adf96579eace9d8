/- What the proof of the law StrashSmall needs, part 10: the walks of the functions that it reaches, and the plain words on what these compute. -/
import Derived.Test.YteiiodlgdbiimaaSi
section
namespace Go.Proofs.Yteiiodlgdbiimaa.F
open Go.RowKit Go.Shelf Go.Proofs.YteiiodlgdbiimaaW.PrintWords Go.Proofs.YteiiodlgdbiimaaW.PrintLast Go.Proofs.YteiiodlgdbiimaaW.PrintMore
set_option linter.unusedVariables false
set_option linter.unusedSimpArgs false
theorem numbers_ev : ∀ (xs : List Int), Ev (fun k => inquestref00_Numbers.l0 k xs xs) true
  | [] => by
    refine Ev.step (f := fun _ => some true) (fun k => ?_) (Ev.now true)
    simp only [inquestref00_Numbers.l0]
    rw [if_neg (by simp)]
  | x :: t => by
    refine Ev.step (fun k => ?_) (numbers_ev t)
    simp only [inquestref00_Numbers.l0]
    rw [if_pos (by rw [List.length_cons]; omega), if_pos (by rw [List.length_cons]; omega), if_pos (by rw [List.length_cons]; omega), if_pos trivial, if_pos (by rw [List.length_cons]; omega), if_pos (by rw [List.length_cons]; omega)]
    rfl
theorem numbersf_ev (xs : List Int) : Ev (fun k => inquestref00_Numbers.f k xs xs) true := by
  unfold inquestref00_Numbers.f
  exact Ev.ifp rfl (numbers_ev xs)
section
variable {a0 : Int} {l1 : List S41} {l2 : List S68} {l3 l4 l5 : List Int}
theorem same_ev (n1 : l1.length < 9223372036854775807) (n2 : l2.length < 9223372036854775807) : Ev (fun k => inquestref03_Same.f k a0 l1 l2 l3 l4 l5 a0 l1 l2 l3 l4 l5) true := by
  have hend : Ev (fun k => (inquestref00_Numbers.f k l3 l3).bind fun t258 => (if t258 = true then ((inquestref00_Numbers.f k l4 l4).bind fun t259 => (if t259 = true then ((inquestref00_Numbers.f k l5 l5).bind fun t260 => (some t260)) else (some false))) else (some false))) true :=
    Ev.bind (numbersf_ev l3) (Ev.ifp rfl (Ev.bind (numbersf_ev l4) (Ev.ifp rfl (Ev.bind (numbersf_ev l5) (Ev.now true)))))
  have key2 : ∀ (d i : Nat), l2.length - i = d → i ≤ l2.length → Ev (fun k => inquestref03_Same.l1 k (i : Int) a0 l1 l2 l3 l4 l5 a0 l1 l2 l3 l4 l5) true := by
    intro d
    induction d with
    | zero =>
      intro i hd hi
      refine Ev.step (fun k => ?_) hend
      simp only [inquestref03_Same.l1]
      rw [if_neg (by omega)]
    | succ d ih =>
      intro i hd hi
      refine Ev.step (fun k => ?_) (ih (i + 1) (by omega) (by omega))
      simp only [inquestref03_Same.l1]
      rw [if_pos (by omega), if_pos (by omega), if_pos (by omega), if_neg (by simp), wrap_nat' (by omega)]
  have key1 : ∀ (d i : Nat), l1.length - i = d → i ≤ l1.length → Ev (fun k => inquestref03_Same.l0 k (i : Int) a0 l1 l2 l3 l4 l5 a0 l1 l2 l3 l4 l5) true := by
    intro d
    induction d with
    | zero =>
      intro i hd hi
      refine Ev.step (fun k => ?_) (key2 l2.length 0 (by omega) (by omega))
      simp only [inquestref03_Same.l0]
      rw [if_neg (by omega)]
      rfl
    | succ d ih =>
      intro i hd hi
      refine Ev.step (fun k => ?_) (ih (i + 1) (by omega) (by omega))
      simp only [inquestref03_Same.l0]
      rw [if_pos (by omega), if_pos (by omega), if_pos (by omega), if_neg (by simp), wrap_nat' (by omega)]
  unfold inquestref03_Same.f
  refine Ev.ifp rfl (Ev.ifp rfl ?_)
  have e : ((l2.length : Int) != (l2.length : Int)) = false := by simp
  rw [e]
  refine Ev.step (fun k => ?_) (key1 l1.length 0 (by omega) (by omega))
  simp only [inquestref03_Same.j0]
  rw [if_neg (by decide)]
  rfl
end
def selfL (k : Nat) : List Int := (List.range k).map (fun (v : Nat) => 2 * (v : Int))
theorem self_len (k : Nat) : (selfL k).length = k := by unfold selfL; rw [List.length_map, List.length_range]
theorem self_succ (k : Nat) : selfL (k + 1) = selfL k ++ [2 * (k : Int)] := by unfold selfL; rw [List.range_succ, List.map_append]; rfl
theorem self_rd {k v : Nat} (h : v < k) : rd (selfL k) (v : Int) = 2 * (v : Int) := by
  have e : rd (selfL k) (v : Int) = (List.range k)[v]'(by rw [List.length_range]; exact h) * 2 := by
    unfold selfL
    rw [rd_map2 (by rw [List.length_range]; exact h)]
    omega
  rw [e, List.getElem_range]
  omega
theorem self_lit {k : Nat} (hk : k ≤ 100000) {x : Int} (h0 : 0 ≤ x) (h1 : x < 4294967296) (hx : x / 2 < (k : Int)) : litP (selfL k) x = x := by
  obtain ⟨v, hv⟩ : ∃ v : Nat, x / 2 = (v : Int) := ⟨(x / 2).toNat, by omega⟩
  unfold litP
  rw [if_pos (by rw [self_len]; exact hx), and_one h0 h1, hv, self_rd (by omega)]
  rcases (show x % 2 = 0 ∨ x % 2 = 1 by omega) with e | e
  · rw [e, xor_zero32 (by omega) (by omega)]
    omega
  · rw [e, xor_one (by omega) (by omega)]
    omega
theorem idx_take {gs : List S68} (ap : Apart68 gs) {j : Nat} (hj : j < gs.length) : idxG (gs.take j) gs[j].f0 gs[j].f1 = none := by
  cases h : idxG (gs.take j) gs[j].f0 gs[j].f1 with
  | none => rfl
  | some i =>
    obtain ⟨⟨g, hg, e0, e1⟩, _⟩ := idxG_some _ i h
    have hi := idxG_lt h
    rw [List.length_take] at hi
    rw [List.getElem?_take, if_pos (by omega)] at hg
    have := ap i j g gs[j] hg (List.getElem?_eq_getElem hj) e0 e1
    omega
theorem again_run {F : Int} {gs : List S68} (hf : 1 ≤ F ∧ F ≤ 20000) (hg : gs.length ≤ 20000) (hn : ∀ (j : Nat) (g : S68), gs[j]? = some g → Nice g ∧ g.f0 / 2 < F + (j : Int)) (ap : Apart68 gs) {n : Nat} (hnF : (n : Int) = F + (gs.length : Int)) :
    ∀ k : Nat, k ≤ n → runW F gs (blankL n) k = (selfL k, gs.take (k - F.toNat))
  | 0, _ => by
    have e : (0 : Nat) - F.toNat = 0 := Nat.zero_sub _
    rw [e]
    rfl
  | k + 1, hk => by
    rw [runW, again_run hf hg hn ap hnF k (by omega), blank_rd (by omega) k (by omega)]
    unfold stepW
    by_cases h0 : k = 0
    · subst h0
      rw [if_pos rfl, if_pos (by decide)]
      have e1 : (0 : Nat) + 1 - F.toNat = 0 := by omega
      have e2 : (0 : Nat) - F.toNat = 0 := Nat.zero_sub _
      rw [e1, e2]
      rfl
    · rw [if_neg h0, if_neg (by decide)]
      by_cases hkF : (k : Int) < F
      · rw [if_pos hkF, self_succ]
        have e1 : k + 1 - F.toNat = 0 := by omega
        have e2 : k - F.toNat = 0 := by omega
        rw [e1, e2]
      · rw [if_neg hkF]
        obtain ⟨j, hj⟩ : ∃ j : Nat, (k : Int) = F + (j : Int) := ⟨((k : Int) - F).toNat, by omega⟩
        have hjl : j < gs.length := by omega
        have e0 : (k : Int) - F = (j : Int) := by omega
        have e1 : k + 1 - F.toNat = j + 1 := by omega
        have e2 : k - F.toNat = j := by omega
        obtain ⟨⟨n1, n2, n3, n4⟩, n5⟩ := hn j gs[j] (List.getElem?_eq_getElem hjl)
        rw [e0, e1, e2, rd68_at hjl]
        dsimp only
        rw [self_lit (by omega) (by omega) n4 (by omega), self_lit (x := gs[j].f1) (by omega) (by omega) (by omega) (by omega)]
        have hmx : mx gs[j].f0 gs[j].f1 = gs[j].f0 := by unfold mx; rw [if_neg (by omega)]
        have hmn : mn gs[j].f0 gs[j].f1 = gs[j].f1 := by unfold mn; rw [if_pos (by omega)]
        have hG : gateP F (gs.take j) gs[j].f0 gs[j].f1 = (2 * (F + (j : Int)), gs.take j ++ [gs[j]]) := by
          unfold gateP
          rw [hmx, hmn, xor_one (by omega) (by omega), if_neg (by omega), if_neg (by omega), if_neg (by omega), if_neg (by omega), idx_take ap hjl]
          dsimp only
          rw [List.length_take, Nat.min_eq_left (by omega)]
        rw [hG, self_succ, take_next hjl]
        dsimp only
        rw [← hj]
theorem again_small {a0 : Int} {l1 : List S41} {gs : List S68} (hp : 0 ≤ a0) (hle : a0 + (l1.length : Int) + (gs.length : Int) ≤ 16384) (hn : ∀ (j : Nat) (g : S68), gs[j]? = some g → Nice g ∧ g.f0 / 2 < 1 + a0 + (l1.length : Int) + (j : Int)) (ap : Apart68 gs) :
    smallW a0 l1 gs = (selfL (a0.toNat + l1.length + gs.length + 1), gs) := by
  unfold smallW wasW
  rw [blank_len, again_run (F := 1 + a0 + (l1.length : Int)) ⟨by omega, by omega⟩ (by omega) hn ap (by omega) _ (Nat.le_refl _)]
  have e : a0.toNat + l1.length + gs.length + 1 - (1 + a0 + (l1.length : Int)).toNat = gs.length := by omega
  rw [e, List.take_length]
theorem map_self {k : Nat} (hk : k ≤ 100000) {l : List Int} (hl : InU32 l) (h : ∀ x ∈ l, x / 2 < (k : Int)) : l.map (litP (selfL k)) = l := by
  apply List.ext_getElem
  · rw [List.length_map]
  · intro i h1 h2
    rw [List.getElem_map]
    have := hl _ (List.getElem_mem h2)
    exact self_lit hk this.1 this.2 (h _ (List.getElem_mem h2))
theorem lat_self {k : Nat} (hk : k ≤ 100000) {l : List S41} (hl : In41 l) (h : ∀ g ∈ l, g.f0 / 2 < (k : Int)) : latM (selfL k) l = l := by
  unfold latM
  apply List.ext_getElem
  · rw [List.length_map]
  · intro i h1 h2
    rw [List.getElem_map]
    have := hl _ (List.getElem_mem h2)
    rw [self_lit hk this.1.1 this.1.2 (h _ (List.getElem_mem h2))]
end Go.Proofs.Yteiiodlgdbiimaa.F
end
section
namespace Go.Proofs.Yteiiodlgdbiimaa.F
open Go.RowKit Go.Shelf Go.ChangeMaps Go.MapKept Go.Proofs.YteiiodlgdbiimaaW.PrintWords Go.Proofs.YteiiodlgdbiimaaW.PrintLast Go.Proofs.YteiiodlgdbiimaaW.PrintMore
set_option linter.unusedVariables false
set_option linter.unusedSimpArgs false
def entT (gs : List S68) : List MapEntry := gs.zipIdx.map fun p => { key := keyG p.1.f0 p.1.f1, val := .int .i64 1, born := p.2 }
theorem entT_snoc (gs : List S68) (g : S68) : entT (gs ++ [g]) = entT gs ++ [{ key := keyG g.f0 g.f1, val := .int .i64 1, born := gs.length }] := by
  simp [entT, List.zipIdx_append]
theorem entT_len (gs : List S68) : (entT gs).length = gs.length := by simp [entT]
theorem entT_at {gs : List S68} {j : Nat} {e : MapEntry} (h : (entT gs)[j]? = some e) : ∃ g, gs[j]? = some g ∧ e = { key := keyG g.f0 g.f1, val := .int .i64 1, born := j } := by
  simp only [entT, List.getElem?_map, List.getElem?_zipIdx] at h
  cases hg : gs[j]? with
  | none => rw [hg] at h; cases h
  | some g =>
    rw [hg] at h
    simp only [Option.map_some, Nat.zero_add, Option.some.injEq] at h
    exact ⟨g, rfl, h.symm⟩
theorem zero3 (w : World) : (zeroValue 3).run Try.prog w = .ok (.int .i64 0) w := by kernel_rfl
section
variable {gs : List S68} {w : World} {mb : Nat} {a b : Int}
theorem keysT (hg : ∀ g ∈ gs, Gate32 g) : ∀ e ∈ entT gs, ∃ l, keyOf Try.prog 68 e.key = some l := by
  intro e he
  obtain ⟨j, hj⟩ := List.getElem?_of_mem he
  obtain ⟨g, h1, rfl⟩ := entT_at hj
  have := hg g (List.mem_of_getElem? h1)
  exact key_isG this.1 this.2
theorem findT_none (hg : ∀ g ∈ gs, Gate32 g) (ha : 0 ≤ a ∧ a < 4294967296) (hb : 0 ≤ b ∧ b < 4294967296) (hn : ∀ g ∈ gs, ¬ (g.f0 = a ∧ g.f1 = b)) (w : World) : (Instr.findKey 68 (keyG a b) (entT gs)).run Try.prog w = .ok none w := by
  obtain ⟨l, hl⟩ := key_isG ha hb
  rcases klaw68.find w hl (entT gs) (keysT hg) with ⟨h1, _⟩ | ⟨j, e, _, h2, h3⟩
  · exact h1
  · obtain ⟨g, hg1, rfl⟩ := entT_at h2
    obtain ⟨e1, e2⟩ := keyG_inj h3
    exact absurd ⟨e1, e2⟩ (hn g (List.mem_of_getElem? hg1))
theorem lookT_none (hm : w.heap[mb]? = some (.map (entT gs).toArray gs.length)) (hg : ∀ g ∈ gs, Gate32 g) (ha : 0 ≤ a ∧ a < 4294967296) (hb : 0 ≤ b ∧ b < 4294967296) (hn : ∀ g ∈ gs, ¬ (g.f0 = a ∧ g.f1 = b)) :
    (Instr.lookup 66 (.map (some mb)) (.agg #[.int .u32 a, .int .u32 b]) false).run Try.prog w = .ok (.int .i64 0) w := by
  obtain ⟨l, hl⟩ := key_isG ha hb
  have h1 := findT_none hg ha hb hn w
  unfold keyG at hl h1
  simp [Instr.lookup, run_underlying Try.underlying66, MapKept.run_getObj_map hm, klaw68.check w _ hl, h1, zero3, Result.andThen]
theorem mapT_entry (hm : w.heap[mb]? = some (.map (entT gs).toArray gs.length)) (hg : ∀ g ∈ gs, Gate32 g) (ha : 0 ≤ a ∧ a < 4294967296) (hb : 0 ≤ b ∧ b < 4294967296) (hn : ∀ g ∈ gs, ¬ (g.f0 = a ∧ g.f1 = b)) :
    (Instr.mapEntry 66 (.map (some mb)) (.agg #[.int .u32 a, .int .u32 b])).run Try.prog w = .ok (.tuple #[.int .i64 0, .int .i64 gs.length]) (setBlock w mb (.map ((entT gs).toArray.push ⟨keyG a b, .int .i64 0, gs.length⟩) (gs.length + 1))) := by
  obtain ⟨l, hl⟩ := key_isG ha hb
  have h1 := findT_none hg ha hb hn w
  unfold keyG at hl h1 ⊢
  simp [Instr.mapEntry, run_underlying Try.underlying66, MapKept.run_getObj_map hm, klaw68.check w false hl, h1, zero3, MapKept.run_setObj_map _ hm, Result.andThen, setBlock, goInt]
theorem mapT_store (v : Value) (hm : w.heap[mb]? = some (.map ((entT gs).toArray.push ⟨keyG a b, .int .i64 0, gs.length⟩) (gs.length + 1))) :
    (Instr.entryStore 66 (.map (some mb)) (.int .i64 gs.length) v).run Try.prog w = .ok () (setBlock w mb (.map ((entT gs).toArray.push ⟨keyG a b, v, gs.length⟩) (gs.length + 1))) := by
  have hidx : ((entT gs).toArray.push ⟨keyG a b, .int .i64 0, gs.length⟩).findIdx? (fun e => ((e.born : Nat) : Int) == ((gs.length : Nat) : Int)) = some gs.length := by
    rw [WideElems.findIdx_arr]
    refine WideElems.findIdx_born (e0 := ⟨keyG a b, .int .i64 0, gs.length⟩) ?_ ?_
    · have e : ((entT gs).toArray.push ⟨keyG a b, .int .i64 0, gs.length⟩).toList.map (·.born) = List.range (gs.length + 1) := by
        apply List.ext_getElem?
        intro i
        simp [entT, List.getElem?_append, List.getElem?_range, List.getElem?_zipIdx, List.range_succ]
        by_cases hi : i < gs.length
        · simp [hi]
        · simp [hi]
      rw [e]
      exact List.nodup_range
    · simp [entT_len]
  have hmod : ((entT gs).toArray.push ⟨keyG a b, .int .i64 0, gs.length⟩).modify gs.length (fun e => { e with val := v }) = (entT gs).toArray.push ⟨keyG a b, v, gs.length⟩ := by
    apply Array.ext'
    have := WideElems.modify_last (fun e : MapEntry => { e with val := v }) (⟨keyG a b, .int .i64 0, gs.length⟩ : MapEntry) (entT gs)
    rw [entT_len] at this
    rw [Array.toList_modify, Array.toList_push, Array.toList_push]
    simpa using this
  generalize (entT gs).toArray.push ⟨keyG a b, .int .i64 0, gs.length⟩ = es at hm hidx hmod
  generalize (entT gs).toArray.push ⟨keyG a b, v, gs.length⟩ = es' at hmod ⊢
  simp [Instr.entryStore, MapKept.run_getObj_map hm, asInt, asIntOf, hidx, hmod, MapKept.run_setObj_map _ hm, Result.andThen, setBlock]
end
end Go.Proofs.Yteiiodlgdbiimaa.F
end
