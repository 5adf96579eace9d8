/- What the proof of the law StrashRuns needs, part 6: the walks of the functions that it reaches, and the plain words on what these compute. -/
import Derived.Below
import Derived.ChangeOld
import Derived.ChangeSame
import Derived.Deep.Fields
import Derived.Deep.Slices
import Derived.Lib.SmallJoins
import Derived.OpenShut
import Derived.ProofKit
import Derived.SizedLaws
import Derived.WalkKit
import Derived.Test.YteiiodlgdbiimaaRe
section
namespace Go.Proofs.Yteiiodlgdbiimaa.F
open Go.Joins Go.ChangeShapes Go.WideShapes Go.ChangeAt Go.Deep Go.RowKit Go.Proofs.YteiiodlgdbiimaaW.PrintWords Go.Proofs.YteiiodlgdbiimaaW.PrintLast Go.Proofs.YteiiodlgdbiimaaW.PrintMore
set_option linter.unusedVariables false
set_option linter.unusedSimpArgs false
section
variable {H : Type} {enc : TypeId × Value → H} {w : World} {base : Nat} {spare : Nat → Bool} {held : Bool}
theorem open_pairs {t e : TypeId} {fs : Array Field} {fuel : Nat} {cs : List Value} {x : DataW H × List MemPlace} (ht : Try.prog.underlying t = some (.slice e)) (he : Try.prog.underlying e = some (.struct fs))
    (hone : oneCellFields Try.prog fs = true) (hC : Try.prog.cellsOf e = fs.size) (h : DataW.trod enc Try.prog w base spare held fuel t cs = some x) :
    (cs = [.slice none 0 0] ∧ x = (.nil, [])) ∨
    ∃ (a : Addr) (len cap m : Nat) (D : Nat → DataW H) (Pl : Nat → List MemPlace), cs = [.slice (some a) len cap] ∧ base ≤ a.block ∧ len ≤ cap ∧ cap ≤ maxLen ∧ m = (if spare a.block then cap else len) ∧
      x = (.slice ((List.range len).map D) ((List.range (m - len)).map fun j => D (len + j)), MemPlace.row a (m * fs.size) ++ (List.range m).flatMap Pl) ∧
      ∀ i, i < m → ∃ (ys : List (DataW H × List MemPlace)) (n : Nat), D i = .agg (ys.map (·.1)) ∧ Pl i = ys.flatMap (·.2) ∧ ys.length = fs.size ∧
        ∀ (j : Nat) (f : Field), fs[j]? = some f → ∃ (v : Value) (y : DataW H × List MemPlace), w.cell? (a.add (i * fs.size + j)) = some v ∧ ys[j]? = some y ∧ DataW.trod enc Try.prog w base spare held n f.type [v] = some y := by
  rcases open_slice ht h with h0 | ⟨a, len, cap, m, n, D, Pl, hcs, hb, hl, hm, hmm, hx, hi⟩
  · exact .inl h0
  · refine .inr ⟨a, len, cap, m, D, Pl, hcs, hb, hl, hm, hmm, by rw [hC] at hx; exact hx, fun i him => ?_⟩
    obtain ⟨cs', hc, ht'⟩ := hi i him
    rw [hC] at hc
    obtain ⟨ys, n', hn', hy, hlen, hyl, hf⟩ := DataW.trod_struct he ht'
    obtain ⟨_, hcl, hat⟩ := World.cells?_some hc
    simp only [Prod.mk.injEq] at hy
    refine ⟨ys, n', hy.1, hy.2, hyl, fun j f hj => ?_⟩
    obtain ⟨ho, hk⟩ := hone_of hone j f hj
    have hjl : j < fs.size := (Array.getElem?_eq_some_iff.1 hj).1
    have hcell := hat j hjl
    have hv : cs'[j]? = some (cs'[j]'(by omega)) := List.getElem?_eq_getElem (by omega)
    have h1 := hf j f hj
    rw [ho, hk] at h1
    have hone' : (cs'.drop j).take 1 = [cs'[j]'(by omega)] := by
      rw [List.drop_eq_getElem_cons (by omega)]
      rfl
    rw [hone'] at h1
    have hys : ys[j]? = some (ys[j]'(by omega)) := List.getElem?_eq_getElem (by omega)
    refine ⟨_, _, ?_, hys, h1.trans hys⟩
    rw [← Go.Deep.add_add, hcell, hv]
end
section
variable {H : Type} {enc : TypeId × Value → H} {w : World} {base : Nat} {spare : Nat → Bool} {held : Bool}
set_option maxRecDepth 100000 in
theorem open_six {r : Reach} {b0 : Nat} {t : TypeId} {f0 f1 f2 f3 f4 f5 : Field} {v : Value} {d : DataW H} {p : List MemPlace} (hs : Try.prog.underlying t = some (.struct #[f0, f1, f2, f3, f4, f5])) (hone : oneCellFields Try.prog #[f0, f1, f2, f3, f4, f5] = true) (hC : Try.prog.cellsOf t = 6)
    (hv : Value.okWide Try.prog w r b0 t v) (h : DataW.Trod enc Try.prog w base spare held t v d p) :
    ∃ (v0 v1 v2 v3 v4 v5 : Value) (y0 y1 y2 y3 y4 y5 : DataW H × List MemPlace) (n : Nat), v = .agg #[v0, v1, v2, v3, v4, v5] ∧ d = .agg [y0.1, y1.1, y2.1, y3.1, y4.1, y5.1] ∧ p = y0.2 ++ (y1.2 ++ (y2.2 ++ (y3.2 ++ (y4.2 ++ y5.2)))) ∧
      DataW.trod enc Try.prog w base spare held n f0.type [v0] = some y0 ∧ DataW.trod enc Try.prog w base spare held n f1.type [v1] = some y1 ∧ DataW.trod enc Try.prog w base spare held n f2.type [v2] = some y2 ∧ DataW.trod enc Try.prog w base spare held n f3.type [v3] = some y3 ∧ DataW.trod enc Try.prog w base spare held n f4.type [v4] = some y4 ∧ DataW.trod enc Try.prog w base spare held n f5.type [v5] = some y5 := by
  obtain ⟨cs, rfl, hsz⟩ := okWide_struct hs hv
  obtain ⟨l⟩ := cs
  match l, hsz.trans hC with
  | [c0, c1, c2, c3, c4, c5], _ =>
    obtain ⟨fuel, hf⟩ := h
    obtain ⟨xs, n, _, hx, _, hlen, hg⟩ := DataW.trod_struct hs hf
    obtain ⟨o0, k0⟩ := hone_of hone 0 f0 rfl
    obtain ⟨o1, k1⟩ := hone_of hone 1 f1 rfl
    obtain ⟨o2, k2⟩ := hone_of hone 2 f2 rfl
    obtain ⟨o3, k3⟩ := hone_of hone 3 f3 rfl
    obtain ⟨o4, k4⟩ := hone_of hone 4 f4 rfl
    obtain ⟨o5, k5⟩ := hone_of hone 5 f5 rfl
    match xs, hlen with
    | [y0, y1, y2, y3, y4, y5], _ =>
      simp only [Prod.mk.injEq] at hx
      exact ⟨c0, c1, c2, c3, c4, c5, y0, y1, y2, y3, y4, y5, n, rfl, by simpa using hx.1, by simpa using hx.2, by simpa [Value.cells, o0, k0] using hg 0 f0 rfl, by simpa [Value.cells, o1, k1] using hg 1 f1 rfl, by simpa [Value.cells, o2, k2] using hg 2 f2 rfl, by simpa [Value.cells, o3, k3] using hg 3 f3 rfl, by simpa [Value.cells, o4, k4] using hg 4 f4 rfl, by simpa [Value.cells, o5, k5] using hg 5 f5 rfl⟩
end
theorem list_of {α : Type} (Q : Nat → α → Prop) : ∀ n : Nat, (∀ i, i < n → ∃ g, Q i g) → ∃ l : List α, l.length = n ∧ ∀ i g, l[i]? = some g → Q i g
  | 0, _ => ⟨[], rfl, fun i g h => by simp at h⟩
  | n + 1, h => by
    obtain ⟨l, hl, hq⟩ := list_of Q n (fun i hi => h i (by omega))
    obtain ⟨g, hg⟩ := h n (by omega)
    refine ⟨l ++ [g], by simp [hl], fun i x hx => ?_⟩
    by_cases hi : i < n
    · rw [List.getElem?_append_left (by omega)] at hx
      exact hq i x hx
    · have hi2 : i = n := by
        have := (List.getElem?_eq_some_iff.1 hx).1
        simp only [List.length_append, List.length_singleton, hl] at this
        omega
      subst hi2
      rw [List.getElem?_append_right (by omega), hl] at hx
      simp at hx
      rw [← hx]
      exact hg
theorem wf_u32 {x : Int} (h : (Lit.int .u32 x).wf = true) : 0 ≤ x ∧ x < 4294967296 := by
  simp only [Lit.wf, Bool.and_eq_true, decide_eq_true_eq] at h
  rw [show IntKind.u32.min = 0 from by decide, show IntKind.u32.max = 4294967295 from by decide] at h
  omega
theorem wf_u8 {x : Int} (h : (Lit.int .u8 x).wf = true) : 0 ≤ x ∧ x < 256 := by
  simp only [Lit.wf, Bool.and_eq_true, decide_eq_true_eq] at h
  rw [show IntKind.u8.min = 0 from by decide, show IntKind.u8.max = 255 from by decide] at h
  omega
theorem wf_i64 {x : Int} (h : (Lit.int .i64 x).wf = true) : -9223372036854775808 ≤ x ∧ x < 9223372036854775808 := by
  simp only [Lit.wf, Bool.and_eq_true, decide_eq_true_eq] at h
  rw [show IntKind.i64.min = -9223372036854775808 from by decide, show IntKind.i64.max = 9223372036854775807 from by decide] at h
  omega
theorem open41 {H : Type} {enc : TypeId × Value → H} {w : World} {base : Nat} {sp : Nat → Bool} {held : Bool} {fuel : Nat} {v : Value} {x : DataW H × List MemPlace} (h : DataW.trod enc Try.prog w base sp held fuel 22 [v] = some x) :
    ∃ (A : Option Addr) (c : Nat) (l : List S41), v = .slice A l.length c ∧ l.length ≤ c ∧ Kd.C k41 w A l.length l ∧ ∀ g ∈ l, (0 ≤ g.f0 ∧ g.f0 < 4294967296) ∧ (0 ≤ g.f1 ∧ g.f1 < 256) := by
  rcases open_pairs Try.underlying22 Try.underlying41 (by kernel_rfl) (by kernel_rfl) h with ⟨hcs, _⟩ | ⟨a, len, cap, m, D, Pl, hcs, hb, hl, hm, hmm, _, hi⟩
  · injection hcs with e1 _
    exact ⟨none, 0, [], e1, Nat.le_refl _, ⟨rfl, by simp, fun h => absurd h (by simp)⟩, fun g hg => by cases hg⟩
  · injection hcs with e1 _
    have hlm : len ≤ m := by rw [hmm]; split <;> omega
    obtain ⟨l, hll, hq⟩ := list_of (fun i (g : S41) => (w.cell? (a.add (i * 2 + 0)) = some (.int .u32 g.f0) ∧ w.cell? (a.add (i * 2 + 1)) = some (.int .u8 g.f1)) ∧ (0 ≤ g.f0 ∧ g.f0 < 4294967296) ∧ (0 ≤ g.f1 ∧ g.f1 < 256)) len (fun i hlt => by
      obtain ⟨ys, n, _, _, _, hf⟩ := hi i (by omega)
      obtain ⟨v0, y0, c0, _, t0⟩ := hf 0 _ rfl
      obtain ⟨v1, y1, c1, _, t1⟩ := hf 1 _ rfl
      obtain ⟨n0, e0, _, w0⟩ := DataW.trod_int Try.underlying39 t0
      obtain ⟨n1, e1', _, w1⟩ := DataW.trod_int Try.underlying5 t1
      injection e0 with e0 _
      injection e1' with e1' _
      subst e0
      subst e1'
      exact ⟨⟨n0, n1⟩, ⟨c0, c1⟩, wf_u32 w0, wf_u8 w1⟩)
    refine ⟨some a, cap, l, by rw [hll]; exact e1, by omega, ⟨rfl, by simp only [maxLen] at hm; omega, fun _ => ⟨a, rfl, fun j p hj => ⟨[.int .u32 p.f0, .int .u8 p.f1], rfl, k41_mk w p, fun i u hu => ?_⟩⟩⟩, fun g hg => ?_⟩
    · obtain ⟨⟨q0, q1⟩, _⟩ := hq j p hj
      cases i with
      | zero =>
        cases hu
        exact q0
      | succ i =>
        cases i with
        | zero =>
          cases hu
          exact q1
        | succ i => simp at hu
    · obtain ⟨j, hj, rfl⟩ := List.mem_iff_getElem.1 hg
      exact (hq j _ (List.getElem?_eq_getElem hj)).2
theorem open68 {H : Type} {enc : TypeId × Value → H} {w : World} {base : Nat} {sp : Nat → Bool} {held : Bool} {fuel : Nat} {v : Value} {x : DataW H × List MemPlace} (h : DataW.trod enc Try.prog w base sp held fuel 23 [v] = some x) :
    ∃ (A : Option Addr) (c : Nat) (l : List S68), v = .slice A l.length c ∧ l.length ≤ c ∧ Kd.C k68 w A l.length l ∧ ∀ g ∈ l, (0 ≤ g.f0 ∧ g.f0 < 4294967296) ∧ (0 ≤ g.f1 ∧ g.f1 < 4294967296) := by
  rcases open_pairs Try.underlying23 Try.underlying68 (by kernel_rfl) (by kernel_rfl) h with ⟨hcs, _⟩ | ⟨a, len, cap, m, D, Pl, hcs, hb, hl, hm, hmm, _, hi⟩
  · injection hcs with e1 _
    exact ⟨none, 0, [], e1, Nat.le_refl _, ⟨rfl, by simp, fun h => absurd h (by simp)⟩, fun g hg => by cases hg⟩
  · injection hcs with e1 _
    have hlm : len ≤ m := by rw [hmm]; split <;> omega
    obtain ⟨l, hll, hq⟩ := list_of (fun i (g : S68) => (w.cell? (a.add (i * 2 + 0)) = some (.int .u32 g.f0) ∧ w.cell? (a.add (i * 2 + 1)) = some (.int .u32 g.f1)) ∧ (0 ≤ g.f0 ∧ g.f0 < 4294967296) ∧ (0 ≤ g.f1 ∧ g.f1 < 4294967296)) len (fun i hlt => by
      obtain ⟨ys, n, _, _, _, hf⟩ := hi i (by omega)
      obtain ⟨v0, y0, c0, _, t0⟩ := hf 0 _ rfl
      obtain ⟨v1, y1, c1, _, t1⟩ := hf 1 _ rfl
      obtain ⟨n0, e0, _, w0⟩ := DataW.trod_int Try.underlying39 t0
      obtain ⟨n1, e1', _, w1⟩ := DataW.trod_int Try.underlying39 t1
      injection e0 with e0 _
      injection e1' with e1' _
      subst e0
      subst e1'
      exact ⟨⟨n0, n1⟩, ⟨c0, c1⟩, wf_u32 w0, wf_u32 w1⟩)
    refine ⟨some a, cap, l, by rw [hll]; exact e1, by omega, ⟨rfl, by simp only [maxLen] at hm; omega, fun _ => ⟨a, rfl, fun j p hj => ⟨[.int .u32 p.f0, .int .u32 p.f1], rfl, k68_mk w p, fun i u hu => ?_⟩⟩⟩, fun g hg => ?_⟩
    · obtain ⟨⟨q0, q1⟩, _⟩ := hq j p hj
      cases i with
      | zero =>
        cases hu
        exact q0
      | succ i =>
        cases i with
        | zero =>
          cases hu
          exact q1
        | succ i => simp at hu
    · obtain ⟨j, hj, rfl⟩ := List.mem_iff_getElem.1 hg
      exact (hq j _ (List.getElem?_eq_getElem hj)).2
theorem openU {H : Type} {enc : TypeId × Value → H} {w : World} {base : Nat} {sp : Nat → Bool} {held : Bool} {fuel : Nat} {v : Value} {x : DataW H × List MemPlace} (h : DataW.trod enc Try.prog w base sp held fuel 24 [v] = some x) :
    ∃ (A : Option Addr) (c : Nat) (l : List Int), v = .slice A l.length c ∧ l.length ≤ c ∧ Kd.C (Kd.int .u32) w A l.length l ∧ ∀ g ∈ l, 0 ≤ g ∧ g < 4294967296 := by
  rcases open_ints Try.underlying24 Try.underlying39 (by kernel_rfl) h with ⟨hcs, _⟩ | ⟨a, len, cap, zs, hcs, _, hl, hm, hz, _, hcell, hwz⟩
  · injection hcs with e1 _
    exact ⟨none, 0, [], e1, Nat.le_refl _, ⟨rfl, by simp, fun h => absurd h (by simp)⟩, fun g hg => by cases hg⟩
  · injection hcs with e1 _
    have hlz : len ≤ zs.length := by rw [hz]; split <;> omega
    have hlen : (zs.take len).length = len := by rw [List.length_take]; omega
    refine ⟨some a, cap, zs.take len, by rw [hlen]; exact e1, by omega, ⟨rfl, by simp only [maxLen] at hm; omega, fun _ => ⟨a, rfl, fun j p hj => ⟨[.int .u32 p], rfl, rfl, fun i u hu => ?_⟩⟩⟩, fun g hg => wf_u32 (hwz g (List.mem_of_mem_take hg))⟩
    cases i with
    | zero =>
      cases hu
      obtain ⟨hj1, hj2⟩ := List.getElem?_eq_some_iff.1 hj
      have hj3 : j < zs.length := by omega
      have := hcell j hj3
      rw [List.getD_eq_getElem?_getD, List.getElem?_eq_getElem hj3, Option.getD_some] at this
      rw [List.getElem_take] at hj2
      rw [hj2] at this
      show w.cell? (a.add (j * 1 + 0)) = _
      rw [Nat.mul_one, Nat.add_zero]
      exact this
    | succ i => simp at hu
theorem openB {H : Type} {enc : TypeId × Value → H} {w : World} {base : Nat} {sp : Nat → Bool} {held : Bool} {fuel : Nat} {v : Value} {x : DataW H × List MemPlace} (h : DataW.trod enc Try.prog w base sp held fuel 28 [v] = some x) :
    ∃ (A : Option Addr) (c : Nat) (l : List Int), v = .slice A l.length c ∧ l.length ≤ c ∧ Kd.C (Kd.int .u8) w A l.length l ∧ ∀ g ∈ l, 0 ≤ g ∧ g < 256 := by
  rcases open_ints Try.underlying28 Try.underlying5 (by kernel_rfl) h with ⟨hcs, _⟩ | ⟨a, len, cap, zs, hcs, _, hl, hm, hz, _, hcell, hwz⟩
  · injection hcs with e1 _
    exact ⟨none, 0, [], e1, Nat.le_refl _, ⟨rfl, by simp, fun h => absurd h (by simp)⟩, fun g hg => by cases hg⟩
  · injection hcs with e1 _
    have hlz : len ≤ zs.length := by rw [hz]; split <;> omega
    have hlen : (zs.take len).length = len := by rw [List.length_take]; omega
    refine ⟨some a, cap, zs.take len, by rw [hlen]; exact e1, by omega, ⟨rfl, by simp only [maxLen] at hm; omega, fun _ => ⟨a, rfl, fun j p hj => ⟨[.int .u8 p], rfl, rfl, fun i u hu => ?_⟩⟩⟩, fun g hg => wf_u8 (hwz g (List.mem_of_mem_take hg))⟩
    cases i with
    | zero =>
      cases hu
      obtain ⟨hj1, hj2⟩ := List.getElem?_eq_some_iff.1 hj
      have hj3 : j < zs.length := by omega
      have := hcell j hj3
      rw [List.getD_eq_getElem?_getD, List.getElem?_eq_getElem hj3, Option.getD_some] at this
      rw [List.getElem_take] at hj2
      rw [hj2] at this
      show w.cell? (a.add (j * 1 + 0)) = _
      rw [Nat.mul_one, Nat.add_zero]
      exact this
    | succ i => simp at hu
def InU32 (l : List Int) : Prop := ∀ g ∈ l, 0 ≤ g ∧ g < 4294967296
def InU8 (l : List Int) : Prop := ∀ g ∈ l, 0 ≤ g ∧ g < 256
def In41 (l : List S41) : Prop := ∀ g ∈ l, (0 ≤ g.f0 ∧ g.f0 < 4294967296) ∧ (0 ≤ g.f1 ∧ g.f1 < 256)
def In68 (l : List S68) : Prop := ∀ g ∈ l, (0 ≤ g.f0 ∧ g.f0 < 4294967296) ∧ (0 ≤ g.f1 ∧ g.f1 < 4294967296)
set_option maxRecDepth 100000 in
theorem openCirc {H : Type} {enc : TypeId × Value → H} {w : World} {base : Nat} {sp : Nat → Bool} {held : Bool} {r : Reach} {b0 : Nat} {v : Value} {d : DataW H} {p : List MemPlace} (hv : Value.okWide Try.prog w r b0 26 v) (h : DataW.Trod enc Try.prog w base sp held 26 v d p) :
    ∃ (a0 : Int) (A1 : Option Addr) (c1 : Nat) (l1 : List S41) (A2 : Option Addr) (c2 : Nat) (l2 : List S68) (A3 : Option Addr) (c3 : Nat) (l3 : List Int) (A4 : Option Addr) (c4 : Nat) (l4 : List Int) (A5 : Option Addr) (c5 : Nat) (l5 : List Int),
      v = .agg #[.int .i64 a0, .slice A1 l1.length c1, .slice A2 l2.length c2, .slice A3 l3.length c3, .slice A4 l4.length c4, .slice A5 l5.length c5] ∧
      (-9223372036854775808 ≤ a0 ∧ a0 < 9223372036854775808) ∧ (l1.length ≤ c1 ∧ Kd.C k41 w A1 l1.length l1 ∧ In41 l1) ∧ (l2.length ≤ c2 ∧ Kd.C k68 w A2 l2.length l2 ∧ In68 l2) ∧
      (l3.length ≤ c3 ∧ Kd.C (Kd.int .u32) w A3 l3.length l3 ∧ InU32 l3) ∧ (l4.length ≤ c4 ∧ Kd.C (Kd.int .u32) w A4 l4.length l4 ∧ InU32 l4) ∧ (l5.length ≤ c5 ∧ Kd.C (Kd.int .u32) w A5 l5.length l5 ∧ InU32 l5) := by
  obtain ⟨v0, v1, v2, v3, v4, v5, y0, y1, y2, y3, y4, y5, n, rfl, _, _, t0, t1, t2, t3, t4, t5⟩ := open_six Try.underlying26 (by kernel_rfl) (by kernel_rfl) hv h
  obtain ⟨a0, e0, _, w0⟩ := DataW.trod_int Try.underlying3 t0
  injection e0 with e0 _
  subst e0
  obtain ⟨A1, c1, l1, rfl, h1, k1, i1⟩ := open41 t1
  obtain ⟨A2, c2, l2, rfl, h2, k2, i2⟩ := open68 t2
  obtain ⟨A3, c3, l3, rfl, h3, k3, i3⟩ := openU t3
  obtain ⟨A4, c4, l4, rfl, h4, k4, i4⟩ := openU t4
  obtain ⟨A5, c5, l5, rfl, h5, k5, i5⟩ := openU t5
  exact ⟨a0, A1, c1, l1, A2, c2, l2, A3, c3, l3, A4, c4, l4, A5, c5, l5, rfl, wf_i64 w0, ⟨h1, k1, i1⟩, ⟨h2, k2, i2⟩, ⟨h3, k3, i3⟩, ⟨h4, k4, i4⟩, ⟨h5, k5, i5⟩⟩
end Go.Proofs.Yteiiodlgdbiimaa.F
end
section
namespace Go.Proofs.Yteiiodlgdbiimaa.F
open Go.RowKit Go.Shelf Go.Proofs.YteiiodlgdbiimaaW.PrintWords Go.Proofs.YteiiodlgdbiimaaW.PrintLast Go.Proofs.YteiiodlgdbiimaaW.PrintMore
set_option linter.unusedVariables false
set_option linter.unusedSimpArgs false
theorem Ev.ifp {α : Type} {c : Prop} [Decidable c] {g f : Nat → Option α} {r : α} (hc : c) (h : Ev g r) : Ev (fun k => if c then g k else f k) r := Ev.congr (fun k => if_pos hc) h
theorem Ev.ifn {α : Type} {c : Prop} [Decidable c] {g f : Nat → Option α} {r : α} (hc : ¬ c) (h : Ev f r) : Ev (fun k => if c then g k else f k) r := Ev.congr (fun k => if_neg hc) h
theorem Ev.bound {α β : Type} {o : Option α} {a : α} {f : Nat → α → Option β} {r : β} (h : o = some a) (k : Ev (fun n => f n a) r) : Ev (fun n => o.bind (f n)) r := Ev.congr (fun n => by rw [h]; rfl) k
theorem half_u32 {x : Int} (h0 : 0 ≤ x) (h1 : x < 4294967296) : (Int.tdiv x 2) % 4294967296 = x / 2 := by
  rw [Int.tdiv_eq_ediv_of_nonneg h0]
  omega
theorem wrap_nat {i : Nat} (h : i < 1000000000) : wrap64 ((i : Int) + 1) = ((i + 1 : Nat) : Int) := by
  have e : ((i + 1 : Nat) : Int) = (i : Int) + 1 := by push_cast; rfl
  rw [e]
  exact wrap64_id (by omega) (by omega)
theorem rd_at {l : List Int} {i : Nat} (h : i < l.length) : rd l (i : Int) = l[i] := by simp [rd, List.getD_eq_getElem?_getD, List.getElem?_eq_getElem h]
theorem rd41_at {l : List S41} {i : Nat} (h : i < l.length) : rd_T41 l (i : Int) = l[i] := by simp [rd_T41, List.getD_eq_getElem?_getD, List.getElem?_eq_getElem h]
theorem rd68_at {l : List S68} {i : Nat} (h : i < l.length) : rd_T68 l (i : Int) = l[i] := by simp [rd_T68, List.getD_eq_getElem?_getD, List.getElem?_eq_getElem h]
section
variable {a0 : Int} {l1 : List S41} {l2 : List S68} {l3 l4 l5 : List Int}
theorem okIn_of (h1 : In41 l1) (h2 : In68 l2) (n1 : l1.length ≤ 1099511627776) (n2 : l2.length ≤ 1099511627776) : okIn l1 l2 = true := by
  simp only [okIn, u32s, Bool.and_eq_true, decide_eq_true_eq, List.all_eq_true, List.mem_map]
  refine ⟨⟨⟨⟨n1, n2⟩, ?_⟩, ?_⟩, ?_⟩
  · rintro x ⟨g, hg, rfl⟩
    exact (h1 g hg).1
  · rintro x ⟨g, hg, rfl⟩
    exact (h2 g hg).1
  · rintro x ⟨g, hg, rfl⟩
    exact (h2 g hg).2
theorem u32s_of {l : List Int} (h : InU32 l) : u32s l = true := by
  simp only [u32s, Bool.and_eq_true, decide_eq_true_eq, List.all_eq_true]
  exact h
end
end Go.Proofs.Yteiiodlgdbiimaa.F
end
section
namespace Go.Proofs.Yteiiodlgdbiimaa.F
open Go.RowKit Go.Proofs.YteiiodlgdbiimaaW.PrintWords Go.Proofs.YteiiodlgdbiimaaW.PrintLast Go.Proofs.YteiiodlgdbiimaaW.PrintMore
attribute [local go_sem] max2_int min2_int max_two min_two max_three min_three max_four min_four
set_option linter.unusedVariables false
set_option linter.unusedSimpArgs false
def strash_Lit.f (l0 : List Int) (a1 : Int) : Option (Int) := if (wrap64 (a1 / 2)) < (l0.length : Int) then (if 0 ≤ (a1 / 2) then (if (a1 / 2) < (l0.length : Int) then (some (Go.bits .xor .u32 (rd l0 (a1 / 2)) (Go.bits .and .u32 a1 1))) else (none)) else (none)) else (some 0)
set_option maxHeartbeats 8000000 in
set_option maxRecDepth 100000 in
theorem strash_Lit.calls (A0 : Option Addr) (c0 : Nat) (l0 : List Int) (a1 : Int) (r : Int) (w : World) (hr0 : Kd.C (Kd.int .u32) w A0 l0.length l0) (hc0 : l0.length ≤ c0) (h : strash_Lit.f l0 a1 = some r) :
    Calls Try.prog 45 #[.slice A0 l0.length c0, .int .u32 a1] w fun e w' => e = .returned (.int .u32 r) ∧ Drawn0 w w' := by
  have HR0 := Aside0.mk hr0
  have HC0 := Aside0.mk hc0
  clear hr0 hc0
  have H : (if (wrap64 (a1 / 2)) < (l0.length : Int) then (if 0 ≤ (a1 / 2) then (if (a1 / 2) < (l0.length : Int) then (some (Go.bits .xor .u32 (rd l0 (a1 / 2)) (Go.bits .and .u32 a1 1))) else (none)) else (none)) else (some 0)) = some r := h
  clear h
  by_cases c3 : (wrap64 (a1 / 2)) < (l0.length : Int)
  · rw [if_pos c3] at H
    have c3b0 : decide ((wrap64 (a1 / 2)) < (l0.length : Int)) = true := decide_eq_true c3
    clear c3
    obtain ⟨ji4, hji4⟩ : ∃ j_ : Int, (a1 / 2) = j_ := ⟨_, rfl⟩
    replace H : (if 0 ≤ (ji4) then (if (ji4) < (l0.length : Int) then (some (Go.bits .xor .u32 (rd l0 (ji4)) (Go.bits .and .u32 a1 1))) else (none)) else (none)) = some r := by first | (rw [hji4] at H; exact H) | (simp only [hji4] at H ⊢; exact H)
    (try rw [hji4] at c3b0)
    by_cases c5 : 0 ≤ (ji4)
    · rw [if_pos c5] at H
      have c5b0 : decide (0 ≤ (ji4)) = true := decide_eq_true c5
      clear c5
      by_cases c6 : (ji4) < (l0.length : Int)
      · rw [if_pos c6] at H
        have c6b0 : decide ((ji4) < (l0.length : Int)) = true := decide_eq_true c6
        clear c6
        obtain rfl := Option.some.inj H
        have p304 : 0 ≤ ((ji4) : Int) := of_decide_eq_true (by first | (with_reducible assumption) | assumption)
        have q304 : (ji4) < (l0.length : Int) := of_decide_eq_true (by first | (with_reducible assumption) | assumption)
        obtain ⟨ad304, e304, hx304_0⟩ := Kd.at_int HR0.out (ji4) p304 q304
        cases e304
        replace p304 := eq_true p304
        replace q304 := eq_true q304
        go_enter Try.func45, Try.ntmps45
        go_wp2
        go_ret
        exact ⟨by first | rfl | (simp; done) | (simp only [← hji4] <;> (first | rfl | simp)) | (simp [*]; done), by repeat (first | exact Drawn0.refl _ | apply Drawn0.step)⟩
      · rw [if_neg c6] at H
        exact absurd H (by simp)
    · rw [if_neg c5] at H
      exact absurd H (by simp)
  · rw [if_neg c3] at H
    have c3b0 : decide ((wrap64 (a1 / 2)) < (l0.length : Int)) = false := decide_eq_false c3
    clear c3
    obtain rfl := Option.some.inj H
    go_enter Try.func45, Try.ntmps45
    go_wp2
    go_ret
    exact ⟨by first | rfl | (simp; done) | (simp [*]; done), by repeat (first | exact Drawn0.refl _ | apply Drawn0.step)⟩
end Go.Proofs.Yteiiodlgdbiimaa.F
end
section
namespace Go.Proofs.Yteiiodlgdbiimaa.F
open Go.RowKit Go.Shelf Go.Proofs.YteiiodlgdbiimaaW.PrintWords Go.Proofs.YteiiodlgdbiimaaW.PrintLast Go.Proofs.YteiiodlgdbiimaaW.PrintMore
set_option linter.unusedVariables false
set_option linter.unusedSimpArgs false
theorem u32_nat {x : Int} (h0 : 0 ≤ x) (h1 : x < 4294967296) : ∃ n : Nat, x = (n : Int) ∧ n < 2 ^ 32 := by
  obtain ⟨n, rfl⟩ := Int.eq_ofNat_of_zero_le h0
  exact ⟨n, rfl, by omega⟩
theorem xor_one {x : Int} (h0 : 0 ≤ x) (h1 : x < 4294967296) : Go.bits .xor .u32 x 1 = 2 * (x / 2) + (x + 1) % 2 := by
  obtain ⟨n, rfl, hn⟩ := u32_nat h0 h1
  have e : Go.bits .xor .u32 (n : Int) 1 = IntKind.u32.wrap ((n ^^^ 1 : Nat) : Int) := by
    have h32 : IntKind.u32.bits = 32 := rfl
    simp only [Go.bits, h32]
    have h1' : (1 : Int) = ((1 : Nat) : Int) := rfl
    rw [h1', BitVec.ofInt_natCast, BitVec.ofInt_natCast, BitVec.toNat_xor, BitVec.toNat_ofNat, BitVec.toNat_ofNat, h32, Nat.mod_eq_of_lt hn]
  have hd : (n ^^^ 1) / 2 = n / 2 := by rw [Nat.xor_div_two]; simp
  have hm : (n ^^^ 1) % 2 = (n + 1) % 2 := by
    have ht := Nat.testBit_xor n 1 0
    simp only [Nat.testBit_zero] at ht
    rw [show decide True = true from rfl] at ht
    by_cases hc : n % 2 = 1
    · rw [decide_eq_true hc] at ht
      have := of_decide_eq_false (show decide ((n ^^^ 1) % 2 = 1) = false from ht)
      omega
    · rw [decide_eq_false hc] at ht
      have := of_decide_eq_true (show decide ((n ^^^ 1) % 2 = 1) = true from ht)
      omega
  rw [e, u32_id (by omega) (by omega)]
  omega
theorem xor_zero32 {x : Int} (h0 : 0 ≤ x) (h1 : x < 4294967296) : Go.bits .xor .u32 x 0 = x := by
  obtain ⟨n, rfl, hn⟩ := u32_nat h0 h1
  have e : Go.bits .xor .u32 (n : Int) 0 = IntKind.u32.wrap ((n ^^^ 0 : Nat) : Int) := by
    have h32 : IntKind.u32.bits = 32 := rfl
    simp only [Go.bits, h32]
    have h1' : (0 : Int) = ((0 : Nat) : Int) := rfl
    rw [h1', BitVec.ofInt_natCast, BitVec.ofInt_natCast, BitVec.toNat_xor, BitVec.toNat_ofNat, BitVec.toNat_ofNat, h32, Nat.mod_eq_of_lt hn]
  rw [e, Nat.xor_zero, u32_id (by omega) (by omega)]
theorem and_one {x : Int} (h0 : 0 ≤ x) (h1 : x < 4294967296) : Go.bits .and .u32 x 1 = x % 2 := by
  obtain ⟨n, rfl, hn⟩ := u32_nat h0 h1
  have e : Go.bits .and .u32 (n : Int) 1 = IntKind.u32.wrap ((n &&& 1 : Nat) : Int) := by
    have h32 : IntKind.u32.bits = 32 := rfl
    simp only [Go.bits, h32]
    have h1' : (1 : Int) = ((1 : Nat) : Int) := rfl
    rw [h1', BitVec.ofInt_natCast, BitVec.ofInt_natCast, BitVec.toNat_and, BitVec.toNat_ofNat, BitVec.toNat_ofNat, h32, Nat.mod_eq_of_lt hn]
  rw [e, Nat.and_one_is_mod, u32_id (by omega) (by omega)]
  omega
theorem xinfoU' : (Try.prog.info? 39).map (fun i => (i.zero, i.size, i.bytes)) = some (some (.int .u32 0), 1, 4) := by kernel_rfl
theorem take_next {α : Type} {l : List α} {k : Nat} (h : k < l.length) : l.take (k + 1) = l.take k ++ [l[k]] := by
  rw [List.take_add_one, List.getElem?_eq_getElem h]
  rfl
def litP (tl : List Int) (x : Int) : Int := if x / 2 < (tl.length : Int) then Go.bits .xor .u32 (rd tl (x / 2)) (Go.bits .and .u32 x 1) else 0
theorem lit_is {tl : List Int} {x : Int} (h0 : 0 ≤ x) (h1 : x < 4294967296) : strash_Lit.f tl x = some (litP tl x) := by
  unfold strash_Lit.f litP
  rw [wrap64_id (by omega) (by omega)]
  split
  · rename_i h
    have h2 : 0 ≤ x / 2 := by omega
    simp only [h, h2, if_true]
  · rfl
theorem rd_u32 {tl : List Int} (ht : InU32 tl) (i : Int) : 0 ≤ rd tl i ∧ rd tl i < 4294967296 := by
  unfold rd
  rw [List.getD_eq_getElem?_getD]
  cases h : tl[i.toNat]? with
  | none => simp
  | some v => exact ht v (List.mem_of_getElem? h)
theorem litP_u32 {tl : List Int} (ht : InU32 tl) {x : Int} (h0 : 0 ≤ x) (h1 : x < 4294967296) : 0 ≤ litP tl x ∧ litP tl x < 4294967296 := by
  unfold litP
  have hr := rd_u32 ht (x / 2)
  split
  · rw [and_one h0 h1]
    rcases (show x % 2 = 0 ∨ x % 2 = 1 by omega) with e | e
    · rw [e, xor_zero32 hr.1 hr.2]
      exact hr
    · rw [e, xor_one hr.1 hr.2]
      omega
  · omega
set_option maxHeartbeats 4000000 in
set_option maxRecDepth 100000 in
theorem lits104 (tl : List Int) (At : Option Addr) (ct g5 : Nat) (l : List Int) (A : Option Addr) (c : Nat) (w : World) (hl : Kd.C (Kd.int .u32) w A l.length l) (hu : InU32 l) (hn : l.length ≤ 5000) (hto : Kd.C (Kd.int .u32) w At tl.length tl) (hct : tl.length ≤ ct)
    (hb : w.heap[g5]? = some (.cells #[.slice At tl.length ct] 24 (0, 0))) :
    Calls Try.prog 104 #[.slice A l.length c, .pointer (some ⟨g5, 0, none⟩)] w fun e w' => ∃ v : Value, e = .returned v ∧ Kd.R (Kd.int .u32) 39 w' w.heap.size (fun _ => True) v (l.map (litP tl)) ∧ Below w.heap.size w w' := by
  have HL := Aside0.mk hl
  have HU := Aside0.mk hu
  have HN := Aside0.mk hn
  have HT := Aside0.mk hto
  have HB5 := Aside0.mk hb
  clear hl hu hn hto hb
  go_enter Try.func104, Try.ntmps104
  go_wp2
  go_loopg [3, 8] l.length (fun gg v3 v8 wr => ∃ (k : Nat) (ys : List Int), l.length - k ≤ gg ∧ v8 = .int .i64 k ∧ Aside0 (k ≤ l.length) ∧ Aside0 (ys = (l.take k).map (litP tl)) ∧ Aside0 (Below w.heap.size w wr) ∧ Aside0 (Kd.R (Kd.int .u32) 39 wr w.heap.size (fun _ => True) v3 ys))
  case atStart => exact ⟨0, [], by omega, rfl, ⟨Nat.zero_le _⟩, ⟨rfl⟩, ⟨Below.refl _ _⟩, ⟨Kd.R_nil _ _ _ _ _⟩⟩
  case round =>
    obtain ⟨k, ys, hg, rfl, HKP, HY, HBL, HR⟩ := hrel
    have hln := HN.out
    by_cases hlt : k < l.length
    · have hltz : (k : Int) < (l.length : Int) := by omega
      obtain ⟨ad, e, xq⟩ := Kd.at_int (Kd.C_below HL.out HBL.out) (k : Int) (by omega) hltz
      cases e
      have ek : (k : Int).toNat = k := by omega
      rw [ek] at xq
      clear ek
      have hx : 0 ≤ rd l (k : Int) ∧ rd l (k : Int) < 4294967296 := rd_u32 HU.out _
      have E : Aside0 (ys ++ [litP tl (rd l (k : Int))] = (l.take (k + 1)).map (litP tl)) := ⟨by rw [HY.out, take_next hlt, List.map_append, rd_at hlt]; rfl⟩
      have HYL := Aside0.mk (show ys.length ≤ 5000 from by rw [HY.out]; simp; omega)
      generalize rd l (k : Int) = x at xq hx E
      have HX := Aside0.mk hx
      have z5 : wr.cell? ⟨g5, 0, none⟩ = some (.slice At tl.length ct) := (blk_cell (blk_below HB5.out HBL.out) 0).trans rfl
      obtain ⟨A3, c3, rfl⟩ := Kd.R_slice HR.out
      clear hx HY
      go_wp2_with (first | (go_at_call 45; refine (strash_Lit.calls At ct tl x (litP tl x) _ (Kd.C_below HT.out HBL.out) hct (lit_is HX.out.1 HX.out.2)).mono ?_; rintro e w2 ⟨rfl, hd⟩; have HD := Aside0.mk (below_step HBL.out hd.below); have HRD := Aside0.mk (Kd.R_below HR.out hd.below); clear hd z5 xq) | ((with_reducible refine gate_builtin (b := .append) (xs := #[.tmp 12, .tmp 16]) rfl ?_); at_builtin; refine Kd.R_append (Kd.int .u32) (w0 := w) w.heap.size rfl (.tmp 12) (.tmp 16) 24 39 (.int .u32 0) 4 rfl Try.underlying24 xinfoU' rfl (by decide) (by omega) (.slice A3 ys.length c3) ys (litP tl x) [.int .u32 (litP tl x)] (fun _ => True) (fun _ => False) rfl (by first | (go_simp; done) | (go_simp; rfl)) rfl (fun _ hk => hk.elim) (fun _ _ => trivial) HRD.out HD.out HD.out.size (by have := HYL.out; omega) ?_; intro v1 w3 hR hB _ _; have HR3 := Aside0.mk hR; have HB3 := Aside0.mk hB; clear hR hB))
      go_wp2
      go_roundg (l.length - (k + 1))
      case measure => omega
      case rel => exact ⟨k + 1, _, by omega, by go_num, ⟨by omega⟩, E, HB3, HR3⟩
    · have hltz : ¬ (k : Int) < (l.length : Int) := by omega
      have E : Aside0 (ys = l.map (litP tl)) := ⟨by rw [HY.out, List.take_of_length_le (by omega)]⟩
      go_wp2
      go_ret
      exact ⟨_, rfl, by rw [← E.out]; exact HR.out, HBL.out⟩
end Go.Proofs.Yteiiodlgdbiimaa.F
end
section
namespace Go.Proofs.Yteiiodlgdbiimaa.F
open Go.RowKit Go.Shelf Go.Proofs.YteiiodlgdbiimaaW.PrintWords Go.Proofs.YteiiodlgdbiimaaW.PrintLast Go.Proofs.YteiiodlgdbiimaaW.PrintMore
set_option linter.unusedVariables false
set_option linter.unusedSimpArgs false
theorem idxG_lt {gs : List S68} {a b : Int} {j : Nat} (h : idxG gs a b = some j) : j < gs.length := by
  obtain ⟨⟨g, hg, _⟩, _⟩ := idxG_some gs j h
  exact (List.getElem?_eq_some_iff.1 hg).1
theorem gateP_ok {first : Int} {gs : List S68} {a b : Int} (hf : 0 ≤ first ∧ first ≤ 40000) (hl : gs.length ≤ 40000) (ha : 0 ≤ a ∧ a < 4294967296) (hb : 0 ≤ b ∧ b < 4294967296) :
    (0 ≤ (gateP first gs a b).1 ∧ (gateP first gs a b).1 < 4294967296) ∧ (gateP first gs a b).2.length ≤ gs.length + 1 := by
  have hHI : 0 ≤ mx a b ∧ mx a b < 4294967296 := by unfold mx; split <;> omega
  unfold gateP
  split
  · exact ⟨⟨by dsimp only; omega, by dsimp only; omega⟩, Nat.le_succ _⟩
  split
  · exact ⟨⟨by dsimp only; omega, by dsimp only; omega⟩, Nat.le_succ _⟩
  split
  · exact ⟨hHI, Nat.le_succ _⟩
  split
  · exact ⟨hHI, Nat.le_succ _⟩
  cases h : idxG gs (mx a b) (mn a b) with
  | some j =>
    have := idxG_lt h
    exact ⟨⟨by dsimp only; omega, by dsimp only; omega⟩, Nat.le_succ _⟩
  | none => exact ⟨⟨by dsimp only; omega, by dsimp only; omega⟩, by simp⟩
def stepW (first : Int) (l2 : List S68) (s : List Int × List S68) (v : Nat) (x : Int) : List Int × List S68 :=
  if x ≠ 2 then (s.1 ++ [x], s.2) else if (v : Int) < first then (s.1 ++ [2 * (v : Int)], s.2)
  else (s.1 ++ [(gateP first s.2 (litP s.1 (rd_T68 l2 ((v : Int) - first)).f0) (litP s.1 (rd_T68 l2 ((v : Int) - first)).f1)).1], (gateP first s.2 (litP s.1 (rd_T68 l2 ((v : Int) - first)).f0) (litP s.1 (rd_T68 l2 ((v : Int) - first)).f1)).2)
def runW (first : Int) (l2 : List S68) (is : List Int) : Nat → List Int × List S68
  | 0 => ([], [])
  | k + 1 => stepW first l2 (runW first l2 is k) k (rd is (k : Int))
theorem rd68_ok {l2 : List S68} (h : In68 l2) (i : Int) : (0 ≤ (rd_T68 l2 i).f0 ∧ (rd_T68 l2 i).f0 < 4294967296) ∧ (0 ≤ (rd_T68 l2 i).f1 ∧ (rd_T68 l2 i).f1 < 4294967296) := by
  unfold rd_T68
  rw [List.getD_eq_getElem?_getD]
  cases hg : l2[i.toNat]? with
  | none => exact ⟨⟨by decide, by decide⟩, ⟨by decide, by decide⟩⟩
  | some g => exact h g (List.mem_of_getElem? hg)
theorem rd_u8 {is : List Int} (h : InU8 is) (i : Int) : 0 ≤ rd is i ∧ rd is i < 256 := by
  unfold rd
  rw [List.getD_eq_getElem?_getD]
  cases hg : is[i.toNat]? with
  | none => exact ⟨by decide, by decide⟩
  | some g => exact h g (List.mem_of_getElem? hg)
theorem runW_ok {first : Int} {l2 : List S68} {is : List Int} (hf : 0 ≤ first ∧ first ≤ 40000) (h2 : In68 l2) (hi : InU8 is) : ∀ k : Nat, k ≤ 40000 → (runW first l2 is k).1.length = k ∧ (runW first l2 is k).2.length ≤ k ∧ InU32 (runW first l2 is k).1
  | 0, _ => ⟨rfl, Nat.le_refl _, fun x hx => by cases hx⟩
  | k + 1, hk => by
    obtain ⟨i1, i2, i3⟩ := runW_ok hf h2 hi k (by omega)
    have hx := rd_u8 hi (k : Int)
    unfold runW
    generalize runW first l2 is k = s at i1 i2 i3 ⊢
    unfold stepW
    have snoc : ∀ y : Int, 0 ≤ y → y < 4294967296 → InU32 (s.1 ++ [y]) := fun y h0 h1 z hz => by
      rcases List.mem_append.1 hz with hz | hz
      · exact i3 z hz
      · rw [List.mem_singleton.1 hz]
        exact ⟨h0, h1⟩
    split
    · exact ⟨by simp [i1], by simp; omega, snoc _ (by omega) (by omega)⟩
    · split
      · exact ⟨by simp [i1], by simp; omega, snoc _ (by omega) (by omega)⟩
      · have hg := rd68_ok h2 ((k : Int) - first)
        have hG := gateP_ok (gs := s.2) hf (by omega) (litP_u32 i3 hg.1.1 hg.1.2) (litP_u32 i3 hg.2.1 hg.2.2)
        exact ⟨by simp [i1], by dsimp only; omega, snoc _ hG.1.1 hG.1.2⟩
theorem MkSt.over {first : Int} {gs : List S68} {w0 : World} {gm mb : Nat} {W w1 : World} {v : Value} {xs : List Int} (h : MkSt first gs w0 gm mb W) (hR : Kd.R (Kd.int .u32) 39 W w0.heap.size (fun _ => True) v xs) (hB : Below w0.heap.size w0 w1) (hg : W.grownBy w1 v.ownBlock) : MkSt first gs w0 gm mb w1 := by
  obtain ⟨vg, hk, hq⟩ := h.st
  refine ⟨hB, h.gm0, h.mb0, h.ok, h.ap, blk_grown h.map hg (fun e => ?_), vg, blk_grown hk hg (Kd.R_ne hR hk (by decide)), Kd.R_over' hq (Kd.R_typed hR) (by decide) hg⟩
  obtain ⟨cs, hc⟩ := Kd.R_typed hR mb e.symm
  rw [h.map] at hc
  cases hc
theorem MkSt.set {first : Int} {gs : List S68} {w0 : World} {gm mb : Nat} {W : World} (h : MkSt first gs w0 gm mb W) {g t : Nat} {cells : Array Value} (hk : W.heap[g]? = some (.cells cells t (0, 0))) (h1 : t ≠ 123) (h2 : t ≠ 68) (hg : w0.heap.size ≤ g) (i : Nat) (u : Value) : MkSt first gs w0 gm mb (W.setCell ⟨g, i, none⟩ u) := by
  obtain ⟨vg, hb, hq⟩ := h.st
  refine ⟨h.below.setCell (p := ⟨g, i, none⟩) hg u, h.gm0, h.mb0, h.ok, h.ap, (Below.heap_setCell _ _ _ mb (fun e => ?_)).trans h.map, vg, blk_far hb (p := ⟨g, i, none⟩) (blk_ne hb hk (fun e => h1 e.symm)) u, ?_⟩
  · have e' : mb = g := e
    rw [← e', h.map] at hk
    cases hk
  · refine Kd.R_set hq hk ?_ i u
    intro q hq'
    have : q = 68 := by simpa [k68, Kd.iso, Kd.pair, Kd.int, Kd.scalar] using hq'
    rw [this]
    exact fun e => h2 e.symm
structure WiSt (a0 : Int) (A1 : Option Addr) (c1 : Nat) (l1 : List S41) (A2 : Option Addr) (c2 : Nat) (l2 : List S68) (A3 : Option Addr) (c3 : Nat) (l3 : List Int) (A4 : Option Addr) (c4 : Nat) (l4 : List Int) (A5 : Option Addr) (c5 : Nat) (l5 : List Int) (w0 : World) (g4 g5 gm mb : Nat) (first : Int) (tl : List Int) (gs : List S68) (W : World) : Prop where
  mkr : MkSt first gs w0 gm mb W
  k2 : W.heap[w0.heap.size]? = some (.cells #[.int .i64 a0, .slice A1 l1.length c1, .slice A2 l2.length c2, .slice A3 l3.length c3, .slice A4 l4.length c4, .slice A5 l5.length c5] 26 (0, 0))
  k4 : W.heap[g4]? = some (.cells #[.int .i64 0, .slice none 0 0, .slice none 0 0, .slice none 0 0, .slice none 0 0, .slice none 0 0] 26 (0, 0))
  h4 : w0.heap.size < g4
  h5 : w0.heap.size ≤ g5
  k5 : ∃ vt, W.heap[g5]? = some (.cells #[vt] 24 (0, 0)) ∧ Kd.R (Kd.int .u32) 39 W w0.heap.size (fun _ => True) vt tl
section
variable {a0 : Int} {A1 : Option Addr} {c1 : Nat} {l1 : List S41} {A2 : Option Addr} {c2 : Nat} {l2 : List S68} {A3 : Option Addr} {c3 : Nat} {l3 : List Int} {A4 : Option Addr} {c4 : Nat} {l4 : List Int} {A5 : Option Addr} {c5 : Nat} {l5 : List Int} {w0 : World} {g4 g5 gm mb : Nat} {first : Int} {tl : List Int} {gs : List S68} {W W' : World}
theorem WiSt.step (h : WiSt a0 A1 c1 l1 A2 c2 l2 A3 c3 l3 A4 c4 l4 A5 c5 l5 w0 g4 g5 gm mb first tl gs W) (hb : Below W.heap.size W W') : WiSt a0 A1 c1 l1 A2 c2 l2 A3 c3 l3 A4 c4 l4 A5 c5 l5 w0 g4 g5 gm mb first tl gs W' := by
  obtain ⟨vt, k, r⟩ := h.k5
  exact ⟨h.mkr.step hb, blk_below h.k2 hb, blk_below h.k4 hb, h.h4, h.h5, vt, blk_below k hb, Kd.R_below r hb⟩
theorem WiSt.gated (h : WiSt a0 A1 c1 l1 A2 c2 l2 A3 c3 l3 A4 c4 l4 A5 c5 l5 w0 g4 g5 gm mb first tl gs W) {gs' : List S68} (hm : MkSt first gs' w0 gm mb W') (ho : OthersG W W') : WiSt a0 A1 c1 l1 A2 c2 l2 A3 c3 l3 A4 c4 l4 A5 c5 l5 w0 g4 g5 gm mb first tl gs' W' := by
  obtain ⟨vt, k, r⟩ := h.k5
  exact ⟨hm, ho _ _ _ h.k2 (by decide) (by decide), ho _ _ _ h.k4 (by decide) (by decide), h.h4, h.h5, vt, ho _ _ _ k (by decide) (by decide), R_othersG r ho⟩
theorem WiSt.appended (h : WiSt a0 A1 c1 l1 A2 c2 l2 A3 c3 l3 A4 c4 l4 A5 c5 l5 w0 g4 g5 gm mb first tl gs W) {vt v1 : Value} {w1 : World} {x : Int} (hk : W.heap[g5]? = some (.cells #[vt] 24 (0, 0))) (hr : Kd.R (Kd.int .u32) 39 W w0.heap.size (fun _ => True) vt tl)
    (hR : Kd.R (Kd.int .u32) 39 w1 w0.heap.size (fun _ => True) v1 (tl ++ [x])) (hB : Below w0.heap.size w0 w1) (hg : W.grownBy w1 vt.ownBlock) :
    WiSt a0 A1 c1 l1 A2 c2 l2 A3 c3 l3 A4 c4 l4 A5 c5 l5 w0 g4 g5 gm mb first (tl ++ [x]) gs (w1.setCell ⟨g5, 0, none⟩ v1) ∧ w1.heap[g5]? = some (.cells #[vt] 24 (0, 0)) := by
  have k5 := blk_grown hk hg (Kd.R_ne hr hk (by decide))
  have k2 := blk_grown h.k2 hg (Kd.R_ne hr h.k2 (by decide))
  have k4 := blk_grown h.k4 hg (Kd.R_ne hr h.k4 (by decide))
  exact ⟨⟨(h.mkr.over hr hB hg).set k5 (by decide) (by decide) h.h5 0 v1, blk_far k2 (p := ⟨g5, 0, none⟩) (blk_ne k2 k5 (by decide)) v1, blk_far k4 (p := ⟨g5, 0, none⟩) (blk_ne k4 k5 (by decide)) v1, h.h4, h.h5, v1, by simpa using blk_set k5 0 v1, Kd.R_set hR k5 (by decide) 0 v1⟩, k5⟩
end
def withOk (a0 : Int) (l1 : List S41) (l2 : List S68) (l3 l4 l5 is : List Int) : Prop := mayB a0 l1 l2 l3 l4 l5 = true ∧ (is.length : Int) = a0 + (l1.length : Int) + (l2.length : Int) + 1 ∧ rd is 0 = 0 ∧ is.all (fun x => decide (x ≤ 2)) = true
instance (a0 : Int) (l1 : List S41) (l2 : List S68) (l3 l4 l5 is : List Int) : Decidable (withOk a0 l1 l2 l3 l4 l5 is) := by unfold withOk; infer_instance
def u8s (l : List Int) : Bool := l.all fun x => decide (0 ≤ x) && decide (x < 256)
def wasW (a0 : Int) (l1 : List S41) (l2 : List S68) (is : List Int) : List Int × List S68 := runW (1 + a0 + (l1.length : Int)) l2 is is.length
def strash_With.f (a0_0 : Int) (l0_1 : List (S41)) (l0_2 : List (S68)) (l0_3 : List Int) (l0_4 : List Int) (l0_5 : List Int) (l1 : List Int) : Option (Int × (List (S41)) × (List (S68)) × List Int × List Int × List Int × List Int × Int) :=
  if okIn l0_1 l0_2 = true ∧ u32s l0_3 = true ∧ u32s l0_4 = true ∧ u32s l0_5 = true ∧ u8s l1 = true ∧ u8s (l0_1.map (·.f1)) = true then
    if withOk a0_0 l0_1 l0_2 l0_3 l0_4 l0_5 l1 then some (a0_0, l0_1.map (fun g => ⟨litP (wasW a0_0 l0_1 l0_2 l1).1 g.f0, g.f1⟩), (wasW a0_0 l0_1 l0_2 l1).2, l0_3.map (litP (wasW a0_0 l0_1 l0_2 l1).1), l0_4.map (litP (wasW a0_0 l0_1 l0_2 l1).1), l0_5.map (litP (wasW a0_0 l0_1 l0_2 l1).1), (wasW a0_0 l0_1 l0_2 l1).1, 0)
    else some (0, [], [], [], [], [], [], 2)
  else none
end Go.Proofs.Yteiiodlgdbiimaa.F
end
section
namespace Go.Proofs.Yteiiodlgdbiimaa.F
open Go.RowKit Go.Proofs.YteiiodlgdbiimaaW.PrintWords Go.Proofs.YteiiodlgdbiimaaW.PrintLast Go.Proofs.YteiiodlgdbiimaaW.PrintMore
attribute [local go_sem] max2_int min2_int max_two min_two max_three min_three max_four min_four
set_option linter.unusedVariables false
set_option linter.unusedSimpArgs false
def slices_Max_uint8_uint8.l0 : Nat → List Int → Int → Int → Option (Int)
  | 0, _, _, _ => none
  | k + 1, x0, x3, x4 => if x4 < (x0.length : Int) then (if 0 ≤ x4 then (slices_Max_uint8_uint8.l0 k x0 (mx x3 (rd x0 x4)) (wrap64 (x4 + 1))) else (none)) else (some x3)
def slices_Max_uint8_uint8.f (k : Nat) (l0 : List Int) : Option (Int) := if (l0.length : Int) < 1 then (none) else (if 0 < (l0.length : Int) then (slices_Max_uint8_uint8.l0 k l0 (rd l0 0) 1) else (none))
set_option maxHeartbeats 8000000 in
set_option maxRecDepth 100000 in
theorem slices_Max_uint8_uint8.calls (k : Nat) (A0 : Option Addr) (c0 : Nat) (l0 : List Int) (r : Int) (w : World) (hr0 : Kd.C (Kd.int .u8) w A0 l0.length l0) (hc0 : l0.length ≤ c0) (h : slices_Max_uint8_uint8.f k l0 = some r) :
    Calls Try.prog 102 #[.slice A0 l0.length c0] w fun e w' => e = .returned (.int .u8 r) ∧ Below w.heap.size w w' := by
  have HR0 := Aside0.mk hr0
  have HC0 := Aside0.mk hc0
  clear hr0 hc0
  have HB := Aside0.mk (Below.refl w.heap.size w)
  have H : (if (l0.length : Int) < 1 then (none) else (if 0 < (l0.length : Int) then (slices_Max_uint8_uint8.l0 k l0 (rd l0 0) 1) else (none))) = some r := h
  clear h
  by_cases c2 : (l0.length : Int) < 1
  · rw [if_pos c2] at H
    exact absurd H (by simp)
  · rw [if_neg c2] at H
    have c2b0 : decide ((l0.length : Int) < 1) = false := decide_eq_false c2
    have c2b1 : decide (l0.length < 1) = false := decide_eq_false (by omega)
    clear c2
    by_cases c3 : 0 < (l0.length : Int)
    · rw [if_pos c3] at H
      have c3b0 : decide (0 < (l0.length : Int)) = true := decide_eq_true c3
      have c3b1 : decide (0 < l0.length) = true := decide_eq_true (by omega)
      clear c3
      have H' := Aside0.mk H
      clear H
      have p305 : 0 ≤ (0 : Int) := (by omega)
      have q305 : 0 < (l0.length : Int) := of_decide_eq_true (by first | (with_reducible assumption) | assumption)
      obtain ⟨ad305, e305, hx305_0⟩ := Kd.at_int HR0.out 0 p305 q305
      cases e305
      have qi305 : (0 < l0.length) = True := eq_true (by omega)
      (try rw [show ((0 : Int)).toNat = 0 from rfl] at hx305_0)
      (try rw [Addr.add_zero'] at hx305_0)
      replace p305 := eq_true p305
      replace q305 := eq_true q305
      go_enter Try.func102, Try.ntmps102
      go_wp2
      go_loopg [3, 4] k (fun kq v3 v4 w' => ∃ (x3_1 : Int) (x4_1 : Int), v3 = .int .u8 x3_1 ∧ v4 = .int .i64 x4_1 ∧ Aside0 (slices_Max_uint8_uint8.l0 kq l0 x3_1 x4_1 = some r) ∧ Aside0 (kq ≤ k) ∧ Aside0 (Below w.heap.size w w'))
      case atStart => exact ⟨(rd l0 0), (1), (by first | rfl | (simp; done) | (simp [*]; done)), (by first | rfl | (simp; done) | (simp [*]; done)), H', ⟨Nat.le_refl _⟩, ⟨by repeat (first | (with_reducible first | exact HB.out | apply below_alloc | apply pw_below_drewN | apply below_drew1) | exact HB.out)⟩⟩
      case round =>
        clear H'
        try clear c1
        try clear c2
        try clear c2b0
        try clear c2b1
        try clear p2
        try clear c3
        try clear c3b0
        try clear c3b1
        try clear p3
        try clear q3
        try clear hx3
        try clear qi3
        try clear hx305_0
        try clear p305
        try clear q305
        obtain ⟨x3_1, x4_1, rfl, rfl, HA, HK1, HB⟩ := hrel
        cases gk with
        | zero => exact absurd HA.out (by simp [slices_Max_uint8_uint8.l0])
        | succ k1 =>
          have H := HA.out
          clear HA
          simp only [slices_Max_uint8_uint8.l0] at H
          by_cases c4 : x4_1 < (l0.length : Int)
          · rw [if_pos c4] at H
            have c4b0 : decide (x4_1 < (l0.length : Int)) = true := decide_eq_true c4
            clear c4
            by_cases c5 : 0 ≤ x4_1
            · rw [if_pos c5] at H
              have c5b0 : decide (0 ≤ x4_1) = true := decide_eq_true c5
              clear c5
              obtain ⟨ji6, hji6⟩ : ∃ j_ : Int, (mx x3_1 (rd l0 x4_1)) = j_ := ⟨_, rfl⟩
              replace H : (slices_Max_uint8_uint8.l0 k1 l0 ji6 (wrap64 (x4_1 + 1))) = some r := by first | (rw [hji6] at H; exact H) | (simp only [hji6] at H ⊢; exact H)
              have hji6_ : (if x3_1 < (rd l0 x4_1) then (rd l0 x4_1) else x3_1) = ji6 := hji6
              have H' := Aside0.mk H
              clear H
              have p306 : 0 ≤ (x4_1 : Int) := of_decide_eq_true (by first | (with_reducible assumption) | assumption)
              have q306 : x4_1 < (l0.length : Int) := of_decide_eq_true (by first | (with_reducible assumption) | assumption)
              obtain ⟨ad306, e306, hx306_0⟩ := Kd.at_int HR0.out x4_1 p306 q306
              obtain rfl : ad305 = ad306 := (by injection e306)
              replace hx306_0 := (HB.out.cell (World.block_lt_of_cell? w _ hx306_0)).trans hx306_0
              replace p306 := eq_true p306
              replace q306 := eq_true q306
              go_wp2
              go_roundg k1
              case measure => have := HK1.out; omega
              case rel => exact ⟨(ji6), (wrap64 (x4_1 + 1)), (by first | rfl | (simp; done) | (simp only [← hji6] <;> (first | rfl | simp)) | (simp [*]; done)), (by first | rfl | (simp; done) | (simp [*]; done)), H', ⟨by have := HK1.out; omega⟩, ⟨by repeat (first | (with_reducible first | exact HB.out | apply below_alloc | apply pw_below_drewN | apply below_drew1) | exact HB.out)⟩⟩
            · rw [if_neg c5] at H
              exact absurd H (by simp)
          · rw [if_neg c4] at H
            have c4b0 : decide (x4_1 < (l0.length : Int)) = false := decide_eq_false c4
            clear c4
            obtain rfl := Option.some.inj H
            go_wp2
            go_ret
            exact ⟨by first | rfl | (simp [errW_none, errW_some] <;> rfl) | (simp [*, errW_none, errW_some] <;> rfl), by repeat (first | (with_reducible first | exact HB.out | apply below_alloc | apply pw_below_drewN | apply below_drew1) | exact HB.out)⟩
    · rw [if_neg c3] at H
      exact absurd H (by simp)
end Go.Proofs.Yteiiodlgdbiimaa.F
end
section
namespace Go.Proofs.Yteiiodlgdbiimaa.F
open Go.RowKit Go.Shelf Go.Proofs.YteiiodlgdbiimaaW.PrintWords Go.Proofs.YteiiodlgdbiimaaW.PrintLast Go.Proofs.YteiiodlgdbiimaaW.PrintMore
set_option linter.unusedVariables false
set_option linter.unusedSimpArgs false
theorem blk_set6 {w : World} {g t : Nat} {p0 p1 p2 p3 p4 p5 : Value} (h : w.heap[g]? = some (.cells #[p0, p1, p2, p3, p4, p5] t (0, 0))) (x0 x1 x2 x3 x4 x5 : Value) : ((((((w.setCell ⟨g, 0, none⟩ x0).setCell ⟨g, 1, none⟩ x1).setCell ⟨g, 2, none⟩ x2).setCell ⟨g, 3, none⟩ x3).setCell ⟨g, 4, none⟩ x4).setCell ⟨g, 5, none⟩ x5).heap[g]? = some (.cells #[x0, x1, x2, x3, x4, x5] t (0, 0)) := by
  simpa using blk_set (blk_set (blk_set (blk_set (blk_set (blk_set h 0 x0) 1 x1) 2 x2) 3 x3) 4 x4) 5 x5
theorem blk_far6 {w : World} {g g' t : Nat} {cs : Array Value} (h : w.heap[g']? = some (.cells cs t (0, 0))) (hne : g' ≠ g) (x0 x1 x2 x3 x4 x5 : Value) : ((((((w.setCell ⟨g, 0, none⟩ x0).setCell ⟨g, 1, none⟩ x1).setCell ⟨g, 2, none⟩ x2).setCell ⟨g, 3, none⟩ x3).setCell ⟨g, 4, none⟩ x4).setCell ⟨g, 5, none⟩ x5).heap[g']? = some (.cells cs t (0, 0)) :=
  blk_far (blk_far (blk_far (blk_far (blk_far (blk_far h (p := ⟨g, 0, none⟩) hne x0) (p := ⟨g, 1, none⟩) hne x1) (p := ⟨g, 2, none⟩) hne x2) (p := ⟨g, 3, none⟩) hne x3) (p := ⟨g, 4, none⟩) hne x4) (p := ⟨g, 5, none⟩) hne x5
theorem below_set6 {B : Nat} {w0 w : World} {g : Nat} (h : Below B w0 w) (hg : B ≤ g) (x0 x1 x2 x3 x4 x5 : Value) : Below B w0 ((((((w.setCell ⟨g, 0, none⟩ x0).setCell ⟨g, 1, none⟩ x1).setCell ⟨g, 2, none⟩ x2).setCell ⟨g, 3, none⟩ x3).setCell ⟨g, 4, none⟩ x4).setCell ⟨g, 5, none⟩ x5) :=
  (((((h.setCell (p := ⟨g, 0, none⟩) hg x0).setCell (p := ⟨g, 1, none⟩) hg x1).setCell (p := ⟨g, 2, none⟩) hg x2).setCell (p := ⟨g, 3, none⟩) hg x3).setCell (p := ⟨g, 4, none⟩) hg x4).setCell (p := ⟨g, 5, none⟩) hg x5
theorem add_zero_addr (a : Addr) : a.add 0 = a := by
  cases a
  simp [Addr.add]
theorem results43 (tmps : Array Value) (w : World) (g4 g5 : Nat) (cs : Array Value) (v : Value) (h4 : tmps.getD 4 undef = .pointer (some ⟨g4, 0, none⟩)) (k4 : w.heap[g4]? = some (.cells cs 26 (0, 0))) (hs : cs.size = 6) (h5 : tmps.getD 5 undef = .pointer (some ⟨g5, 0, none⟩)) (k5 : w.heap[g5]? = some (.cells #[v] 24 (0, 0))) :
    (results Try.f43 tmps).run Try.prog w = .ok (.tuple #[.agg cs, v, tmps.getD 6 undef]) w := by
  have h4' : tmps[4]?.getD undef = .pointer (some ⟨g4, 0, none⟩) := by simpa using h4
  have h5' : tmps[5]?.getD undef = .pointer (some ⟨g5, 0, none⟩) := by simpa using h5
  have e1 := run_loadVar_row (P := Try.prog) w g4 26 26 cs (0, 0) _ k4 Try.underlying26 rfl (by rw [hs]; kernel_rfl)
  have c5 : w.cell? ⟨g5, 0, none⟩ = some v := (blk_cell k5 0).trans rfl
  have e2 : (loadVar 24 ⟨g5, 0, none⟩).run Try.prog w = .ok v w := by simp [go_sem, c5]
  simp [results, show Try.f43.results = #[.cell 4 26, .cell 5 24, .tmp 6] from rfl, h4', h5', asAddr, e1, e2]
theorem max_is (is : List Int) (h1 : 1 ≤ is.length) (h2 : is.length ≤ 40000) : ∃ m, Ev (fun k => slices_Max_uint8_uint8.f k is) m ∧ (2 < m ↔ ∃ x ∈ is, 2 < x) := by
  have key : ∀ (d i : Nat) (m0 : Int), is.length - i = d → i ≤ is.length → ∃ m, Ev (fun k => slices_Max_uint8_uint8.l0 k is m0 (i : Int)) m ∧ (2 < m ↔ 2 < m0 ∨ ∃ j : Nat, i ≤ j ∧ ∃ h : j < is.length, 2 < is[j]) := by
    intro d
    induction d with
    | zero =>
      intro i m0 hd hi
      refine ⟨m0, Ev.step (f := fun _ => some m0) (fun k => ?_) (Ev.now m0), ⟨fun h => .inl h, fun h => ?_⟩⟩
      · simp only [slices_Max_uint8_uint8.l0]
        rw [if_neg (by omega)]
      · rcases h with h | ⟨j, h1, h2, _⟩
        · exact h
        · omega
    | succ d ih =>
      intro i m0 hd hi
      have hlt : i < is.length := by omega
      obtain ⟨m, hE, hI⟩ := ih (i + 1) (mx m0 (rd is (i : Int))) (by omega) (by omega)
      refine ⟨m, Ev.step (fun k => ?_) hE, ?_⟩
      · simp only [slices_Max_uint8_uint8.l0]
        rw [if_pos (by omega), if_pos (by omega), wrap_nat (by omega)]
      · rw [hI, rd_at hlt]
        have hmx : 2 < mx m0 is[i] ↔ 2 < m0 ∨ 2 < is[i] := by unfold mx; split <;> omega
        rw [hmx]
        constructor
        · rintro ((h | h) | ⟨j, h1, h2, h3⟩)
          · exact .inl h
          · exact .inr ⟨i, Nat.le_refl _, hlt, h⟩
          · exact .inr ⟨j, by omega, h2, h3⟩
        · rintro (h | ⟨j, h1, h2, h3⟩)
          · exact .inl (.inl h)
          · by_cases e : j = i
            · subst e
              exact .inl (.inr h3)
            · exact .inr ⟨j, by omega, h2, h3⟩
  have hlt : 0 < is.length := by omega
  obtain ⟨m, hE, hI⟩ := key (is.length - 1) 1 (rd is 0) (by omega) (by omega)
  refine ⟨m, Ev.congr (fun k => ?_) hE, ?_⟩
  · unfold slices_Max_uint8_uint8.f
    rw [if_neg (by omega), if_pos (by omega)]
    rfl
  · have e0 : rd is 0 = is[0] := rd_at hlt
    rw [hI, e0]
    constructor
    · rintro (h | ⟨j, _, h2, h3⟩)
      · exact ⟨_, List.getElem_mem _, h⟩
      · exact ⟨_, List.getElem_mem _, h3⟩
    · rintro ⟨x, hx, h⟩
      obtain ⟨j, hj, rfl⟩ := List.mem_iff_getElem.1 hx
      by_cases e : j = 0
      · subst e
        exact .inl h
      · exact .inr ⟨j, by omega, hj, h⟩
set_option maxHeartbeats 8000000 in
set_option maxRecDepth 100000 in
theorem strash_With.bad (a0 : Int) (A1 : Option Addr) (c1 : Nat) (l1 : List S41) (A2 : Option Addr) (c2 : Nat) (l2 : List S68) (A3 : Option Addr) (c3 : Nat) (l3 : List Int) (A4 : Option Addr) (c4 : Nat) (l4 : List Int) (A5 : Option Addr) (c5 : Nat) (l5 : List Int) (A6 : Option Addr) (c6 : Nat) (is : List Int) (w : World) (hr1 : Kd.C k41 w A1 l1.length l1) (hc1 : l1.length ≤ c1) (hr2 : Kd.C k68 w A2 l2.length l2) (hc2 : l2.length ≤ c2) (hr3 : Kd.C (Kd.int .u32) w A3 l3.length l3) (hc3 : l3.length ≤ c3) (hr4 : Kd.C (Kd.int .u32) w A4 l4.length l4) (hc4 : l4.length ≤ c4) (hr5 : Kd.C (Kd.int .u32) w A5 l5.length l5) (hc5 : l5.length ≤ c5) (hr6 : Kd.C (Kd.int .u8) w A6 is.length is) (hc6 : is.length ≤ c6)
  (hok : okIn l1 l2 = true) (hi : InU8 is) (hc : ¬ withOk a0 l1 l2 l3 l4 l5 is) :
  Calls Try.prog 43 #[.agg #[.int .i64 a0, .slice A1 l1.length c1, .slice A2 l2.length c2, .slice A3 l3.length c3, .slice A4 l4.length c4, .slice A5 l5.length c5], .slice A6 is.length c6] w fun e w' => e = .returned (.tuple #[.agg #[.int .i64 0, .slice none 0 0, .slice none 0 0, .slice none 0 0, .slice none 0 0, .slice none 0 0], .slice none 0 0, .int .i64 2]) ∧ Below w.heap.size w w' := by
 have hu26 := Try.underlying26
 have HMAY := Aside0.mk (fun W (h : MayAt a0 A1 c1 l1 A2 c2 l2 A3 c3 l3 A4 c4 l4 A5 c5 l5 w.heap.size w W) => norm_May.calls a0 A1 c1 l1 A2 c2 l2 A3 c3 l3 A4 c4 l4 A5 c5 l5 _ W h.h1 hc1 h.h2 hc2 h.h3 hc3 h.h4 hc4 h.h5 hc5 rfl)
 have HVARS := Aside0.mk (fun W (h : MayAt a0 A1 c1 l1 A2 c2 l2 A3 c3 l3 A4 c4 l4 A5 c5 l5 w.heap.size w W) => norm_Vars.calls a0 A1 c1 l1 A2 c2 l2 A3 c3 l3 A4 c4 l4 A5 c5 l5 (if mayB a0 l1 l2 l3 l4 l5 = true then varsW a0 l1.length l2.length else 0) W h.h1 hc1 h.h2 hc2 h.h3 hc3 h.h4 hc4 h.h5 hc5 (by
  simp only [norm_Vars.f, norm_May.f, norm_vars.f, Option.bind_some]
  split <;> rfl))
 have H0 := Aside0.mk (fun W (hb : Below w.heap.size w W) (hk : W.heap[w.heap.size]? = some (.cells #[.int .i64 a0, .slice A1 l1.length c1, .slice A2 l2.length c2, .slice A3 l3.length c3, .slice A4 l4.length c4, .slice A5 l5.length c5] 26 (0, 0))) => (⟨hb, hk, Kd.C_below hr1 hb, Kd.C_below hr2 hb, Kd.C_below hr3 hb, Kd.C_below hr4 hb, Kd.C_below hr5 hb⟩ : MayAt a0 A1 c1 l1 A2 c2 l2 A3 c3 l3 A4 c4 l4 A5 c5 l5 w.heap.size w W))
 have H6 := Aside0.mk hr6
 clear hr1 hr2 hr3 hr4 hr5 hr6
 cases hm : mayB a0 l1 l2 l3 l4 l5 with
 | false =>
  rw [hm] at HMAY HVARS
  clear hc hm hok
  go_enter Try.func43, Try.ntmps43
  go_wp2_with (first | ((with_reducible refine gate_dst (N := 2) rfl ?_); (try (refine gate_guard (by rfl) ?_; dsimp only)); refine box_event ?hg (N := 2) ?hd (cs := #[.int .i64 a0, .slice A1 l1.length c1, .slice A2 l2.length c2, .slice A3 l3.length c3, .slice A4 l4.length c4, .slice A5 l5.length c5]) (t := 26) ?hr ?_; (case hd => rfl); (case hg => rfl); (case hr => first | (go_simp; done) | (go_simp; rfl)); intro g hg_ w1 BK HB; subst hg_; have HM := Aside0.mk (H0.out _ HB BK); clear HB BK) | ((with_reducible refine gate_dst (N := 4) rfl ?_); (try (refine gate_guard (by rfl) ?_; dsimp only)); refine box_event ?hg (N := 4) ?hd (cs := #[.int .i64 0, .slice none 0 0, .slice none 0 0, .slice none 0 0, .slice none 0 0, .slice none 0 0]) (t := 26) ?hr ?_; (case hd => rfl); (case hg => rfl); (case hr => first | (go_simp; done) | (go_simp; rfl)); intro g4 hg_ w2 bk2 hb2; have HM2 := Aside0.mk (HM.out.step hb2); have G4 := Aside0.mk (show w.heap.size < g4 from by rw [hg_]; exact blk_lt HM.out.blk); have K4 := Aside0.mk bk2; clear hg_ hb2 bk2) | ((with_reducible refine gate_dst (N := 5) rfl ?_); (try (refine gate_guard (by rfl) ?_; dsimp only)); refine box_event ?hg (N := 5) ?hd (cs := #[.slice none 0 0]) (t := 24) ?hr ?_; (case hd => rfl); (case hg => rfl); (case hr => first | (go_simp; done) | (go_simp; rfl)); intro g5 hg_ w3 bk3 hb3; have HM3 := Aside0.mk (HM2.out.step hb3); have G5 := Aside0.mk (show w.heap.size ≤ g5 from by rw [hg_]; exact HM2.out.below.size); have K43 := Aside0.mk (blk_below K4.out hb3); have K5 := Aside0.mk bk3; clear hg_ hb3 bk3; have z0 : w3.cell? ⟨w.heap.size, 0, none⟩ = some (.int .i64 a0) := (blk_cell HM3.out.blk 0).trans rfl; have z1 : w3.cell? ⟨w.heap.size, 1, none⟩ = some (.slice A1 l1.length c1) := (blk_cell HM3.out.blk 1).trans rfl; have z2 : w3.cell? ⟨w.heap.size, 2, none⟩ = some (.slice A2 l2.length c2) := (blk_cell HM3.out.blk 2).trans rfl; have z3 : w3.cell? ⟨w.heap.size, 3, none⟩ = some (.slice A3 l3.length c3) := (blk_cell HM3.out.blk 3).trans rfl; have z4 : w3.cell? ⟨w.heap.size, 4, none⟩ = some (.slice A4 l4.length c4) := (blk_cell HM3.out.blk 4).trans rfl; have z5 : w3.cell? ⟨w.heap.size, 5, none⟩ = some (.slice A5 l5.length c5) := (blk_cell HM3.out.blk 5).trans rfl) | (go_at_call 92; refine (HMAY.out _ HM3.out).mono ?_; rintro e w4 ⟨rfl, hb⟩; have HM4 := Aside0.mk (HM3.out.step hb); have K44 := Aside0.mk (blk_below K43.out hb); have K54 := Aside0.mk (blk_below K5.out hb); clear hb; clear z0 z1 z2 z3 z4 z5; have z0 : w4.cell? ⟨w.heap.size, 0, none⟩ = some (.int .i64 a0) := (blk_cell HM4.out.blk 0).trans rfl; have z1 : w4.cell? ⟨w.heap.size, 1, none⟩ = some (.slice A1 l1.length c1) := (blk_cell HM4.out.blk 1).trans rfl; have z2 : w4.cell? ⟨w.heap.size, 2, none⟩ = some (.slice A2 l2.length c2) := (blk_cell HM4.out.blk 2).trans rfl; have z3 : w4.cell? ⟨w.heap.size, 3, none⟩ = some (.slice A3 l3.length c3) := (blk_cell HM4.out.blk 3).trans rfl; have z4 : w4.cell? ⟨w.heap.size, 4, none⟩ = some (.slice A4 l4.length c4) := (blk_cell HM4.out.blk 4).trans rfl; have z5 : w4.cell? ⟨w.heap.size, 5, none⟩ = some (.slice A5 l5.length c5) := (blk_cell HM4.out.blk 5).trans rfl; have y0 : w4.cell? ⟨g4, 0, none⟩ = some (.int .i64 0) := (blk_cell K44.out 0).trans rfl; have f0 := blk_frozen K44.out 0; have y1 : w4.cell? ⟨g4, 1, none⟩ = some (.slice none 0 0) := (blk_cell K44.out 1).trans rfl; have f1 := blk_frozen K44.out 1; have y2 : w4.cell? ⟨g4, 2, none⟩ = some (.slice none 0 0) := (blk_cell K44.out 2).trans rfl; have f2 := blk_frozen K44.out 2; have y3 : w4.cell? ⟨g4, 3, none⟩ = some (.slice none 0 0) := (blk_cell K44.out 3).trans rfl; have f3 := blk_frozen K44.out 3; have y4 : w4.cell? ⟨g4, 4, none⟩ = some (.slice none 0 0) := (blk_cell K44.out 4).trans rfl; have f4 := blk_frozen K44.out 4; have y5 : w4.cell? ⟨g4, 5, none⟩ = some (.slice none 0 0) := (blk_cell K44.out 5).trans rfl; have f5 := blk_frozen K44.out 5; have u0 : w4.cell? ⟨g5, 0, none⟩ = some (.slice none 0 0) := (blk_cell K54.out 0).trans rfl; have K4Y := K44; have K5Y := K54; have HMY := HM4; clear z0 z1 z2 z3 z4 z5) | ((with_reducible refine gate_store (t := 26) (p := .tmp 4) (x := .tmp 36) rfl ?_); refine skip_event (W' := ((((((w4).setCell ⟨g4, 0, none⟩ (.int .i64 0)).setCell ⟨g4, 1, none⟩ (.slice none 0 0)).setCell ⟨g4, 2, none⟩ (.slice none 0 0)).setCell ⟨g4, 3, none⟩ (.slice none 0 0)).setCell ⟨g4, 4, none⟩ (.slice none 0 0)).setCell ⟨g4, 5, none⟩ (.slice none 0 0)) ?hn ?hs ?hr ?_; (case hn => rfl); (case hs => rfl); (case hr => first | (go_simp; done) | (go_simp; rfl)); intro wx hw_; have KX4 := Aside0.mk (show wx.heap[g4]? = some (.cells #[.int .i64 0, .slice none 0 0, .slice none 0 0, .slice none 0 0, .slice none 0 0, .slice none 0 0] 26 (0, 0)) from by rw [hw_]; exact blk_set6 K4Y.out _ _ _ _ _ _); have KX5 := Aside0.mk (show wx.heap[g5]? = some (.cells #[.slice none 0 0] 24 (0, 0)) from by rw [hw_]; exact blk_far6 K5Y.out (blk_ne K5Y.out K4Y.out (by decide)) _ _ _ _ _ _); have HX := Aside0.mk (show Below w.heap.size w wx from by rw [hw_]; exact below_set6 HMY.out.below (Nat.le_of_lt G4.out) _ _ _ _ _ _); clear hw_ y0 y1 y2 y3 y4 y5 f0 f1 f2 f3 f4 f5 u0; have u0 : wx.cell? ⟨g5, 0, none⟩ = some (.slice none 0 0) := (blk_cell KX5.out 0).trans rfl; have v0 := blk_frozen KX5.out 0) | ((with_reducible refine gate_store (t := 24) (p := .tmp 5) (x := .const (.slice none 0 0)) rfl ?_); refine skip_event (W' := wx.setCell ⟨g5, 0, none⟩ (.slice none 0 0)) ?hn ?hs ?hr ?_; (case hn => rfl); (case hs => rfl); (case hr => first | (go_simp; done) | (go_simp; rfl)); intro wy hw_; have KY4 := Aside0.mk (show wy.heap[g4]? = some (.cells #[.int .i64 0, .slice none 0 0, .slice none 0 0, .slice none 0 0, .slice none 0 0, .slice none 0 0] 26 (0, 0)) from by rw [hw_]; exact blk_far KX4.out (p := ⟨g5, 0, none⟩) (blk_ne KX4.out KX5.out (by decide)) _); have KY5 := Aside0.mk (show wy.heap[g5]? = some (.cells #[.slice none 0 0] 24 (0, 0)) from by rw [hw_]; simpa using blk_set KX5.out 0 (.slice none 0 0)); have HY := Aside0.mk (show Below w.heap.size w wy from by rw [hw_]; exact HX.out.setCell (p := ⟨g5, 0, none⟩) G5.out _); clear hw_ u0 v0))
  refine bodyPost_ret (results43 _ wy g4 g5 #[.int .i64 0, .slice none 0 0, .slice none 0 0, .slice none 0 0, .slice none 0 0, .slice none 0 0] (.slice none 0 0) rfl KY4.out rfl rfl KY5.out) rfl ?_
  exact ⟨rfl, HY.out⟩
 | true =>
  rw [hm] at HMAY HVARS
  rw [if_pos rfl] at HVARS
  obtain ⟨HVA, hV⟩ := valid_of_may hok hm
  have hpos := HVA.pos
  have hle := HVA.le
  rw [hV] at HVARS
  generalize hVV : a0 + (l1.length : Int) + (l2.length : Int) = V at HVARS hle
  have es1 : IntKind.i64.wrap (V + 1) = V + 1 := IntWalk.i64_in _ (by omega)
  have es2 : wrap64 (V + 1) = V + 1 := wrap64_id (by omega) (by omega)
  by_cases hl : (is.length : Int) = V + 1
  ·
   have hl1 : ((is.length : Int) != V + 1) = false := bne_eq_false_iff_eq.mpr hl
   have hpz : (0 : Int) < (is.length : Int) := by omega
   obtain ⟨ad, e6, x6⟩ := Kd.at_int H6.out 0 (by omega) (by omega)
   cases e6
   replace x6 : w.cell? ad = some (.int .u8 (rd is 0)) := by simpa [add_zero_addr] using x6
   by_cases h0 : rd is 0 = 0
   ·
    by_cases ha : is.all (fun x => decide (x ≤ 2)) = true
    · exact absurd ⟨hm, by rw [hVV]; exact hl, h0, ha⟩ hc
    ·
     obtain ⟨m, hmE, hmI⟩ := max_is is (by omega) (by omega)
     obtain ⟨k, hmk⟩ := hmE.rounds
     have hm2 : 2 < m := hmI.2 (by
      simp only [List.all_eq_true, decide_eq_true_eq, Classical.not_forall] at ha
      obtain ⟨x, hx, h⟩ := ha
      exact ⟨x, hx, by omega⟩)
     have HMAX := Aside0.mk (fun W (hb : Below w.heap.size w W) => slices_Max_uint8_uint8.calls k (some ad) c6 is m W (Kd.C_below H6.out hb) hc6 hmk)
     have hm3 : decide (2 < m) = true := decide_eq_true hm2
     have h01 : (rd is 0 != 0) = false := bne_eq_false_iff_eq.mpr h0
     have X6 := Aside0.mk x6
     clear hc hm hok hl h0 ha hmk hmI hm2 hVV HVA hV x6
     go_enter Try.func43, Try.ntmps43
     go_wp2_with (first | ((with_reducible refine gate_dst (N := 2) rfl ?_); (try (refine gate_guard (by rfl) ?_; dsimp only)); refine box_event ?hg (N := 2) ?hd (cs := #[.int .i64 a0, .slice A1 l1.length c1, .slice A2 l2.length c2, .slice A3 l3.length c3, .slice A4 l4.length c4, .slice A5 l5.length c5]) (t := 26) ?hr ?_; (case hd => rfl); (case hg => rfl); (case hr => first | (go_simp; done) | (go_simp; rfl)); intro g hg_ w1 BK HB; subst hg_; have HM := Aside0.mk (H0.out _ HB BK); clear HB BK) | ((with_reducible refine gate_dst (N := 4) rfl ?_); (try (refine gate_guard (by rfl) ?_; dsimp only)); refine box_event ?hg (N := 4) ?hd (cs := #[.int .i64 0, .slice none 0 0, .slice none 0 0, .slice none 0 0, .slice none 0 0, .slice none 0 0]) (t := 26) ?hr ?_; (case hd => rfl); (case hg => rfl); (case hr => first | (go_simp; done) | (go_simp; rfl)); intro g4 hg_ w2 bk2 hb2; have HM2 := Aside0.mk (HM.out.step hb2); have G4 := Aside0.mk (show w.heap.size < g4 from by rw [hg_]; exact blk_lt HM.out.blk); have K4 := Aside0.mk bk2; clear hg_ hb2 bk2) | ((with_reducible refine gate_dst (N := 5) rfl ?_); (try (refine gate_guard (by rfl) ?_; dsimp only)); refine box_event ?hg (N := 5) ?hd (cs := #[.slice none 0 0]) (t := 24) ?hr ?_; (case hd => rfl); (case hg => rfl); (case hr => first | (go_simp; done) | (go_simp; rfl)); intro g5 hg_ w3 bk3 hb3; have HM3 := Aside0.mk (HM2.out.step hb3); have G5 := Aside0.mk (show w.heap.size ≤ g5 from by rw [hg_]; exact HM2.out.below.size); have K43 := Aside0.mk (blk_below K4.out hb3); have K5 := Aside0.mk bk3; clear hg_ hb3 bk3; have z0 : w3.cell? ⟨w.heap.size, 0, none⟩ = some (.int .i64 a0) := (blk_cell HM3.out.blk 0).trans rfl; have z1 : w3.cell? ⟨w.heap.size, 1, none⟩ = some (.slice A1 l1.length c1) := (blk_cell HM3.out.blk 1).trans rfl; have z2 : w3.cell? ⟨w.heap.size, 2, none⟩ = some (.slice A2 l2.length c2) := (blk_cell HM3.out.blk 2).trans rfl; have z3 : w3.cell? ⟨w.heap.size, 3, none⟩ = some (.slice A3 l3.length c3) := (blk_cell HM3.out.blk 3).trans rfl; have z4 : w3.cell? ⟨w.heap.size, 4, none⟩ = some (.slice A4 l4.length c4) := (blk_cell HM3.out.blk 4).trans rfl; have z5 : w3.cell? ⟨w.heap.size, 5, none⟩ = some (.slice A5 l5.length c5) := (blk_cell HM3.out.blk 5).trans rfl) | (go_at_call 92; refine (HMAY.out _ HM3.out).mono ?_; rintro e w4 ⟨rfl, hb⟩; have HM4 := Aside0.mk (HM3.out.step hb); have K44 := Aside0.mk (blk_below K43.out hb); have K54 := Aside0.mk (blk_below K5.out hb); clear hb; clear z0 z1 z2 z3 z4 z5; have z0 : w4.cell? ⟨w.heap.size, 0, none⟩ = some (.int .i64 a0) := (blk_cell HM4.out.blk 0).trans rfl; have z1 : w4.cell? ⟨w.heap.size, 1, none⟩ = some (.slice A1 l1.length c1) := (blk_cell HM4.out.blk 1).trans rfl; have z2 : w4.cell? ⟨w.heap.size, 2, none⟩ = some (.slice A2 l2.length c2) := (blk_cell HM4.out.blk 2).trans rfl; have z3 : w4.cell? ⟨w.heap.size, 3, none⟩ = some (.slice A3 l3.length c3) := (blk_cell HM4.out.blk 3).trans rfl; have z4 : w4.cell? ⟨w.heap.size, 4, none⟩ = some (.slice A4 l4.length c4) := (blk_cell HM4.out.blk 4).trans rfl; have z5 : w4.cell? ⟨w.heap.size, 5, none⟩ = some (.slice A5 l5.length c5) := (blk_cell HM4.out.blk 5).trans rfl) | (go_at_call 101; refine (HVARS.out _ HM4.out).mono ?_; rintro e w5 ⟨rfl, hb⟩; have HM5 := Aside0.mk (HM4.out.step hb); have K45 := Aside0.mk (blk_below K44.out hb); have K55 := Aside0.mk (blk_below K54.out hb); clear hb; clear z0 z1 z2 z3 z4 z5; have z0 : w5.cell? ⟨w.heap.size, 0, none⟩ = some (.int .i64 a0) := (blk_cell HM5.out.blk 0).trans rfl; have z1 : w5.cell? ⟨w.heap.size, 1, none⟩ = some (.slice A1 l1.length c1) := (blk_cell HM5.out.blk 1).trans rfl; have z2 : w5.cell? ⟨w.heap.size, 2, none⟩ = some (.slice A2 l2.length c2) := (blk_cell HM5.out.blk 2).trans rfl; have z3 : w5.cell? ⟨w.heap.size, 3, none⟩ = some (.slice A3 l3.length c3) := (blk_cell HM5.out.blk 3).trans rfl; have z4 : w5.cell? ⟨w.heap.size, 4, none⟩ = some (.slice A4 l4.length c4) := (blk_cell HM5.out.blk 4).trans rfl; have z5 : w5.cell? ⟨w.heap.size, 5, none⟩ = some (.slice A5 l5.length c5) := (blk_cell HM5.out.blk 5).trans rfl; have x6 := (HM5.out.below.cell (World.block_lt_of_cell? w _ X6.out)).trans X6.out) | (go_at_call 102; refine (HMAX.out _ HM5.out.below).mono ?_; rintro e w6 ⟨rfl, hb⟩; have HM6 := Aside0.mk (HM5.out.step hb); have K46 := Aside0.mk (blk_below K45.out hb); have K56 := Aside0.mk (blk_below K55.out hb); clear hb; clear z0 z1 z2 z3 z4 z5; have z0 : w6.cell? ⟨w.heap.size, 0, none⟩ = some (.int .i64 a0) := (blk_cell HM6.out.blk 0).trans rfl; have z1 : w6.cell? ⟨w.heap.size, 1, none⟩ = some (.slice A1 l1.length c1) := (blk_cell HM6.out.blk 1).trans rfl; have z2 : w6.cell? ⟨w.heap.size, 2, none⟩ = some (.slice A2 l2.length c2) := (blk_cell HM6.out.blk 2).trans rfl; have z3 : w6.cell? ⟨w.heap.size, 3, none⟩ = some (.slice A3 l3.length c3) := (blk_cell HM6.out.blk 3).trans rfl; have z4 : w6.cell? ⟨w.heap.size, 4, none⟩ = some (.slice A4 l4.length c4) := (blk_cell HM6.out.blk 4).trans rfl; have z5 : w6.cell? ⟨w.heap.size, 5, none⟩ = some (.slice A5 l5.length c5) := (blk_cell HM6.out.blk 5).trans rfl; clear x6; have y0 : w6.cell? ⟨g4, 0, none⟩ = some (.int .i64 0) := (blk_cell K46.out 0).trans rfl; have f0 := blk_frozen K46.out 0; have y1 : w6.cell? ⟨g4, 1, none⟩ = some (.slice none 0 0) := (blk_cell K46.out 1).trans rfl; have f1 := blk_frozen K46.out 1; have y2 : w6.cell? ⟨g4, 2, none⟩ = some (.slice none 0 0) := (blk_cell K46.out 2).trans rfl; have f2 := blk_frozen K46.out 2; have y3 : w6.cell? ⟨g4, 3, none⟩ = some (.slice none 0 0) := (blk_cell K46.out 3).trans rfl; have f3 := blk_frozen K46.out 3; have y4 : w6.cell? ⟨g4, 4, none⟩ = some (.slice none 0 0) := (blk_cell K46.out 4).trans rfl; have f4 := blk_frozen K46.out 4; have y5 : w6.cell? ⟨g4, 5, none⟩ = some (.slice none 0 0) := (blk_cell K46.out 5).trans rfl; have f5 := blk_frozen K46.out 5; have u0 : w6.cell? ⟨g5, 0, none⟩ = some (.slice none 0 0) := (blk_cell K56.out 0).trans rfl; have K4Y := K46; have K5Y := K56; have HMY := HM6; clear z0 z1 z2 z3 z4 z5) | ((with_reducible refine gate_store (t := 26) (p := .tmp 4) (x := .tmp 36) rfl ?_); refine skip_event (W' := ((((((w6).setCell ⟨g4, 0, none⟩ (.int .i64 0)).setCell ⟨g4, 1, none⟩ (.slice none 0 0)).setCell ⟨g4, 2, none⟩ (.slice none 0 0)).setCell ⟨g4, 3, none⟩ (.slice none 0 0)).setCell ⟨g4, 4, none⟩ (.slice none 0 0)).setCell ⟨g4, 5, none⟩ (.slice none 0 0)) ?hn ?hs ?hr ?_; (case hn => rfl); (case hs => rfl); (case hr => first | (go_simp; done) | (go_simp; rfl)); intro wx hw_; have KX4 := Aside0.mk (show wx.heap[g4]? = some (.cells #[.int .i64 0, .slice none 0 0, .slice none 0 0, .slice none 0 0, .slice none 0 0, .slice none 0 0] 26 (0, 0)) from by rw [hw_]; exact blk_set6 K4Y.out _ _ _ _ _ _); have KX5 := Aside0.mk (show wx.heap[g5]? = some (.cells #[.slice none 0 0] 24 (0, 0)) from by rw [hw_]; exact blk_far6 K5Y.out (blk_ne K5Y.out K4Y.out (by decide)) _ _ _ _ _ _); have HX := Aside0.mk (show Below w.heap.size w wx from by rw [hw_]; exact below_set6 HMY.out.below (Nat.le_of_lt G4.out) _ _ _ _ _ _); clear hw_ y0 y1 y2 y3 y4 y5 f0 f1 f2 f3 f4 f5 u0; have u0 : wx.cell? ⟨g5, 0, none⟩ = some (.slice none 0 0) := (blk_cell KX5.out 0).trans rfl; have v0 := blk_frozen KX5.out 0) | ((with_reducible refine gate_store (t := 24) (p := .tmp 5) (x := .const (.slice none 0 0)) rfl ?_); refine skip_event (W' := wx.setCell ⟨g5, 0, none⟩ (.slice none 0 0)) ?hn ?hs ?hr ?_; (case hn => rfl); (case hs => rfl); (case hr => first | (go_simp; done) | (go_simp; rfl)); intro wy hw_; have KY4 := Aside0.mk (show wy.heap[g4]? = some (.cells #[.int .i64 0, .slice none 0 0, .slice none 0 0, .slice none 0 0, .slice none 0 0, .slice none 0 0] 26 (0, 0)) from by rw [hw_]; exact blk_far KX4.out (p := ⟨g5, 0, none⟩) (blk_ne KX4.out KX5.out (by decide)) _); have KY5 := Aside0.mk (show wy.heap[g5]? = some (.cells #[.slice none 0 0] 24 (0, 0)) from by rw [hw_]; simpa using blk_set KX5.out 0 (.slice none 0 0)); have HY := Aside0.mk (show Below w.heap.size w wy from by rw [hw_]; exact HX.out.setCell (p := ⟨g5, 0, none⟩) G5.out _); clear hw_ u0 v0))
     refine bodyPost_ret (results43 _ wy g4 g5 #[.int .i64 0, .slice none 0 0, .slice none 0 0, .slice none 0 0, .slice none 0 0, .slice none 0 0] (.slice none 0 0) rfl KY4.out rfl rfl KY5.out) rfl ?_
     exact ⟨rfl, HY.out⟩
   ·
    have h01 : (rd is 0 != 0) = true := bne_iff_ne.mpr h0
    have X6 := Aside0.mk x6
    clear hc hm hok hl h0 hVV HVA hV x6
    go_enter Try.func43, Try.ntmps43
    go_wp2_with (first | ((with_reducible refine gate_dst (N := 2) rfl ?_); (try (refine gate_guard (by rfl) ?_; dsimp only)); refine box_event ?hg (N := 2) ?hd (cs := #[.int .i64 a0, .slice A1 l1.length c1, .slice A2 l2.length c2, .slice A3 l3.length c3, .slice A4 l4.length c4, .slice A5 l5.length c5]) (t := 26) ?hr ?_; (case hd => rfl); (case hg => rfl); (case hr => first | (go_simp; done) | (go_simp; rfl)); intro g hg_ w1 BK HB; subst hg_; have HM := Aside0.mk (H0.out _ HB BK); clear HB BK) | ((with_reducible refine gate_dst (N := 4) rfl ?_); (try (refine gate_guard (by rfl) ?_; dsimp only)); refine box_event ?hg (N := 4) ?hd (cs := #[.int .i64 0, .slice none 0 0, .slice none 0 0, .slice none 0 0, .slice none 0 0, .slice none 0 0]) (t := 26) ?hr ?_; (case hd => rfl); (case hg => rfl); (case hr => first | (go_simp; done) | (go_simp; rfl)); intro g4 hg_ w2 bk2 hb2; have HM2 := Aside0.mk (HM.out.step hb2); have G4 := Aside0.mk (show w.heap.size < g4 from by rw [hg_]; exact blk_lt HM.out.blk); have K4 := Aside0.mk bk2; clear hg_ hb2 bk2) | ((with_reducible refine gate_dst (N := 5) rfl ?_); (try (refine gate_guard (by rfl) ?_; dsimp only)); refine box_event ?hg (N := 5) ?hd (cs := #[.slice none 0 0]) (t := 24) ?hr ?_; (case hd => rfl); (case hg => rfl); (case hr => first | (go_simp; done) | (go_simp; rfl)); intro g5 hg_ w3 bk3 hb3; have HM3 := Aside0.mk (HM2.out.step hb3); have G5 := Aside0.mk (show w.heap.size ≤ g5 from by rw [hg_]; exact HM2.out.below.size); have K43 := Aside0.mk (blk_below K4.out hb3); have K5 := Aside0.mk bk3; clear hg_ hb3 bk3; have z0 : w3.cell? ⟨w.heap.size, 0, none⟩ = some (.int .i64 a0) := (blk_cell HM3.out.blk 0).trans rfl; have z1 : w3.cell? ⟨w.heap.size, 1, none⟩ = some (.slice A1 l1.length c1) := (blk_cell HM3.out.blk 1).trans rfl; have z2 : w3.cell? ⟨w.heap.size, 2, none⟩ = some (.slice A2 l2.length c2) := (blk_cell HM3.out.blk 2).trans rfl; have z3 : w3.cell? ⟨w.heap.size, 3, none⟩ = some (.slice A3 l3.length c3) := (blk_cell HM3.out.blk 3).trans rfl; have z4 : w3.cell? ⟨w.heap.size, 4, none⟩ = some (.slice A4 l4.length c4) := (blk_cell HM3.out.blk 4).trans rfl; have z5 : w3.cell? ⟨w.heap.size, 5, none⟩ = some (.slice A5 l5.length c5) := (blk_cell HM3.out.blk 5).trans rfl) | (go_at_call 92; refine (HMAY.out _ HM3.out).mono ?_; rintro e w4 ⟨rfl, hb⟩; have HM4 := Aside0.mk (HM3.out.step hb); have K44 := Aside0.mk (blk_below K43.out hb); have K54 := Aside0.mk (blk_below K5.out hb); clear hb; clear z0 z1 z2 z3 z4 z5; have z0 : w4.cell? ⟨w.heap.size, 0, none⟩ = some (.int .i64 a0) := (blk_cell HM4.out.blk 0).trans rfl; have z1 : w4.cell? ⟨w.heap.size, 1, none⟩ = some (.slice A1 l1.length c1) := (blk_cell HM4.out.blk 1).trans rfl; have z2 : w4.cell? ⟨w.heap.size, 2, none⟩ = some (.slice A2 l2.length c2) := (blk_cell HM4.out.blk 2).trans rfl; have z3 : w4.cell? ⟨w.heap.size, 3, none⟩ = some (.slice A3 l3.length c3) := (blk_cell HM4.out.blk 3).trans rfl; have z4 : w4.cell? ⟨w.heap.size, 4, none⟩ = some (.slice A4 l4.length c4) := (blk_cell HM4.out.blk 4).trans rfl; have z5 : w4.cell? ⟨w.heap.size, 5, none⟩ = some (.slice A5 l5.length c5) := (blk_cell HM4.out.blk 5).trans rfl) | (go_at_call 101; refine (HVARS.out _ HM4.out).mono ?_; rintro e w5 ⟨rfl, hb⟩; have HM5 := Aside0.mk (HM4.out.step hb); have K45 := Aside0.mk (blk_below K44.out hb); have K55 := Aside0.mk (blk_below K54.out hb); clear hb; clear z0 z1 z2 z3 z4 z5; have z0 : w5.cell? ⟨w.heap.size, 0, none⟩ = some (.int .i64 a0) := (blk_cell HM5.out.blk 0).trans rfl; have z1 : w5.cell? ⟨w.heap.size, 1, none⟩ = some (.slice A1 l1.length c1) := (blk_cell HM5.out.blk 1).trans rfl; have z2 : w5.cell? ⟨w.heap.size, 2, none⟩ = some (.slice A2 l2.length c2) := (blk_cell HM5.out.blk 2).trans rfl; have z3 : w5.cell? ⟨w.heap.size, 3, none⟩ = some (.slice A3 l3.length c3) := (blk_cell HM5.out.blk 3).trans rfl; have z4 : w5.cell? ⟨w.heap.size, 4, none⟩ = some (.slice A4 l4.length c4) := (blk_cell HM5.out.blk 4).trans rfl; have z5 : w5.cell? ⟨w.heap.size, 5, none⟩ = some (.slice A5 l5.length c5) := (blk_cell HM5.out.blk 5).trans rfl; have x6 := (HM5.out.below.cell (World.block_lt_of_cell? w _ X6.out)).trans X6.out; have y0 : w5.cell? ⟨g4, 0, none⟩ = some (.int .i64 0) := (blk_cell K45.out 0).trans rfl; have f0 := blk_frozen K45.out 0; have y1 : w5.cell? ⟨g4, 1, none⟩ = some (.slice none 0 0) := (blk_cell K45.out 1).trans rfl; have f1 := blk_frozen K45.out 1; have y2 : w5.cell? ⟨g4, 2, none⟩ = some (.slice none 0 0) := (blk_cell K45.out 2).trans rfl; have f2 := blk_frozen K45.out 2; have y3 : w5.cell? ⟨g4, 3, none⟩ = some (.slice none 0 0) := (blk_cell K45.out 3).trans rfl; have f3 := blk_frozen K45.out 3; have y4 : w5.cell? ⟨g4, 4, none⟩ = some (.slice none 0 0) := (blk_cell K45.out 4).trans rfl; have f4 := blk_frozen K45.out 4; have y5 : w5.cell? ⟨g4, 5, none⟩ = some (.slice none 0 0) := (blk_cell K45.out 5).trans rfl; have f5 := blk_frozen K45.out 5; have u0 : w5.cell? ⟨g5, 0, none⟩ = some (.slice none 0 0) := (blk_cell K55.out 0).trans rfl; have K4Y := K45; have K5Y := K55; have HMY := HM5; clear z0 z1 z2 z3 z4 z5) | ((with_reducible refine gate_store (t := 26) (p := .tmp 4) (x := .tmp 36) rfl ?_); refine skip_event (W' := ((((((w5).setCell ⟨g4, 0, none⟩ (.int .i64 0)).setCell ⟨g4, 1, none⟩ (.slice none 0 0)).setCell ⟨g4, 2, none⟩ (.slice none 0 0)).setCell ⟨g4, 3, none⟩ (.slice none 0 0)).setCell ⟨g4, 4, none⟩ (.slice none 0 0)).setCell ⟨g4, 5, none⟩ (.slice none 0 0)) ?hn ?hs ?hr ?_; (case hn => rfl); (case hs => rfl); (case hr => first | (go_simp; done) | (go_simp; rfl)); intro wx hw_; have KX4 := Aside0.mk (show wx.heap[g4]? = some (.cells #[.int .i64 0, .slice none 0 0, .slice none 0 0, .slice none 0 0, .slice none 0 0, .slice none 0 0] 26 (0, 0)) from by rw [hw_]; exact blk_set6 K4Y.out _ _ _ _ _ _); have KX5 := Aside0.mk (show wx.heap[g5]? = some (.cells #[.slice none 0 0] 24 (0, 0)) from by rw [hw_]; exact blk_far6 K5Y.out (blk_ne K5Y.out K4Y.out (by decide)) _ _ _ _ _ _); have HX := Aside0.mk (show Below w.heap.size w wx from by rw [hw_]; exact below_set6 HMY.out.below (Nat.le_of_lt G4.out) _ _ _ _ _ _); clear hw_ y0 y1 y2 y3 y4 y5 f0 f1 f2 f3 f4 f5 u0; have u0 : wx.cell? ⟨g5, 0, none⟩ = some (.slice none 0 0) := (blk_cell KX5.out 0).trans rfl; have v0 := blk_frozen KX5.out 0) | ((with_reducible refine gate_store (t := 24) (p := .tmp 5) (x := .const (.slice none 0 0)) rfl ?_); refine skip_event (W' := wx.setCell ⟨g5, 0, none⟩ (.slice none 0 0)) ?hn ?hs ?hr ?_; (case hn => rfl); (case hs => rfl); (case hr => first | (go_simp; done) | (go_simp; rfl)); intro wy hw_; have KY4 := Aside0.mk (show wy.heap[g4]? = some (.cells #[.int .i64 0, .slice none 0 0, .slice none 0 0, .slice none 0 0, .slice none 0 0, .slice none 0 0] 26 (0, 0)) from by rw [hw_]; exact blk_far KX4.out (p := ⟨g5, 0, none⟩) (blk_ne KX4.out KX5.out (by decide)) _); have KY5 := Aside0.mk (show wy.heap[g5]? = some (.cells #[.slice none 0 0] 24 (0, 0)) from by rw [hw_]; simpa using blk_set KX5.out 0 (.slice none 0 0)); have HY := Aside0.mk (show Below w.heap.size w wy from by rw [hw_]; exact HX.out.setCell (p := ⟨g5, 0, none⟩) G5.out _); clear hw_ u0 v0))
    refine bodyPost_ret (results43 _ wy g4 g5 #[.int .i64 0, .slice none 0 0, .slice none 0 0, .slice none 0 0, .slice none 0 0, .slice none 0 0] (.slice none 0 0) rfl KY4.out rfl rfl KY5.out) rfl ?_
    exact ⟨rfl, HY.out⟩
  ·
   have hl1 : ((is.length : Int) != V + 1) = true := bne_iff_ne.mpr hl
   clear hc hm hok hl hVV HVA hV
   go_enter Try.func43, Try.ntmps43
   go_wp2_with (first | ((with_reducible refine gate_dst (N := 2) rfl ?_); (try (refine gate_guard (by rfl) ?_; dsimp only)); refine box_event ?hg (N := 2) ?hd (cs := #[.int .i64 a0, .slice A1 l1.length c1, .slice A2 l2.length c2, .slice A3 l3.length c3, .slice A4 l4.length c4, .slice A5 l5.length c5]) (t := 26) ?hr ?_; (case hd => rfl); (case hg => rfl); (case hr => first | (go_simp; done) | (go_simp; rfl)); intro g hg_ w1 BK HB; subst hg_; have HM := Aside0.mk (H0.out _ HB BK); clear HB BK) | ((with_reducible refine gate_dst (N := 4) rfl ?_); (try (refine gate_guard (by rfl) ?_; dsimp only)); refine box_event ?hg (N := 4) ?hd (cs := #[.int .i64 0, .slice none 0 0, .slice none 0 0, .slice none 0 0, .slice none 0 0, .slice none 0 0]) (t := 26) ?hr ?_; (case hd => rfl); (case hg => rfl); (case hr => first | (go_simp; done) | (go_simp; rfl)); intro g4 hg_ w2 bk2 hb2; have HM2 := Aside0.mk (HM.out.step hb2); have G4 := Aside0.mk (show w.heap.size < g4 from by rw [hg_]; exact blk_lt HM.out.blk); have K4 := Aside0.mk bk2; clear hg_ hb2 bk2) | ((with_reducible refine gate_dst (N := 5) rfl ?_); (try (refine gate_guard (by rfl) ?_; dsimp only)); refine box_event ?hg (N := 5) ?hd (cs := #[.slice none 0 0]) (t := 24) ?hr ?_; (case hd => rfl); (case hg => rfl); (case hr => first | (go_simp; done) | (go_simp; rfl)); intro g5 hg_ w3 bk3 hb3; have HM3 := Aside0.mk (HM2.out.step hb3); have G5 := Aside0.mk (show w.heap.size ≤ g5 from by rw [hg_]; exact HM2.out.below.size); have K43 := Aside0.mk (blk_below K4.out hb3); have K5 := Aside0.mk bk3; clear hg_ hb3 bk3; have z0 : w3.cell? ⟨w.heap.size, 0, none⟩ = some (.int .i64 a0) := (blk_cell HM3.out.blk 0).trans rfl; have z1 : w3.cell? ⟨w.heap.size, 1, none⟩ = some (.slice A1 l1.length c1) := (blk_cell HM3.out.blk 1).trans rfl; have z2 : w3.cell? ⟨w.heap.size, 2, none⟩ = some (.slice A2 l2.length c2) := (blk_cell HM3.out.blk 2).trans rfl; have z3 : w3.cell? ⟨w.heap.size, 3, none⟩ = some (.slice A3 l3.length c3) := (blk_cell HM3.out.blk 3).trans rfl; have z4 : w3.cell? ⟨w.heap.size, 4, none⟩ = some (.slice A4 l4.length c4) := (blk_cell HM3.out.blk 4).trans rfl; have z5 : w3.cell? ⟨w.heap.size, 5, none⟩ = some (.slice A5 l5.length c5) := (blk_cell HM3.out.blk 5).trans rfl) | (go_at_call 92; refine (HMAY.out _ HM3.out).mono ?_; rintro e w4 ⟨rfl, hb⟩; have HM4 := Aside0.mk (HM3.out.step hb); have K44 := Aside0.mk (blk_below K43.out hb); have K54 := Aside0.mk (blk_below K5.out hb); clear hb; clear z0 z1 z2 z3 z4 z5; have z0 : w4.cell? ⟨w.heap.size, 0, none⟩ = some (.int .i64 a0) := (blk_cell HM4.out.blk 0).trans rfl; have z1 : w4.cell? ⟨w.heap.size, 1, none⟩ = some (.slice A1 l1.length c1) := (blk_cell HM4.out.blk 1).trans rfl; have z2 : w4.cell? ⟨w.heap.size, 2, none⟩ = some (.slice A2 l2.length c2) := (blk_cell HM4.out.blk 2).trans rfl; have z3 : w4.cell? ⟨w.heap.size, 3, none⟩ = some (.slice A3 l3.length c3) := (blk_cell HM4.out.blk 3).trans rfl; have z4 : w4.cell? ⟨w.heap.size, 4, none⟩ = some (.slice A4 l4.length c4) := (blk_cell HM4.out.blk 4).trans rfl; have z5 : w4.cell? ⟨w.heap.size, 5, none⟩ = some (.slice A5 l5.length c5) := (blk_cell HM4.out.blk 5).trans rfl) | (go_at_call 101; refine (HVARS.out _ HM4.out).mono ?_; rintro e w5 ⟨rfl, hb⟩; have HM5 := Aside0.mk (HM4.out.step hb); have K45 := Aside0.mk (blk_below K44.out hb); have K55 := Aside0.mk (blk_below K54.out hb); clear hb; clear z0 z1 z2 z3 z4 z5; have z0 : w5.cell? ⟨w.heap.size, 0, none⟩ = some (.int .i64 a0) := (blk_cell HM5.out.blk 0).trans rfl; have z1 : w5.cell? ⟨w.heap.size, 1, none⟩ = some (.slice A1 l1.length c1) := (blk_cell HM5.out.blk 1).trans rfl; have z2 : w5.cell? ⟨w.heap.size, 2, none⟩ = some (.slice A2 l2.length c2) := (blk_cell HM5.out.blk 2).trans rfl; have z3 : w5.cell? ⟨w.heap.size, 3, none⟩ = some (.slice A3 l3.length c3) := (blk_cell HM5.out.blk 3).trans rfl; have z4 : w5.cell? ⟨w.heap.size, 4, none⟩ = some (.slice A4 l4.length c4) := (blk_cell HM5.out.blk 4).trans rfl; have z5 : w5.cell? ⟨w.heap.size, 5, none⟩ = some (.slice A5 l5.length c5) := (blk_cell HM5.out.blk 5).trans rfl; have y0 : w5.cell? ⟨g4, 0, none⟩ = some (.int .i64 0) := (blk_cell K45.out 0).trans rfl; have f0 := blk_frozen K45.out 0; have y1 : w5.cell? ⟨g4, 1, none⟩ = some (.slice none 0 0) := (blk_cell K45.out 1).trans rfl; have f1 := blk_frozen K45.out 1; have y2 : w5.cell? ⟨g4, 2, none⟩ = some (.slice none 0 0) := (blk_cell K45.out 2).trans rfl; have f2 := blk_frozen K45.out 2; have y3 : w5.cell? ⟨g4, 3, none⟩ = some (.slice none 0 0) := (blk_cell K45.out 3).trans rfl; have f3 := blk_frozen K45.out 3; have y4 : w5.cell? ⟨g4, 4, none⟩ = some (.slice none 0 0) := (blk_cell K45.out 4).trans rfl; have f4 := blk_frozen K45.out 4; have y5 : w5.cell? ⟨g4, 5, none⟩ = some (.slice none 0 0) := (blk_cell K45.out 5).trans rfl; have f5 := blk_frozen K45.out 5; have u0 : w5.cell? ⟨g5, 0, none⟩ = some (.slice none 0 0) := (blk_cell K55.out 0).trans rfl; have K4Y := K45; have K5Y := K55; have HMY := HM5; clear z0 z1 z2 z3 z4 z5) | ((with_reducible refine gate_store (t := 26) (p := .tmp 4) (x := .tmp 36) rfl ?_); refine skip_event (W' := ((((((w5).setCell ⟨g4, 0, none⟩ (.int .i64 0)).setCell ⟨g4, 1, none⟩ (.slice none 0 0)).setCell ⟨g4, 2, none⟩ (.slice none 0 0)).setCell ⟨g4, 3, none⟩ (.slice none 0 0)).setCell ⟨g4, 4, none⟩ (.slice none 0 0)).setCell ⟨g4, 5, none⟩ (.slice none 0 0)) ?hn ?hs ?hr ?_; (case hn => rfl); (case hs => rfl); (case hr => first | (go_simp; done) | (go_simp; rfl)); intro wx hw_; have KX4 := Aside0.mk (show wx.heap[g4]? = some (.cells #[.int .i64 0, .slice none 0 0, .slice none 0 0, .slice none 0 0, .slice none 0 0, .slice none 0 0] 26 (0, 0)) from by rw [hw_]; exact blk_set6 K4Y.out _ _ _ _ _ _); have KX5 := Aside0.mk (show wx.heap[g5]? = some (.cells #[.slice none 0 0] 24 (0, 0)) from by rw [hw_]; exact blk_far6 K5Y.out (blk_ne K5Y.out K4Y.out (by decide)) _ _ _ _ _ _); have HX := Aside0.mk (show Below w.heap.size w wx from by rw [hw_]; exact below_set6 HMY.out.below (Nat.le_of_lt G4.out) _ _ _ _ _ _); clear hw_ y0 y1 y2 y3 y4 y5 f0 f1 f2 f3 f4 f5 u0; have u0 : wx.cell? ⟨g5, 0, none⟩ = some (.slice none 0 0) := (blk_cell KX5.out 0).trans rfl; have v0 := blk_frozen KX5.out 0) | ((with_reducible refine gate_store (t := 24) (p := .tmp 5) (x := .const (.slice none 0 0)) rfl ?_); refine skip_event (W' := wx.setCell ⟨g5, 0, none⟩ (.slice none 0 0)) ?hn ?hs ?hr ?_; (case hn => rfl); (case hs => rfl); (case hr => first | (go_simp; done) | (go_simp; rfl)); intro wy hw_; have KY4 := Aside0.mk (show wy.heap[g4]? = some (.cells #[.int .i64 0, .slice none 0 0, .slice none 0 0, .slice none 0 0, .slice none 0 0, .slice none 0 0] 26 (0, 0)) from by rw [hw_]; exact blk_far KX4.out (p := ⟨g5, 0, none⟩) (blk_ne KX4.out KX5.out (by decide)) _); have KY5 := Aside0.mk (show wy.heap[g5]? = some (.cells #[.slice none 0 0] 24 (0, 0)) from by rw [hw_]; simpa using blk_set KX5.out 0 (.slice none 0 0)); have HY := Aside0.mk (show Below w.heap.size w wy from by rw [hw_]; exact HX.out.setCell (p := ⟨g5, 0, none⟩) G5.out _); clear hw_ u0 v0))
   refine bodyPost_ret (results43 _ wy g4 g5 #[.int .i64 0, .slice none 0 0, .slice none 0 0, .slice none 0 0, .slice none 0 0, .slice none 0 0] (.slice none 0 0) rfl KY4.out rfl rfl KY5.out) rfl ?_
   exact ⟨rfl, HY.out⟩
end Go.Proofs.Yteiiodlgdbiimaa.F
end
