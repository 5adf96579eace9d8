/- An argument that is read as data is a row of the contracts' kind. -/
import Derived.Test.YteiiodlgdbiimaaF0
import Derived.WalkKit
import Derived.ProofKit
import Derived.OpenShut
import Derived.ChangeOld
import Derived.Below
import Derived.SizedLaws
import Derived.Deep.Slices
import Derived.Deep.Fields
import Derived.ChangeSame
import Derived.Lib.SmallJoins
namespace Go.Proofs.Yteiiodlgdbiimaa.F
open Go.Joins Go.ChangeShapes Go.WideShapes Go.ChangeAt Go.Deep Go.RowKit Go.Proofs.YteiiodlgdbiimaaW.PrintWords Go.Proofs.YteiiodlgdbiimaaW.PrintLast Go.Proofs.YteiiodlgdbiimaaW.PrintMore
set_option linter.unusedVariables false
set_option linter.unusedSimpArgs false
section
variable {H : Type} {enc : TypeId × Value → H} {w : World} {base : Nat} {spare : Nat → Bool} {held : Bool}
theorem open_pairs {t e : TypeId} {fs : Array Field} {fuel : Nat} {cs : List Value} {x : DataW H × List MemPlace} (ht : Try.prog.underlying t = some (.slice e)) (he : Try.prog.underlying e = some (.struct fs))
    (hone : oneCellFields Try.prog fs = true) (hC : Try.prog.cellsOf e = fs.size) (h : DataW.trod enc Try.prog w base spare held fuel t cs = some x) :
    (cs = [.slice none 0 0] ∧ x = (.nil, [])) ∨
    ∃ (a : Addr) (len cap m : Nat) (D : Nat → DataW H) (Pl : Nat → List MemPlace), cs = [.slice (some a) len cap] ∧ base ≤ a.block ∧ len ≤ cap ∧ cap ≤ maxLen ∧ m = (if spare a.block then cap else len) ∧
      x = (.slice ((List.range len).map D) ((List.range (m - len)).map fun j => D (len + j)), MemPlace.row a (m * fs.size) ++ (List.range m).flatMap Pl) ∧
      ∀ i, i < m → ∃ (ys : List (DataW H × List MemPlace)) (n : Nat), D i = .agg (ys.map (·.1)) ∧ Pl i = ys.flatMap (·.2) ∧ ys.length = fs.size ∧
        ∀ (j : Nat) (f : Field), fs[j]? = some f → ∃ (v : Value) (y : DataW H × List MemPlace), w.cell? (a.add (i * fs.size + j)) = some v ∧ ys[j]? = some y ∧ DataW.trod enc Try.prog w base spare held n f.type [v] = some y := by
  rcases open_slice ht h with h0 | ⟨a, len, cap, m, n, D, Pl, hcs, hb, hl, hm, hmm, hx, hi⟩
  · exact .inl h0
  · refine .inr ⟨a, len, cap, m, D, Pl, hcs, hb, hl, hm, hmm, by rw [hC] at hx; exact hx, fun i him => ?_⟩
    obtain ⟨cs', hc, ht'⟩ := hi i him
    rw [hC] at hc
    obtain ⟨ys, n', hn', hy, hlen, hyl, hf⟩ := DataW.trod_struct he ht'
    obtain ⟨_, hcl, hat⟩ := World.cells?_some hc
    simp only [Prod.mk.injEq] at hy
    refine ⟨ys, n', hy.1, hy.2, hyl, fun j f hj => ?_⟩
    obtain ⟨ho, hk⟩ := hone_of hone j f hj
    have hjl : j < fs.size := (Array.getElem?_eq_some_iff.1 hj).1
    have hcell := hat j hjl
    have hv : cs'[j]? = some (cs'[j]'(by omega)) := List.getElem?_eq_getElem (by omega)
    have h1 := hf j f hj
    rw [ho, hk] at h1
    have hone' : (cs'.drop j).take 1 = [cs'[j]'(by omega)] := by
      rw [List.drop_eq_getElem_cons (by omega)]
      rfl
    rw [hone'] at h1
    have hys : ys[j]? = some (ys[j]'(by omega)) := List.getElem?_eq_getElem (by omega)
    refine ⟨_, _, ?_, hys, h1.trans hys⟩
    rw [← Go.Deep.add_add, hcell, hv]
end
section
variable {H : Type} {enc : TypeId × Value → H} {w : World} {base : Nat} {spare : Nat → Bool} {held : Bool}
set_option maxRecDepth 100000 in
theorem open_six {r : Reach} {b0 : Nat} {t : TypeId} {f0 f1 f2 f3 f4 f5 : Field} {v : Value} {d : DataW H} {p : List MemPlace} (hs : Try.prog.underlying t = some (.struct #[f0, f1, f2, f3, f4, f5])) (hone : oneCellFields Try.prog #[f0, f1, f2, f3, f4, f5] = true) (hC : Try.prog.cellsOf t = 6)
    (hv : Value.okWide Try.prog w r b0 t v) (h : DataW.Trod enc Try.prog w base spare held t v d p) :
    ∃ (v0 v1 v2 v3 v4 v5 : Value) (y0 y1 y2 y3 y4 y5 : DataW H × List MemPlace) (n : Nat), v = .agg #[v0, v1, v2, v3, v4, v5] ∧ d = .agg [y0.1, y1.1, y2.1, y3.1, y4.1, y5.1] ∧ p = y0.2 ++ (y1.2 ++ (y2.2 ++ (y3.2 ++ (y4.2 ++ y5.2)))) ∧
      DataW.trod enc Try.prog w base spare held n f0.type [v0] = some y0 ∧ DataW.trod enc Try.prog w base spare held n f1.type [v1] = some y1 ∧ DataW.trod enc Try.prog w base spare held n f2.type [v2] = some y2 ∧ DataW.trod enc Try.prog w base spare held n f3.type [v3] = some y3 ∧ DataW.trod enc Try.prog w base spare held n f4.type [v4] = some y4 ∧ DataW.trod enc Try.prog w base spare held n f5.type [v5] = some y5 := by
  obtain ⟨cs, rfl, hsz⟩ := okWide_struct hs hv
  obtain ⟨l⟩ := cs
  match l, hsz.trans hC with
  | [c0, c1, c2, c3, c4, c5], _ =>
    obtain ⟨fuel, hf⟩ := h
    obtain ⟨xs, n, _, hx, _, hlen, hg⟩ := DataW.trod_struct hs hf
    obtain ⟨o0, k0⟩ := hone_of hone 0 f0 rfl
    obtain ⟨o1, k1⟩ := hone_of hone 1 f1 rfl
    obtain ⟨o2, k2⟩ := hone_of hone 2 f2 rfl
    obtain ⟨o3, k3⟩ := hone_of hone 3 f3 rfl
    obtain ⟨o4, k4⟩ := hone_of hone 4 f4 rfl
    obtain ⟨o5, k5⟩ := hone_of hone 5 f5 rfl
    match xs, hlen with
    | [y0, y1, y2, y3, y4, y5], _ =>
      simp only [Prod.mk.injEq] at hx
      exact ⟨c0, c1, c2, c3, c4, c5, y0, y1, y2, y3, y4, y5, n, rfl, by simpa using hx.1, by simpa using hx.2, by simpa [Value.cells, o0, k0] using hg 0 f0 rfl, by simpa [Value.cells, o1, k1] using hg 1 f1 rfl, by simpa [Value.cells, o2, k2] using hg 2 f2 rfl, by simpa [Value.cells, o3, k3] using hg 3 f3 rfl, by simpa [Value.cells, o4, k4] using hg 4 f4 rfl, by simpa [Value.cells, o5, k5] using hg 5 f5 rfl⟩
end

theorem list_of {α : Type} (Q : Nat → α → Prop) : ∀ n : Nat, (∀ i, i < n → ∃ g, Q i g) → ∃ l : List α, l.length = n ∧ ∀ i g, l[i]? = some g → Q i g
  | 0, _ => ⟨[], rfl, fun i g h => by simp at h⟩
  | n + 1, h => by
    obtain ⟨l, hl, hq⟩ := list_of Q n (fun i hi => h i (by omega))
    obtain ⟨g, hg⟩ := h n (by omega)
    refine ⟨l ++ [g], by simp [hl], fun i x hx => ?_⟩
    by_cases hi : i < n
    · rw [List.getElem?_append_left (by omega)] at hx
      exact hq i x hx
    · have hi2 : i = n := by
        have := (List.getElem?_eq_some_iff.1 hx).1
        simp only [List.length_append, List.length_singleton, hl] at this
        omega
      subst hi2
      rw [List.getElem?_append_right (by omega), hl] at hx
      simp at hx
      rw [← hx]
      exact hg
theorem wf_u32 {x : Int} (h : (Lit.int .u32 x).wf = true) : 0 ≤ x ∧ x < 4294967296 := by
  simp only [Lit.wf, Bool.and_eq_true, decide_eq_true_eq] at h
  rw [show IntKind.u32.min = 0 from by decide, show IntKind.u32.max = 4294967295 from by decide] at h
  omega
theorem wf_u8 {x : Int} (h : (Lit.int .u8 x).wf = true) : 0 ≤ x ∧ x < 256 := by
  simp only [Lit.wf, Bool.and_eq_true, decide_eq_true_eq] at h
  rw [show IntKind.u8.min = 0 from by decide, show IntKind.u8.max = 255 from by decide] at h
  omega
theorem wf_i64 {x : Int} (h : (Lit.int .i64 x).wf = true) : -9223372036854775808 ≤ x ∧ x < 9223372036854775808 := by
  simp only [Lit.wf, Bool.and_eq_true, decide_eq_true_eq] at h
  rw [show IntKind.i64.min = -9223372036854775808 from by decide, show IntKind.i64.max = 9223372036854775807 from by decide] at h
  omega

theorem open41 {H : Type} {enc : TypeId × Value → H} {w : World} {base : Nat} {sp : Nat → Bool} {held : Bool} {fuel : Nat} {v : Value} {x : DataW H × List MemPlace} (h : DataW.trod enc Try.prog w base sp held fuel 22 [v] = some x) :
    ∃ (A : Option Addr) (c : Nat) (l : List S41), v = .slice A l.length c ∧ l.length ≤ c ∧ Kd.C k41 w A l.length l ∧ ∀ g ∈ l, (0 ≤ g.f0 ∧ g.f0 < 4294967296) ∧ (0 ≤ g.f1 ∧ g.f1 < 256) := by
  rcases open_pairs Try.underlying22 Try.underlying41 (by kernel_rfl) (by kernel_rfl) h with ⟨hcs, _⟩ | ⟨a, len, cap, m, D, Pl, hcs, hb, hl, hm, hmm, _, hi⟩
  · injection hcs with e1 _
    exact ⟨none, 0, [], e1, Nat.le_refl _, ⟨rfl, by simp, fun h => absurd h (by simp)⟩, fun g hg => by cases hg⟩
  · injection hcs with e1 _
    have hlm : len ≤ m := by rw [hmm]; split <;> omega
    obtain ⟨l, hll, hq⟩ := list_of (fun i (g : S41) => (w.cell? (a.add (i * 2 + 0)) = some (.int .u32 g.f0) ∧ w.cell? (a.add (i * 2 + 1)) = some (.int .u8 g.f1)) ∧ (0 ≤ g.f0 ∧ g.f0 < 4294967296) ∧ (0 ≤ g.f1 ∧ g.f1 < 256)) len (fun i hlt => by
      obtain ⟨ys, n, _, _, _, hf⟩ := hi i (by omega)
      obtain ⟨v0, y0, c0, _, t0⟩ := hf 0 _ rfl
      obtain ⟨v1, y1, c1, _, t1⟩ := hf 1 _ rfl
      obtain ⟨n0, e0, _, w0⟩ := DataW.trod_int Try.underlying39 t0
      obtain ⟨n1, e1', _, w1⟩ := DataW.trod_int Try.underlying5 t1
      injection e0 with e0 _
      injection e1' with e1' _
      subst e0
      subst e1'
      exact ⟨⟨n0, n1⟩, ⟨c0, c1⟩, wf_u32 w0, wf_u8 w1⟩)
    refine ⟨some a, cap, l, by rw [hll]; exact e1, by omega, ⟨rfl, by simp only [maxLen] at hm; omega, fun _ => ⟨a, rfl, fun j p hj => ⟨[.int .u32 p.f0, .int .u8 p.f1], rfl, k41_mk w p, fun i u hu => ?_⟩⟩⟩, fun g hg => ?_⟩
    · obtain ⟨⟨q0, q1⟩, _⟩ := hq j p hj
      cases i with
      | zero =>
        cases hu
        exact q0
      | succ i =>
        cases i with
        | zero =>
          cases hu
          exact q1
        | succ i => simp at hu
    · obtain ⟨j, hj, rfl⟩ := List.mem_iff_getElem.1 hg
      exact (hq j _ (List.getElem?_eq_getElem hj)).2

theorem open68 {H : Type} {enc : TypeId × Value → H} {w : World} {base : Nat} {sp : Nat → Bool} {held : Bool} {fuel : Nat} {v : Value} {x : DataW H × List MemPlace} (h : DataW.trod enc Try.prog w base sp held fuel 23 [v] = some x) :
    ∃ (A : Option Addr) (c : Nat) (l : List S68), v = .slice A l.length c ∧ l.length ≤ c ∧ Kd.C k68 w A l.length l ∧ ∀ g ∈ l, (0 ≤ g.f0 ∧ g.f0 < 4294967296) ∧ (0 ≤ g.f1 ∧ g.f1 < 4294967296) := by
  rcases open_pairs Try.underlying23 Try.underlying68 (by kernel_rfl) (by kernel_rfl) h with ⟨hcs, _⟩ | ⟨a, len, cap, m, D, Pl, hcs, hb, hl, hm, hmm, _, hi⟩
  · injection hcs with e1 _
    exact ⟨none, 0, [], e1, Nat.le_refl _, ⟨rfl, by simp, fun h => absurd h (by simp)⟩, fun g hg => by cases hg⟩
  · injection hcs with e1 _
    have hlm : len ≤ m := by rw [hmm]; split <;> omega
    obtain ⟨l, hll, hq⟩ := list_of (fun i (g : S68) => (w.cell? (a.add (i * 2 + 0)) = some (.int .u32 g.f0) ∧ w.cell? (a.add (i * 2 + 1)) = some (.int .u32 g.f1)) ∧ (0 ≤ g.f0 ∧ g.f0 < 4294967296) ∧ (0 ≤ g.f1 ∧ g.f1 < 4294967296)) len (fun i hlt => by
      obtain ⟨ys, n, _, _, _, hf⟩ := hi i (by omega)
      obtain ⟨v0, y0, c0, _, t0⟩ := hf 0 _ rfl
      obtain ⟨v1, y1, c1, _, t1⟩ := hf 1 _ rfl
      obtain ⟨n0, e0, _, w0⟩ := DataW.trod_int Try.underlying39 t0
      obtain ⟨n1, e1', _, w1⟩ := DataW.trod_int Try.underlying39 t1
      injection e0 with e0 _
      injection e1' with e1' _
      subst e0
      subst e1'
      exact ⟨⟨n0, n1⟩, ⟨c0, c1⟩, wf_u32 w0, wf_u32 w1⟩)
    refine ⟨some a, cap, l, by rw [hll]; exact e1, by omega, ⟨rfl, by simp only [maxLen] at hm; omega, fun _ => ⟨a, rfl, fun j p hj => ⟨[.int .u32 p.f0, .int .u32 p.f1], rfl, k68_mk w p, fun i u hu => ?_⟩⟩⟩, fun g hg => ?_⟩
    · obtain ⟨⟨q0, q1⟩, _⟩ := hq j p hj
      cases i with
      | zero =>
        cases hu
        exact q0
      | succ i =>
        cases i with
        | zero =>
          cases hu
          exact q1
        | succ i => simp at hu
    · obtain ⟨j, hj, rfl⟩ := List.mem_iff_getElem.1 hg
      exact (hq j _ (List.getElem?_eq_getElem hj)).2

theorem openU {H : Type} {enc : TypeId × Value → H} {w : World} {base : Nat} {sp : Nat → Bool} {held : Bool} {fuel : Nat} {v : Value} {x : DataW H × List MemPlace} (h : DataW.trod enc Try.prog w base sp held fuel 24 [v] = some x) :
    ∃ (A : Option Addr) (c : Nat) (l : List Int), v = .slice A l.length c ∧ l.length ≤ c ∧ Kd.C (Kd.int .u32) w A l.length l ∧ ∀ g ∈ l, 0 ≤ g ∧ g < 4294967296 := by
  rcases open_ints Try.underlying24 Try.underlying39 (by kernel_rfl) h with ⟨hcs, _⟩ | ⟨a, len, cap, zs, hcs, _, hl, hm, hz, _, hcell, hwz⟩
  · injection hcs with e1 _
    exact ⟨none, 0, [], e1, Nat.le_refl _, ⟨rfl, by simp, fun h => absurd h (by simp)⟩, fun g hg => by cases hg⟩
  · injection hcs with e1 _
    have hlz : len ≤ zs.length := by rw [hz]; split <;> omega
    have hlen : (zs.take len).length = len := by rw [List.length_take]; omega
    refine ⟨some a, cap, zs.take len, by rw [hlen]; exact e1, by omega, ⟨rfl, by simp only [maxLen] at hm; omega, fun _ => ⟨a, rfl, fun j p hj => ⟨[.int .u32 p], rfl, rfl, fun i u hu => ?_⟩⟩⟩, fun g hg => wf_u32 (hwz g (List.mem_of_mem_take hg))⟩
    cases i with
    | zero =>
      cases hu
      obtain ⟨hj1, hj2⟩ := List.getElem?_eq_some_iff.1 hj
      have hj3 : j < zs.length := by omega
      have := hcell j hj3
      rw [List.getD_eq_getElem?_getD, List.getElem?_eq_getElem hj3, Option.getD_some] at this
      rw [List.getElem_take] at hj2
      rw [hj2] at this
      show w.cell? (a.add (j * 1 + 0)) = _
      rw [Nat.mul_one, Nat.add_zero]
      exact this
    | succ i => simp at hu

theorem openB {H : Type} {enc : TypeId × Value → H} {w : World} {base : Nat} {sp : Nat → Bool} {held : Bool} {fuel : Nat} {v : Value} {x : DataW H × List MemPlace} (h : DataW.trod enc Try.prog w base sp held fuel 28 [v] = some x) :
    ∃ (A : Option Addr) (c : Nat) (l : List Int), v = .slice A l.length c ∧ l.length ≤ c ∧ Kd.C (Kd.int .u8) w A l.length l ∧ ∀ g ∈ l, 0 ≤ g ∧ g < 256 := by
  rcases open_ints Try.underlying28 Try.underlying5 (by kernel_rfl) h with ⟨hcs, _⟩ | ⟨a, len, cap, zs, hcs, _, hl, hm, hz, _, hcell, hwz⟩
  · injection hcs with e1 _
    exact ⟨none, 0, [], e1, Nat.le_refl _, ⟨rfl, by simp, fun h => absurd h (by simp)⟩, fun g hg => by cases hg⟩
  · injection hcs with e1 _
    have hlz : len ≤ zs.length := by rw [hz]; split <;> omega
    have hlen : (zs.take len).length = len := by rw [List.length_take]; omega
    refine ⟨some a, cap, zs.take len, by rw [hlen]; exact e1, by omega, ⟨rfl, by simp only [maxLen] at hm; omega, fun _ => ⟨a, rfl, fun j p hj => ⟨[.int .u8 p], rfl, rfl, fun i u hu => ?_⟩⟩⟩, fun g hg => wf_u8 (hwz g (List.mem_of_mem_take hg))⟩
    cases i with
    | zero =>
      cases hu
      obtain ⟨hj1, hj2⟩ := List.getElem?_eq_some_iff.1 hj
      have hj3 : j < zs.length := by omega
      have := hcell j hj3
      rw [List.getD_eq_getElem?_getD, List.getElem?_eq_getElem hj3, Option.getD_some] at this
      rw [List.getElem_take] at hj2
      rw [hj2] at this
      show w.cell? (a.add (j * 1 + 0)) = _
      rw [Nat.mul_one, Nat.add_zero]
      exact this
    | succ i => simp at hu

/-- numbers within a kind of 32 bits, told as a fact on a list -/
def InU32 (l : List Int) : Prop := ∀ g ∈ l, 0 ≤ g ∧ g < 4294967296
def InU8 (l : List Int) : Prop := ∀ g ∈ l, 0 ≤ g ∧ g < 256
def In41 (l : List S41) : Prop := ∀ g ∈ l, (0 ≤ g.f0 ∧ g.f0 < 4294967296) ∧ (0 ≤ g.f1 ∧ g.f1 < 256)
def In68 (l : List S68) : Prop := ∀ g ∈ l, (0 ≤ g.f0 ∧ g.f0 < 4294967296) ∧ (0 ≤ g.f1 ∧ g.f1 < 4294967296)
set_option maxRecDepth 100000 in
/-- api.Circuit -/
theorem openCirc {H : Type} {enc : TypeId × Value → H} {w : World} {base : Nat} {sp : Nat → Bool} {held : Bool} {r : Reach} {b0 : Nat} {v : Value} {d : DataW H} {p : List MemPlace} (hv : Value.okWide Try.prog w r b0 26 v) (h : DataW.Trod enc Try.prog w base sp held 26 v d p) :
    ∃ (a0 : Int) (A1 : Option Addr) (c1 : Nat) (l1 : List S41) (A2 : Option Addr) (c2 : Nat) (l2 : List S68) (A3 : Option Addr) (c3 : Nat) (l3 : List Int) (A4 : Option Addr) (c4 : Nat) (l4 : List Int) (A5 : Option Addr) (c5 : Nat) (l5 : List Int),
      v = .agg #[.int .i64 a0, .slice A1 l1.length c1, .slice A2 l2.length c2, .slice A3 l3.length c3, .slice A4 l4.length c4, .slice A5 l5.length c5] ∧
      (-9223372036854775808 ≤ a0 ∧ a0 < 9223372036854775808) ∧ (l1.length ≤ c1 ∧ Kd.C k41 w A1 l1.length l1 ∧ In41 l1) ∧ (l2.length ≤ c2 ∧ Kd.C k68 w A2 l2.length l2 ∧ In68 l2) ∧
      (l3.length ≤ c3 ∧ Kd.C (Kd.int .u32) w A3 l3.length l3 ∧ InU32 l3) ∧ (l4.length ≤ c4 ∧ Kd.C (Kd.int .u32) w A4 l4.length l4 ∧ InU32 l4) ∧ (l5.length ≤ c5 ∧ Kd.C (Kd.int .u32) w A5 l5.length l5 ∧ InU32 l5) := by
  obtain ⟨v0, v1, v2, v3, v4, v5, y0, y1, y2, y3, y4, y5, n, rfl, _, _, t0, t1, t2, t3, t4, t5⟩ := open_six Try.underlying26 (by kernel_rfl) (by kernel_rfl) hv h
  obtain ⟨a0, e0, _, w0⟩ := DataW.trod_int Try.underlying3 t0
  injection e0 with e0 _
  subst e0
  obtain ⟨A1, c1, l1, rfl, h1, k1, i1⟩ := open41 t1
  obtain ⟨A2, c2, l2, rfl, h2, k2, i2⟩ := open68 t2
  obtain ⟨A3, c3, l3, rfl, h3, k3, i3⟩ := openU t3
  obtain ⟨A4, c4, l4, rfl, h4, k4, i4⟩ := openU t4
  obtain ⟨A5, c5, l5, rfl, h5, k5, i5⟩ := openU t5
  exact ⟨a0, A1, c1, l1, A2, c2, l2, A3, c3, l3, A4, c4, l4, A5, c5, l5, rfl, wf_i64 w0, ⟨h1, k1, i1⟩, ⟨h2, k2, i2⟩, ⟨h3, k3, i3⟩, ⟨h4, k4, i4⟩, ⟨h5, k5, i5⟩⟩
end Go.Proofs.Yteiiodlgdbiimaa.F
