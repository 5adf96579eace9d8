/- cone.of comes to what counts for literals. -/
import Derived.Test.YteiiodlgdbiimaaXGrow
import Derived.Test.YteiiodlgdbiimaaXFine
import Derived.Test.YteiiodlgdbiimaaFn101
namespace Go.Proofs.Yteiiodlgdbiimaa.F
open Go.RowKit Go.Shelf Go.Proofs.YteiiodlgdbiimaaW.PrintWords Go.Proofs.YteiiodlgdbiimaaW.PrintLast Go.Proofs.YteiiodlgdbiimaaW.PrintMore
set_option linter.unusedVariables false
set_option linter.unusedSimpArgs false

set_option maxHeartbeats 4000000 in
theorem of140 (V x : Int) (g : Nat) (w : World) (hb : w.heap[g]? = some (.cells #[.int .i64 V] 3 (0, 0))) :
    Calls Try.prog 140 #[.int .u32 x, .pointer (some ⟨g, 0, none⟩)] w fun e w' => e = .returned (.bool (beyW V x)) ∧ Below w.heap.size w w' := by
  have h0 : w.cell? ⟨g, 0, none⟩ = some (.int .i64 V) := (blk_cell hb 0).trans rfl
  clear hb
  go_enter Try.func140, Try.ntmps140
  go_wp2
  go_ret
  exact ⟨rfl, Below.refl _ _⟩
theorem any_range (p : Int → Bool) (l : List Int) : l.any p = (List.range l.length).any (fun j => p (l.getD j 0)) := by
  rw [Bool.eq_iff_iff, List.any_eq_true, List.any_eq_true]
  constructor
  · rintro ⟨x, hx, hp⟩
    obtain ⟨j, hj, rfl⟩ := List.mem_iff_getElem.1 hx
    exact ⟨j, List.mem_range.2 hj, by simpa [List.getD_eq_getElem?_getD, List.getElem?_eq_getElem hj] using hp⟩
  · rintro ⟨j, hj, hp⟩
    have hj' := List.mem_range.1 hj
    exact ⟨l[j], List.getElem_mem hj', by simpa [List.getD_eq_getElem?_getD, List.getElem?_eq_getElem hj'] using hp⟩
theorem ofAny (V : Int) (g : Nat) (W : World) (hb : W.heap[g]? = some (.cells #[.int .i64 V] 3 (0, 0))) (A : Option Addr) (c : Nat) (l : List Int) (hl : Kd.C (Kd.int .u32) W A l.length l) :
    Calls Try.prog 139 #[.slice A l.length c, .func (.func 140) #[] #[.pointer (some ⟨g, 0, none⟩)]] W fun e w' => e = .returned (.bool (l.any (beyW V))) ∧ Below W.heap.size W w' := by
  rw [any_range]
  refine contains177 140 #[.pointer (some ⟨g, 0, none⟩)] (enters_of Try.func140 (by kernel_rfl) rfl) (fun j => .int .u32 (l.getD j 0)) _ A l.length c W hl.2.1 (fun j hj => ?_) (fun j hj W' hb' => ?_)
  · obtain ⟨ad, e, hx⟩ := Kd.at_int hl (j : Int) (by omega) (by omega)
    exact ⟨ad, e, by simpa [rd] using hx⟩
  · exact of140 V _ g W' (blk_below hb hb')

/-- what counts for literals: the bits that of lays -/
def coneOf (a0 : Int) (l1 : List S41) (l2 : List S68) (lits : List Int) (ever : Bool) : List Bool :=
  (growP a0 l1 l2 ever ((a0 + (l1.length : Int) + (l2.length : Int) + 1).toNat + 1) (addsP lits (List.replicate (a0 + (l1.length : Int) + (l2.length : Int) + 1).toNat false, [])) 0).1
theorem reps_bools (m : Nat) : (madeCells #[Value.bool false] m).toList = encs Value.bool (List.replicate m false) := by
  apply List.ext_getElem
  · simp [encs, size_madeCells]
  · intro i h1 h2
    simp [encs, madeCells, Nat.mod_one]
theorem ConeSt.new {a0 : Int} {A1 : Option Addr} {c1 : Nat} {l1 : List S41} {A2 : Option Addr} {c2 : Nat} {l2 : List S68} {A3 : Option Addr} {c3 : Nat} {l3 : List Int} {A4 : Option Addr} {c4 : Nat} {l4 : List Int} {A5 : Option Addr} {c5 : Nat} {l5 : List Int} (ever : Bool) (w0 W : World) (n : Nat) (hn : n ≤ 1000000) (hB : Below w0.heap.size w0 W) :
    ConeSt a0 A1 c1 l1 A2 c2 l2 A3 c3 l3 A4 c4 l4 A5 c5 l5 ever w0 (W.heap.size + 1) W.heap.size n n (List.replicate n false) [] ((W.alloc (.cells (madeCells #[.bool false] n) 4)).alloc (.cells #[.int .i64 a0, .slice A1 l1.length c1, .slice A2 l2.length c2, .slice A3 l3.length c3, .slice A4 l4.length c4, .slice A5 l5.length c5, .slice (some ⟨W.heap.size, 0, none⟩) n n, .slice none 0 0, .bool ever] 150)) := by
  have ho : (W.alloc (.cells (madeCells #[.bool false] n) 4)).ownsRow w0.heap.size 4 1 (.slice (some ⟨W.heap.size, 0, none⟩) n n) n (encs Value.bool (List.replicate n false)) := by
    rw [← reps_bools]
    exact World.ownsRow_lit (base := w0.heap.size) (e := 4) (size := 1) W (madeCells #[.bool false] n) n hB.size (by simp only [maxLen]; omega) (by simp [size_madeCells])
  have hR : Kd.R Kd.bool 4 (W.alloc (.cells (madeCells #[.bool false] n) 4)) w0.heap.size (fun _ => True) (.slice (some ⟨W.heap.size, 0, none⟩) n n) (List.replicate n false) :=
    Kd.R_of_own (enc := Value.bool) (h1 := fun _ => rfl) (by rw [List.length_replicate]; exact ho) (fun _ _ => trivial)
  have hsz : (W.alloc (.cells (madeCells #[.bool false] n) 4)).heap.size = W.heap.size + 1 := by simp
  refine ⟨(hB.alloc hB.size _).alloc (by rw [hsz]; have := hB.size; omega) _, by have := hB.size; omega, List.length_replicate, Kd.R_below hR (below_alloc (Below.refl _ _) _), .slice none 0 0, ?_, Kd.R_nil _ _ _ _ _⟩
  rw [← hsz]
  exact blk_new _ _
def cone_of.f (a0_0 : Int) (l0_1 : List (S41)) (l0_2 : List (S68)) (l0_3 : List Int) (l0_4 : List Int) (l0_5 : List Int) (l1 : List Int) (a2 : Bool) : Option (List Bool × Int) :=
  if okIn l0_1 l0_2 = true ∧ u32s l1 = true then
    if mayB a0_0 l0_1 l0_2 l0_3 l0_4 l0_5 = true ∧ l1.any (beyW (varsW a0_0 l0_1.length l0_2.length)) = false then some (coneOf a0_0 l0_1 l0_2 l1 a2, 0) else some ([], 2)
  else none

set_option maxHeartbeats 8000000 in
set_option maxRecDepth 100000 in
theorem cone_of.calls (a0 : Int) (A1 : Option Addr) (c1 : Nat) (l1 : List S41) (A2 : Option Addr) (c2 : Nat) (l2 : List S68) (A3 : Option Addr) (c3 : Nat) (l3 : List Int) (A4 : Option Addr) (c4 : Nat) (l4 : List Int) (A5 : Option Addr) (c5 : Nat) (l5 : List Int) (AL : Option Addr) (cL : Nat) (ls : List Int) (ever : Bool) (r1 : List Bool) (r2 : Int) (w : World) (hr1 : Kd.C k41 w A1 l1.length l1) (hc1 : l1.length ≤ c1) (hr2 : Kd.C k68 w A2 l2.length l2) (hc2 : l2.length ≤ c2) (hr3 : Kd.C (Kd.int .u32) w A3 l3.length l3) (hc3 : l3.length ≤ c3) (hr4 : Kd.C (Kd.int .u32) w A4 l4.length l4) (hc4 : l4.length ≤ c4) (hr5 : Kd.C (Kd.int .u32) w A5 l5.length l5) (hc5 : l5.length ≤ c5) (hrL : Kd.C (Kd.int .u32) w AL ls.length ls) (hcL : ls.length ≤ cL)
    (h : cone_of.f a0 l1 l2 l3 l4 l5 ls ever = some (r1, r2)) :
    Calls Try.prog 90 #[.agg #[.int .i64 a0, .slice A1 l1.length c1, .slice A2 l2.length c2, .slice A3 l3.length c3, .slice A4 l4.length c4, .slice A5 l5.length c5], .slice AL ls.length cL, .bool ever] w fun e w' => ∃ v0_ : Value, e = .returned (.tuple #[v0_, .int .i64 r2]) ∧ Kd.R Kd.bool 4 w' w.heap.size (fun _ => True) v0_ r1 ∧ Below w.heap.size w w' := by
  have hu26 := Try.underlying26
  have hu150 := Try.underlying150
  have HMAY := Aside0.mk (fun W (h : MayAt a0 A1 c1 l1 A2 c2 l2 A3 c3 l3 A4 c4 l4 A5 c5 l5 w.heap.size w W) => norm_May.calls a0 A1 c1 l1 A2 c2 l2 A3 c3 l3 A4 c4 l4 A5 c5 l5 _ W h.h1 hc1 h.h2 hc2 h.h3 hc3 h.h4 hc4 h.h5 hc5 rfl)
  have HVARS := Aside0.mk (fun W (h : MayAt a0 A1 c1 l1 A2 c2 l2 A3 c3 l3 A4 c4 l4 A5 c5 l5 w.heap.size w W) => norm_Vars.calls a0 A1 c1 l1 A2 c2 l2 A3 c3 l3 A4 c4 l4 A5 c5 l5 (if mayB a0 l1 l2 l3 l4 l5 = true then varsW a0 l1.length l2.length else 0) W h.h1 hc1 h.h2 hc2 h.h3 hc3 h.h4 hc4 h.h5 hc5 (by
    simp only [norm_Vars.f, norm_May.f, norm_vars.f, Option.bind_some]
    split <;> rfl))
  have HL := Aside0.mk hrL
  have H0 := Aside0.mk (fun W (hb : Below w.heap.size w W) (hk : W.heap[w.heap.size]? = some (.cells #[.int .i64 a0, .slice A1 l1.length c1, .slice A2 l2.length c2, .slice A3 l3.length c3, .slice A4 l4.length c4, .slice A5 l5.length c5] 26 (0, 0))) => (⟨hb, hk, Kd.C_below hr1 hb, Kd.C_below hr2 hb, Kd.C_below hr3 hb, Kd.C_below hr4 hb, Kd.C_below hr5 hb⟩ : MayAt a0 A1 c1 l1 A2 c2 l2 A3 c3 l3 A4 c4 l4 A5 c5 l5 w.heap.size w W))
  have HRR := Aside0.mk (And.intro hr1 hr2)
  clear hr1 hr2 hr3 hr4 hr5 hrL
  unfold cone_of.f at h
  split at h
  case isFalse => cases h
  case isTrue hok =>
  obtain ⟨hok, hul⟩ := hok
  cases hm : mayB a0 l1 l2 l3 l4 l5 with
  | false =>
    rw [hm] at h HMAY HVARS
    rw [if_neg (by simp)] at HVARS
    rw [if_neg (by simp)] at h
    obtain ⟨rfl, rfl⟩ := Prod.mk.inj (Option.some.inj h)
    clear h hm hok hul HRR HL
    go_enter Try.func90, Try.ntmps90
    go_wp2_with (first | ((with_reducible refine gate_dst (N := 3) rfl ?_); (try (refine gate_guard (by rfl) ?_; dsimp only)); refine box_event ?hg (N := 3) ?hd (cs := #[.int .i64 a0, .slice A1 l1.length c1, .slice A2 l2.length c2, .slice A3 l3.length c3, .slice A4 l4.length c4, .slice A5 l5.length c5]) (t := 26) ?hr ?_; (case hd => rfl); (case hg => rfl); (case hr => first | (go_simp; done) | (go_simp; rfl)); intro g hg_ w1 BK HB; subst hg_; have z0 : w1.cell? ⟨w.heap.size, 0, none⟩ = some (.int .i64 a0) := (blk_cell BK 0).trans rfl; have z1 : w1.cell? ⟨w.heap.size, 1, none⟩ = some (.slice A1 l1.length c1) := (blk_cell BK 1).trans rfl; have z2 : w1.cell? ⟨w.heap.size, 2, none⟩ = some (.slice A2 l2.length c2) := (blk_cell BK 2).trans rfl; have z3 : w1.cell? ⟨w.heap.size, 3, none⟩ = some (.slice A3 l3.length c3) := (blk_cell BK 3).trans rfl; have z4 : w1.cell? ⟨w.heap.size, 4, none⟩ = some (.slice A4 l4.length c4) := (blk_cell BK 4).trans rfl; have z5 : w1.cell? ⟨w.heap.size, 5, none⟩ = some (.slice A5 l5.length c5) := (blk_cell BK 5).trans rfl; have HM := Aside0.mk (H0.out _ HB BK)) | (go_at_call 101; refine (HVARS.out _ HM.out).mono ?_; rintro e w2 ⟨rfl, hb2⟩; have HM2 := Aside0.mk (HM.out.step hb2); clear z0 z1 z2 z3 z4 z5 BK HB hb2) | ((with_reducible refine gate_dst (N := 8) rfl ?_); (try (refine gate_guard (by rfl) ?_; dsimp only)); refine box_event ?hg (N := 8) ?hd (cs := #[.int .i64 0]) (t := 3) ?hr ?_; (case hd => rfl); (case hg => rfl); (case hr => first | (go_simp; done) | (go_simp; rfl)); intro g8 hg_ w3 bk3 hb3; have ge8 := Aside0.mk (Nat.le_of_eq hg_.symm); clear hg_; have y8 : w3.cell? ⟨g8, 0, none⟩ = some (.int .i64 0) := (blk_cell bk3 0).trans rfl; have f8 := blk_frozen bk3 0; have BK8 := Aside0.mk (show (w3.setCell ⟨g8, 0, none⟩ (.int .i64 0)).heap[g8]? = some (.cells #[.int .i64 0] 3 (0, 0)) from by simpa using blk_set bk3 0 (.int .i64 0)); have HM3 := Aside0.mk (HM2.out.step (hb3.setCell (p := ⟨g8, 0, none⟩) ge8.out (.int .i64 0))); have z0 : (w3.setCell ⟨g8, 0, none⟩ (.int .i64 _)).cell? ⟨w.heap.size, 0, none⟩ = some (.int .i64 a0) := (blk_cell HM3.out.blk 0).trans rfl; have z1 : (w3.setCell ⟨g8, 0, none⟩ (.int .i64 _)).cell? ⟨w.heap.size, 1, none⟩ = some (.slice A1 l1.length c1) := (blk_cell HM3.out.blk 1).trans rfl; have z2 : (w3.setCell ⟨g8, 0, none⟩ (.int .i64 _)).cell? ⟨w.heap.size, 2, none⟩ = some (.slice A2 l2.length c2) := (blk_cell HM3.out.blk 2).trans rfl; have z3 : (w3.setCell ⟨g8, 0, none⟩ (.int .i64 _)).cell? ⟨w.heap.size, 3, none⟩ = some (.slice A3 l3.length c3) := (blk_cell HM3.out.blk 3).trans rfl; have z4 : (w3.setCell ⟨g8, 0, none⟩ (.int .i64 _)).cell? ⟨w.heap.size, 4, none⟩ = some (.slice A4 l4.length c4) := (blk_cell HM3.out.blk 4).trans rfl; have z5 : (w3.setCell ⟨g8, 0, none⟩ (.int .i64 _)).cell? ⟨w.heap.size, 5, none⟩ = some (.slice A5 l5.length c5) := (blk_cell HM3.out.blk 5).trans rfl) | (go_at_call 92; refine (HMAY.out _ HM3.out).mono ?_; rintro e w4 ⟨rfl, hb4⟩; have HM4 := Aside0.mk (HM3.out.step hb4); have BK84 := Aside0.mk (blk_below BK8.out hb4)))
    go_ret2
    exact ⟨_, rfl, Kd.R_nil _ _ _ _ _, HM4.out.below⟩
  | true =>
    rw [hm] at h HMAY HVARS
    rw [if_pos rfl] at HVARS
    obtain ⟨HVA, hV⟩ := valid_of_may hok hm
    rw [hV] at h HVARS
    generalize hVV : a0 + (l1.length : Int) + (l2.length : Int) = V at h HVARS
    cases ha : ls.any (beyW V) with
    | true =>
      rw [ha] at h
      rw [if_neg (by simp)] at h
      obtain ⟨rfl, rfl⟩ := Prod.mk.inj (Option.some.inj h)
      have HA := Aside0.mk (fun (g : Nat) (W : World) hb hl => by have := ofAny V g W hb AL cL ls hl; rw [ha] at this; exact this)
      clear h hm hok hul HRR ha hV hVV HVA
      go_enter Try.func90, Try.ntmps90
      go_wp2_with (first | ((with_reducible refine gate_dst (N := 3) rfl ?_); (try (refine gate_guard (by rfl) ?_; dsimp only)); refine box_event ?hg (N := 3) ?hd (cs := #[.int .i64 a0, .slice A1 l1.length c1, .slice A2 l2.length c2, .slice A3 l3.length c3, .slice A4 l4.length c4, .slice A5 l5.length c5]) (t := 26) ?hr ?_; (case hd => rfl); (case hg => rfl); (case hr => first | (go_simp; done) | (go_simp; rfl)); intro g hg_ w1 BK HB; subst hg_; have z0 : w1.cell? ⟨w.heap.size, 0, none⟩ = some (.int .i64 a0) := (blk_cell BK 0).trans rfl; have z1 : w1.cell? ⟨w.heap.size, 1, none⟩ = some (.slice A1 l1.length c1) := (blk_cell BK 1).trans rfl; have z2 : w1.cell? ⟨w.heap.size, 2, none⟩ = some (.slice A2 l2.length c2) := (blk_cell BK 2).trans rfl; have z3 : w1.cell? ⟨w.heap.size, 3, none⟩ = some (.slice A3 l3.length c3) := (blk_cell BK 3).trans rfl; have z4 : w1.cell? ⟨w.heap.size, 4, none⟩ = some (.slice A4 l4.length c4) := (blk_cell BK 4).trans rfl; have z5 : w1.cell? ⟨w.heap.size, 5, none⟩ = some (.slice A5 l5.length c5) := (blk_cell BK 5).trans rfl; have HM := Aside0.mk (H0.out _ HB BK)) | (go_at_call 101; refine (HVARS.out _ HM.out).mono ?_; rintro e w2 ⟨rfl, hb2⟩; have HM2 := Aside0.mk (HM.out.step hb2); clear z0 z1 z2 z3 z4 z5 BK HB hb2) | ((with_reducible refine gate_dst (N := 8) rfl ?_); (try (refine gate_guard (by rfl) ?_; dsimp only)); refine box_event ?hg (N := 8) ?hd (cs := #[.int .i64 0]) (t := 3) ?hr ?_; (case hd => rfl); (case hg => rfl); (case hr => first | (go_simp; done) | (go_simp; rfl)); intro g8 hg_ w3 bk3 hb3; have ge8 := Aside0.mk (Nat.le_of_eq hg_.symm); clear hg_; have y8 : w3.cell? ⟨g8, 0, none⟩ = some (.int .i64 0) := (blk_cell bk3 0).trans rfl; have f8 := blk_frozen bk3 0; have BK8 := Aside0.mk (show (w3.setCell ⟨g8, 0, none⟩ (.int .i64 V)).heap[g8]? = some (.cells #[.int .i64 V] 3 (0, 0)) from by simpa using blk_set bk3 0 (.int .i64 V)); have HM3 := Aside0.mk (HM2.out.step (hb3.setCell (p := ⟨g8, 0, none⟩) ge8.out (.int .i64 V))); have z0 : (w3.setCell ⟨g8, 0, none⟩ (.int .i64 _)).cell? ⟨w.heap.size, 0, none⟩ = some (.int .i64 a0) := (blk_cell HM3.out.blk 0).trans rfl; have z1 : (w3.setCell ⟨g8, 0, none⟩ (.int .i64 _)).cell? ⟨w.heap.size, 1, none⟩ = some (.slice A1 l1.length c1) := (blk_cell HM3.out.blk 1).trans rfl; have z2 : (w3.setCell ⟨g8, 0, none⟩ (.int .i64 _)).cell? ⟨w.heap.size, 2, none⟩ = some (.slice A2 l2.length c2) := (blk_cell HM3.out.blk 2).trans rfl; have z3 : (w3.setCell ⟨g8, 0, none⟩ (.int .i64 _)).cell? ⟨w.heap.size, 3, none⟩ = some (.slice A3 l3.length c3) := (blk_cell HM3.out.blk 3).trans rfl; have z4 : (w3.setCell ⟨g8, 0, none⟩ (.int .i64 _)).cell? ⟨w.heap.size, 4, none⟩ = some (.slice A4 l4.length c4) := (blk_cell HM3.out.blk 4).trans rfl; have z5 : (w3.setCell ⟨g8, 0, none⟩ (.int .i64 _)).cell? ⟨w.heap.size, 5, none⟩ = some (.slice A5 l5.length c5) := (blk_cell HM3.out.blk 5).trans rfl) | (go_at_call 92; refine (HMAY.out _ HM3.out).mono ?_; rintro e w4 ⟨rfl, hb4⟩; have HM4 := Aside0.mk (HM3.out.step hb4); have BK84 := Aside0.mk (blk_below BK8.out hb4)) | (go_at_call 139; refine (HA.out g8 _ BK84.out (Kd.C_below HL.out HM4.out.below)).mono ?_; rintro e w5 ⟨rfl, hb5⟩))
      go_ret2
      exact ⟨_, rfl, Kd.R_nil _ _ _ _ _, below_step HM4.out.below hb5⟩
    | false =>
      rw [ha] at h
      rw [if_pos ⟨rfl, rfl⟩] at h
      obtain ⟨rfl, rfl⟩ := Prod.mk.inj (Option.some.inj h)
      have HA := Aside0.mk (fun (g : Nat) (W : World) hb hl => by have := ofAny V g W hb AL cL ls hl; rw [ha] at this; exact this)
      obtain ⟨m, rfl⟩ := Int.eq_ofNat_of_zero_le (show 0 ≤ V by have := HVA.pos; omega)
      have HF := Aside0.mk (HVA.fine hok)
      have HVB := Aside0.mk HVA
      have hm16 : m ≤ 16384 := by have := HVA.le; omega
      have HLB : Aside0 (∀ x ∈ ls, vOf x < ((m + 1 : Nat) : Int)) := ⟨fun x hx => by
        have h1 := List.any_eq_false.1 ha x hx
        simp only [beyW, decide_eq_true_eq] at h1
        unfold vOf
        omega⟩
      have HVV := Aside0.mk hVV
      clear h hm hok hul ha hV hVV HVA
      have hmk : ∀ W : World, (Instr.makeSlice 33 (.int .i64 ((m : Int) + 1)) (.int .i64 ((m : Int) + 1))).run Try.prog W = .ok (.slice (some ⟨W.heap.size, 0, none⟩) (m + 1) (m + 1)) (W.alloc (.cells (madeCells #[.bool false] (m + 1)) 4)) := fun W => by
        have e := run_make_row' (P := Try.prog) 33 4 (.bool false) 1 Try.underlying33 xinfo4 rfl .i64 .i64 (m + 1) (by omega) (by omega) W
        simpa using e
      have es : IntKind.i64.wrap ((m : Int) + 1) = (m : Int) + 1 := IntWalk.i64_in _ (by omega)
      go_enter Try.func90, Try.ntmps90
      go_wp2_with (first | ((with_reducible refine gate_dst (N := 3) rfl ?_); (try (refine gate_guard (by rfl) ?_; dsimp only)); refine box_event ?hg (N := 3) ?hd (cs := #[.int .i64 a0, .slice A1 l1.length c1, .slice A2 l2.length c2, .slice A3 l3.length c3, .slice A4 l4.length c4, .slice A5 l5.length c5]) (t := 26) ?hr ?_; (case hd => rfl); (case hg => rfl); (case hr => first | (go_simp; done) | (go_simp; rfl)); intro g hg_ w1 BK HB; subst hg_; have z0 : w1.cell? ⟨w.heap.size, 0, none⟩ = some (.int .i64 a0) := (blk_cell BK 0).trans rfl; have z1 : w1.cell? ⟨w.heap.size, 1, none⟩ = some (.slice A1 l1.length c1) := (blk_cell BK 1).trans rfl; have z2 : w1.cell? ⟨w.heap.size, 2, none⟩ = some (.slice A2 l2.length c2) := (blk_cell BK 2).trans rfl; have z3 : w1.cell? ⟨w.heap.size, 3, none⟩ = some (.slice A3 l3.length c3) := (blk_cell BK 3).trans rfl; have z4 : w1.cell? ⟨w.heap.size, 4, none⟩ = some (.slice A4 l4.length c4) := (blk_cell BK 4).trans rfl; have z5 : w1.cell? ⟨w.heap.size, 5, none⟩ = some (.slice A5 l5.length c5) := (blk_cell BK 5).trans rfl; have HM := Aside0.mk (H0.out _ HB BK)) | (go_at_call 101; refine (HVARS.out _ HM.out).mono ?_; rintro e w2 ⟨rfl, hb2⟩; have HM2 := Aside0.mk (HM.out.step hb2); clear z0 z1 z2 z3 z4 z5 BK HB hb2) | ((with_reducible refine gate_dst (N := 8) rfl ?_); (try (refine gate_guard (by rfl) ?_; dsimp only)); refine box_event ?hg (N := 8) ?hd (cs := #[.int .i64 0]) (t := 3) ?hr ?_; (case hd => rfl); (case hg => rfl); (case hr => first | (go_simp; done) | (go_simp; rfl)); intro g8 hg_ w3 bk3 hb3; have ge8 := Aside0.mk (Nat.le_of_eq hg_.symm); clear hg_; have y8 : w3.cell? ⟨g8, 0, none⟩ = some (.int .i64 0) := (blk_cell bk3 0).trans rfl; have f8 := blk_frozen bk3 0; have BK8 := Aside0.mk (show (w3.setCell ⟨g8, 0, none⟩ (.int .i64 m)).heap[g8]? = some (.cells #[.int .i64 m] 3 (0, 0)) from by simpa using blk_set bk3 0 (.int .i64 m)); have HM3 := Aside0.mk (HM2.out.step (hb3.setCell (p := ⟨g8, 0, none⟩) ge8.out (.int .i64 m))); have z0 : (w3.setCell ⟨g8, 0, none⟩ (.int .i64 _)).cell? ⟨w.heap.size, 0, none⟩ = some (.int .i64 a0) := (blk_cell HM3.out.blk 0).trans rfl; have z1 : (w3.setCell ⟨g8, 0, none⟩ (.int .i64 _)).cell? ⟨w.heap.size, 1, none⟩ = some (.slice A1 l1.length c1) := (blk_cell HM3.out.blk 1).trans rfl; have z2 : (w3.setCell ⟨g8, 0, none⟩ (.int .i64 _)).cell? ⟨w.heap.size, 2, none⟩ = some (.slice A2 l2.length c2) := (blk_cell HM3.out.blk 2).trans rfl; have z3 : (w3.setCell ⟨g8, 0, none⟩ (.int .i64 _)).cell? ⟨w.heap.size, 3, none⟩ = some (.slice A3 l3.length c3) := (blk_cell HM3.out.blk 3).trans rfl; have z4 : (w3.setCell ⟨g8, 0, none⟩ (.int .i64 _)).cell? ⟨w.heap.size, 4, none⟩ = some (.slice A4 l4.length c4) := (blk_cell HM3.out.blk 4).trans rfl; have z5 : (w3.setCell ⟨g8, 0, none⟩ (.int .i64 _)).cell? ⟨w.heap.size, 5, none⟩ = some (.slice A5 l5.length c5) := (blk_cell HM3.out.blk 5).trans rfl) | (go_at_call 92; refine (HMAY.out _ HM3.out).mono ?_; rintro e w4 ⟨rfl, hb4⟩; have HM4 := Aside0.mk (HM3.out.step hb4); have BK84 := Aside0.mk (blk_below BK8.out hb4)) | (go_at_call 139; refine (HA.out g8 _ BK84.out (Kd.C_below HL.out HM4.out.below)).mono ?_; rintro e w5 ⟨rfl, hb5⟩; have HM5 := Aside0.mk (HM4.out.step hb5); have BK85 := Aside0.mk (blk_below BK84.out hb5); clear z0 z1 z2 z3 z4 z5 hb5 y8 f8; have z0 : w5.cell? ⟨w.heap.size, 0, none⟩ = some (.int .i64 a0) := (blk_cell HM5.out.blk 0).trans rfl; have z1 : w5.cell? ⟨w.heap.size, 1, none⟩ = some (.slice A1 l1.length c1) := (blk_cell HM5.out.blk 1).trans rfl; have z2 : w5.cell? ⟨w.heap.size, 2, none⟩ = some (.slice A2 l2.length c2) := (blk_cell HM5.out.blk 2).trans rfl; have z3 : w5.cell? ⟨w.heap.size, 3, none⟩ = some (.slice A3 l3.length c3) := (blk_cell HM5.out.blk 3).trans rfl; have z4 : w5.cell? ⟨w.heap.size, 4, none⟩ = some (.slice A4 l4.length c4) := (blk_cell HM5.out.blk 4).trans rfl; have z5 : w5.cell? ⟨w.heap.size, 5, none⟩ = some (.slice A5 l5.length c5) := (blk_cell HM5.out.blk 5).trans rfl; have y8 : w5.cell? ⟨g8, 0, none⟩ = some (.int .i64 m) := (blk_cell BK85.out 0).trans rfl))
      have zz0 : (w5.alloc (.cells (madeCells #[.bool false] (m + 1)) 4)).cell? ⟨w.heap.size, 0, none⟩ = some (.int .i64 a0) := pw_cell_below (below_alloc (Below.refl _ _) _) z0
      have zz1 : (w5.alloc (.cells (madeCells #[.bool false] (m + 1)) 4)).cell? ⟨w.heap.size, 1, none⟩ = some (.slice A1 l1.length c1) := pw_cell_below (below_alloc (Below.refl _ _) _) z1
      have zz2 : (w5.alloc (.cells (madeCells #[.bool false] (m + 1)) 4)).cell? ⟨w.heap.size, 2, none⟩ = some (.slice A2 l2.length c2) := pw_cell_below (below_alloc (Below.refl _ _) _) z2
      have zz3 : (w5.alloc (.cells (madeCells #[.bool false] (m + 1)) 4)).cell? ⟨w.heap.size, 3, none⟩ = some (.slice A3 l3.length c3) := pw_cell_below (below_alloc (Below.refl _ _) _) z3
      have zz4 : (w5.alloc (.cells (madeCells #[.bool false] (m + 1)) 4)).cell? ⟨w.heap.size, 4, none⟩ = some (.slice A4 l4.length c4) := pw_cell_below (below_alloc (Below.refl _ _) _) z4
      have zz5 : (w5.alloc (.cells (madeCells #[.bool false] (m + 1)) 4)).cell? ⟨w.heap.size, 5, none⟩ = some (.slice A5 l5.length c5) := pw_cell_below (below_alloc (Below.refl _ _) _) z5
      have yy8 : (w5.alloc (.cells (madeCells #[.bool false] (m + 1)) 4)).cell? ⟨g8, 0, none⟩ = some (.int .i64 m) := pw_cell_below (below_alloc (Below.refl _ _) _) y8
      go_region
      clear zz0 zz1 zz2 zz3 zz4 zz5 yy8 z0 z1 z2 z3 z4 z5 y8 es hmk
      go_wp2
      have HN := Aside0.mk (ConeSt.new (a0 := a0) (A1 := A1) (c1 := c1) (l1 := l1) (A2 := A2) (c2 := c2) (l2 := l2) (A3 := A3) (c3 := c3) (l3 := l3) (A4 := A4) (c4 := c4) (l4 := l4) (A5 := A5) (c5 := c5) (l5 := l5) ever w w5 (m + 1) (by omega) HM5.out.below)
      have hnn : (a0 + (l1.length : Int) + (l2.length : Int) + 1).toNat = m + 1 := by have := HVV.out; omega
      have HFN := Aside0.mk (show Fine a0 l1 l2 (m + 1) from by rw [← hnn]; exact HF.out)
      have HRES := Aside0.mk (show coneOf a0 l1 l2 ls ever = (growP a0 l1 l2 ever (m + 1 + 1) (addsP ls (List.replicate (m + 1) false, [])) 0).1 from by unfold coneOf; rw [hnn])
      clear hnn HF BK8 BK84 BK85 HM HM2 HM3 HM4
      go_loopg [31] ls.length (fun gg v31 wr => ∃ (k : Nat) (ys : List Bool) (p : List Int), ls.length - k ≤ gg ∧ v31 = .int .i64 k ∧ Aside0 (k ≤ ls.length) ∧ Aside0 (ConeSt a0 A1 c1 l1 A2 c2 l2 A3 c3 l3 A4 c4 l4 A5 c5 l5 ever w (w5.heap.size + 1) w5.heap.size (m + 1) (m + 1) ys p wr) ∧ Aside0 (Inv (m + 1) (ys, p)) ∧ Aside0 (addsP ls (List.replicate (m + 1) false, []) = addsP (ls.drop k) (ys, p)))
      case atStart => exact ⟨0, _, _, by omega, rfl, ⟨Nat.zero_le _⟩, ⟨HN.out.step (by repeat (first | exact Below.refl _ _ | apply below_drew1 | apply pw_below_drewN))⟩, ⟨Inv.start _⟩, ⟨rfl⟩⟩
      case round =>
        clear HN
        obtain ⟨k, ys, p, hg, rfl, HKP, HS, HI, HG⟩ := hrel
        have hln := HL.out.2.1
        by_cases hlt : k < ls.length
        · have hltz : (k : Int) < (ls.length : Int) := by omega
          obtain ⟨ad, e, xq⟩ := Kd.at_int (Kd.C_below HL.out HS.out.below) (k : Int) (by omega) hltz
          cases e
          have ek : (k : Int).toNat = k := by omega
          rw [ek] at xq
          clear ek
          have hx : vOf (rd ls k) < ((m + 1 : Nat) : Int) := HLB.out _ (by simp [rd, List.getD_eq_getElem?_getD, List.getElem?_eq_getElem hlt])
          have E : Aside0 (addsP ls (List.replicate (m + 1) false, []) = addsP (ls.drop (k + 1)) (addP (ys, p) (rd ls k))) := ⟨HG.out.trans (by rw [List.drop_eq_getElem_cons hlt, addsP]; simp [rd, List.getD_eq_getElem?_getD, List.getElem?_eq_getElem hlt])⟩
          generalize rd ls (k : Int) = x at xq hx E
          have HX := Aside0.mk hx
          have HLE := Aside0.mk (show p.length ≤ 60000 by have : p.length ≤ m + 1 := HI.out.le; omega)
          have HI2 := Aside0.mk (HI.out.add x hx)
          clear hx HG
          go_wp2_with fail
          refine (add141 a0 A1 c1 l1 A2 c2 l2 A3 c3 l3 A4 c4 l4 A5 c5 l5 ever w (w5.heap.size + 1) w5.heap.size (m + 1) (m + 1) ys p _ x HX.out HLE.out HS.out).mono ?_
          rintro e w8 ⟨rfl, hs8, ho8⟩
          have HC8 := Aside0.mk hs8
          clear hs8 ho8
          go_wp2
          go_roundg (ls.length - (k + 1))
          case measure => omega
          case rel => exact ⟨k + 1, _, _, by omega, by go_num, ⟨by omega⟩, HC8, HI2, E⟩
        · have hltz : ¬ (k : Int) < (ls.length : Int) := by omega
          have E : Aside0 (addsP ls (List.replicate (m + 1) false, []) = (ys, p)) := ⟨HG.out.trans (by rw [List.drop_eq_nil_of_le (by omega)]; rfl)⟩
          go_wp2_with fail
          refine (grow142 a0 A1 c1 l1 A2 c2 l2 A3 c3 l3 A4 c4 l4 A5 c5 l5 ever w (w5.heap.size + 1) w5.heap.size (m + 1) (m + 1) ys p _ HFN.out HI.out HRR.out.1 HRR.out.2 HS.out).mono ?_
          rintro e w8 ⟨rfl, hs8⟩
          obtain ⟨vq, hk, hq⟩ := hs8.st
          have z6 : w8.cell? ⟨w5.heap.size + 1, 6, none⟩ = some (.slice (some ⟨w5.heap.size, 0, none⟩) (m + 1) (m + 1)) := (blk_cell hk 6).trans rfl
          have HC8 := Aside0.mk hs8
          clear hs8 hk hq
          go_wp2
          go_ret2
          exact ⟨_, rfl, by rw [HRES.out, E.out]; exact HC8.out.is, HC8.out.below⟩
end Go.Proofs.Yteiiodlgdbiimaa.F
