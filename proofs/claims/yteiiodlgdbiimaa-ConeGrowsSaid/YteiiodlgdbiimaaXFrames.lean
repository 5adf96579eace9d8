/- cone.Frames lays the rows of what counts, from the last to the first. -/
import Derived.Test.YteiiodlgdbiimaaXFramesE
namespace Go.Proofs.Yteiiodlgdbiimaa.F
open Go.RowKit Go.Shelf Go.Proofs.YteiiodlgdbiimaaW.PrintWords Go.Proofs.YteiiodlgdbiimaaW.PrintLast Go.Proofs.YteiiodlgdbiimaaW.PrintMore
set_option linter.unusedVariables false
set_option linter.unusedSimpArgs false

theorem wrap_succ {a0 : Int} {n1 n2 k : Nat} (h : a0 + (n1 : Int) + (n2 : Int) ≤ 16384) (h0 : 0 ≤ a0) (hk : k < n1) : wrap64 ((k : Int) + 1) = ((k + 1 : Nat) : Int) := by
  have hb : k < 16384 := by omega
  clear h h0 hk
  have e : ((k + 1 : Nat) : Int) = (k : Int) + 1 := by push_cast; rfl
  rw [e]
  generalize hx : (k : Int) + 1 = x
  have h1 : 0 ≤ x := by omega
  have h2 : x ≤ 16384 := by omega
  clear e hx hb
  unfold wrap64
  omega
theorem int_succ {k : Nat} (h : Aside0 (wrap64 ((k : Int) + 1) = ((k + 1 : Nat) : Int))) : Value.int .i64 (wrap64 ((k : Int) + 1)) = .int .i64 ((k + 1 : Nat) : Int) := by rw [h.out]
theorem intOf_int (x : Int) : intOf (Value.int .i64 x) = x := rfl
theorem meas_int {n k : Nat} (h : Aside0 (wrap64 ((k : Int) + 1) = ((k + 1 : Nat) : Int))) (hlt : k < n) : ((n : Int) - intOf (Value.int .i64 (wrap64 ((k : Int) + 1)))).toNat < ((n : Int) - intOf (Value.int .i64 (k : Int))).toNat := by
  rw [h.out, intOf_int, intOf_int]
  clear h
  omega
theorem meas_lt {n k : Nat} (h : k < n) : ((n : Int) - ((k + 1 : Nat) : Int)).toNat < ((n : Int) - (k : Int)).toNat := by omega
theorem xinfoU : (Try.prog.info? 39).map (fun i => (i.zero, i.size, i.bytes)) = some (some (.int .u32 0), 1, 4) := by kernel_rfl
theorem xinfo33 : (Try.prog.info? 33).map (fun i => (i.zero, i.size, i.bytes)) = some (some (.slice none 0 0), 1, 24) := by kernel_rfl
attribute [local go_sem] Oper.semAt_some
set_option maxHeartbeats 8000000 in
set_option maxRecDepth 100000 in
theorem cone_Frames.calls (a0 : Int) (A1 : Option Addr) (c1 : Nat) (l1 : List S41) (A2 : Option Addr) (c2 : Nat) (l2 : List S68) (A3 : Option Addr) (c3 : Nat) (l3 : List Int) (A4 : Option Addr) (c4 : Nat) (l4 : List Int) (A5 : Option Addr) (c5 : Nat) (l5 : List Int) (bad frames : Int) (r1 : List (List Bool)) (r2 : Int) (w : World) (hr1 : Kd.C k41 w A1 l1.length l1) (hc1 : l1.length ≤ c1) (hr2 : Kd.C k68 w A2 l2.length l2) (hc2 : l2.length ≤ c2) (hr3 : Kd.C (Kd.int .u32) w A3 l3.length l3) (hc3 : l3.length ≤ c3) (hr4 : Kd.C (Kd.int .u32) w A4 l4.length l4) (hc4 : l4.length ≤ c4) (hr5 : Kd.C (Kd.int .u32) w A5 l5.length l5) (hc5 : l5.length ≤ c5)
    (h : cone_Frames.f a0 l1 l2 l3 l4 l5 bad frames = some (r1, r2)) :
    Calls Try.prog 30 #[.agg #[.int .i64 a0, .slice A1 l1.length c1, .slice A2 l2.length c2, .slice A3 l3.length c3, .slice A4 l4.length c4, .slice A5 l5.length c5], .int .i64 bad, .int .i64 frames] w fun e w' => ∃ v0_ : Value, e = .returned (.tuple #[v0_, .int .i64 r2]) ∧ Kd.S (Kd.slice 4 Kd.bool) 33 w' w.heap.size (fun _ => True) v0_ r1 ∧ Below w.heap.size w w' := by
  unfold cone_Frames.f at h
  split at h
  case isFalse => cases h
  case isTrue hok =>
  by_cases hc : mayB a0 l1 l2 l3 l4 l5 = true ∧ 0 ≤ bad ∧ bad < l4.length ∧ 1 ≤ frames ∧ frames ≤ 256
  · rw [if_pos hc] at h
    obtain ⟨rfl, rfl⟩ := Prod.mk.inj (Option.some.inj h)
    clear h
    have hu26 := Try.underlying26
    have HMAY := Aside0.mk (fun W (h : MayAt a0 A1 c1 l1 A2 c2 l2 A3 c3 l3 A4 c4 l4 A5 c5 l5 w.heap.size w W) => norm_May.calls a0 A1 c1 l1 A2 c2 l2 A3 c3 l3 A4 c4 l4 A5 c5 l5 _ W h.h1 hc1 h.h2 hc2 h.h3 hc3 h.h4 hc4 h.h5 hc5 rfl)
    have H0 := Aside0.mk (fun W (hb : Below w.heap.size w W) (hk : W.heap[w.heap.size]? = some (.cells #[.int .i64 a0, .slice A1 l1.length c1, .slice A2 l2.length c2, .slice A3 l3.length c3, .slice A4 l4.length c4, .slice A5 l5.length c5] 26 (0, 0))) => (⟨hb, hk, Kd.C_below hr1 hb, Kd.C_below hr2 hb, Kd.C_below hr3 hb, Kd.C_below hr4 hb, Kd.C_below hr5 hb⟩ : MayAt a0 A1 c1 l1 A2 c2 l2 A3 c3 l3 A4 c4 l4 A5 c5 l5 w.heap.size w W))
    have HR4 := Aside0.mk hr4
    clear hr1 hr2 hr3 hr4 hr5
    obtain ⟨hm, hb0, hb1, hf0, hf1⟩ := hc
    obtain ⟨n, rfl⟩ := Int.eq_ofNat_of_zero_le (show 0 ≤ frames by omega)
    have HOK := Aside0.mk (And.intro hok hm)
    have HBD := Aside0.mk (And.intro hb0 hb1)
    rw [hm] at HMAY
    obtain ⟨bd, rfl⟩ := Int.eq_ofNat_of_zero_le hb0
    obtain ⟨ad4, e4, x4⟩ := Kd.at_int HR4.out (bd : Int) hb0 hb1
    cases e4
    rw [Int.toNat_natCast] at x4
    have X4 := Aside0.mk x4
    clear x4 hok hm
    have hmk : ∀ W : World, (Instr.makeSlice 43 (.int .i64 (n : Int)) (.int .i64 (n : Int))).run Try.prog W = .ok (.slice (some ⟨W.heap.size, 0, none⟩) n n) (W.alloc (.cells (madeCells #[.slice none 0 0] n) 33)) := fun W => by
      have e := run_make_row' (P := Try.prog) 43 33 (.slice none 0 0) 24 Try.underlying43 xinfo33 rfl .i64 .i64 n (by omega) (by omega) W
      simpa using e
    have n1 : ¬ (bd : Int) < 0 := by omega
    have n2 : ¬ (l4.length : Int) ≤ (bd : Int) := by omega
    have n3 : ¬ (n : Int) < 1 := by omega
    have n4 : ¬ 256 < (n : Int) := by omega
    refine callsIn_wide.1 (callsIn_of_wp_marks (n := 10) Try.func30 rfl trivial ?_ rfl)
    simp only [Try.ntmps30, List.size_toArray, List.length_cons, List.length_nil, Nat.reduceAdd, Nat.reduceSub, Array.replicate_succ, Array.replicate_zero, List.push_toArray, List.append_toArray, List.nil_append, List.cons_append]
    refine wpIn_wide.2 ?_
    go_wp2_with (first | ((with_reducible refine gate_dst (N := 3) rfl ?_); (try (refine gate_guard (by rfl) ?_; dsimp only)); refine box_event ?hg (N := 3) ?hd (cs := #[.int .i64 a0, .slice A1 l1.length c1, .slice A2 l2.length c2, .slice A3 l3.length c3, .slice (some ad4) l4.length c4, .slice A5 l5.length c5]) (t := 26) ?hr ?_; (case hd => rfl); (case hg => rfl); (case hr => first | (go_simp; done) | (go_simp; rfl)); intro g hg_ w1 BK HB; subst hg_; have z0 : w1.cell? ⟨w.heap.size, 0, none⟩ = some (.int .i64 a0) := (blk_cell BK 0).trans rfl; have z1 : w1.cell? ⟨w.heap.size, 1, none⟩ = some (.slice A1 l1.length c1) := (blk_cell BK 1).trans rfl; have z2 : w1.cell? ⟨w.heap.size, 2, none⟩ = some (.slice A2 l2.length c2) := (blk_cell BK 2).trans rfl; have z3 : w1.cell? ⟨w.heap.size, 3, none⟩ = some (.slice A3 l3.length c3) := (blk_cell BK 3).trans rfl; have z4 : w1.cell? ⟨w.heap.size, 4, none⟩ = some (.slice (some ad4) l4.length c4) := (blk_cell BK 4).trans rfl; have z5 : w1.cell? ⟨w.heap.size, 5, none⟩ = some (.slice A5 l5.length c5) := (blk_cell BK 5).trans rfl; have HM := Aside0.mk (H0.out _ HB BK)) | (go_at_call 92; refine (HMAY.out _ HM.out).mono ?_; rintro e w2 ⟨rfl, hb2⟩; have HM2 := Aside0.mk (HM.out.step hb2); clear z0 z1 z2 z3 z4 z5 BK HB hb2; have z0 : w2.cell? ⟨w.heap.size, 0, none⟩ = some (.int .i64 a0) := (blk_cell HM2.out.blk 0).trans rfl; have z1 : w2.cell? ⟨w.heap.size, 1, none⟩ = some (.slice A1 l1.length c1) := (blk_cell HM2.out.blk 1).trans rfl; have z2 : w2.cell? ⟨w.heap.size, 2, none⟩ = some (.slice A2 l2.length c2) := (blk_cell HM2.out.blk 2).trans rfl; have z3 : w2.cell? ⟨w.heap.size, 3, none⟩ = some (.slice A3 l3.length c3) := (blk_cell HM2.out.blk 3).trans rfl; have z4 : w2.cell? ⟨w.heap.size, 4, none⟩ = some (.slice (some ad4) l4.length c4) := (blk_cell HM2.out.blk 4).trans rfl; have z5 : w2.cell? ⟨w.heap.size, 5, none⟩ = some (.slice A5 l5.length c5) := (blk_cell HM2.out.blk 5).trans rfl; have x4 := (HM2.out.below.cell (World.block_lt_of_cell? w _ X4.out)).trans X4.out) | ((with_reducible refine gate_dst (N := 36) rfl ?_); refine slice_event ?hg (N := 36) ?hd (n := n) (c := n) (cs := madeCells #[.slice none 0 0] n) (t := 33) ?hr ?_; (case hd => rfl); (case hg => rfl); (case hr => first | (go_simp; done) | (go_simp; rfl)); intro g hg_ w3 bk3 hb3; have HM3 := Aside0.mk (HM2.out.step hb3); have GG := Aside0.mk (show w.heap.size ≤ g from by rw [hg_]; exact HM2.out.below.size); have KG3 := Aside0.mk bk3; clear hg_ hb3 bk3 x4; clear z0 z1 z2 z3 z4 z5; have z0 : w3.cell? ⟨w.heap.size, 0, none⟩ = some (.int .i64 a0) := (blk_cell HM3.out.blk 0).trans rfl; have z1 : w3.cell? ⟨w.heap.size, 1, none⟩ = some (.slice A1 l1.length c1) := (blk_cell HM3.out.blk 1).trans rfl; have z2 : w3.cell? ⟨w.heap.size, 2, none⟩ = some (.slice A2 l2.length c2) := (blk_cell HM3.out.blk 2).trans rfl; have z3 : w3.cell? ⟨w.heap.size, 3, none⟩ = some (.slice A3 l3.length c3) := (blk_cell HM3.out.blk 3).trans rfl; have z4 : w3.cell? ⟨w.heap.size, 4, none⟩ = some (.slice (some ad4) l4.length c4) := (blk_cell HM3.out.blk 4).trans rfl; have z5 : w3.cell? ⟨w.heap.size, 5, none⟩ = some (.slice A5 l5.length c5) := (blk_cell HM3.out.blk 5).trans rfl; have x4 := (HM3.out.below.cell (World.block_lt_of_cell? w _ X4.out)).trans X4.out) | ((with_reducible refine gate_dst (N := 8) rfl ?_); (try (refine gate_guard (by rfl) ?_; dsimp only)); refine box_event ?hg (N := 8) ?hd (cs := #[.slice none 0 0]) (t := 43) ?hr ?_; (case hd => rfl); (case hg => rfl); (case hr => first | (go_simp; done) | (go_simp; rfl)); intro b8 hg_ w4 bk4 hb4; have G8 := Aside0.mk (show w.heap.size ≤ b8 from by rw [hg_]; exact HM3.out.below.size); have HM4 := Aside0.mk (HM3.out.step hb4); have KG4 := Aside0.mk (blk_below KG3.out hb4); have y8 : w4.cell? ⟨b8, 0, none⟩ = some (.slice none 0 0) := (blk_cell bk4 0).trans rfl; have f8 := blk_frozen bk4 0; have GE8 := Aside0.mk (Nat.le_of_eq hg_.symm); have BK4 := Aside0.mk bk4; have HB4 := Aside0.mk hb4; clear hg_ hb4 bk4 x4; clear z0 z1 z2 z3 z4 z5) | ((with_reducible refine gate_store (t := 43) (p := .tmp 8) (x := .tmp 36) rfl ?_); refine skip_event (W' := w4.setCell ⟨b8, 0, none⟩ (.slice (some ⟨g, 0, none⟩) n n)) ?hn ?hs ?hr ?_; (case hn => rfl); (case hs => rfl); (case hr => first | (go_simp; done) | (go_simp; rfl)); intro w5 hw_; have HB5 := Aside0.mk (show Below w3.heap.size w3 w5 from by rw [hw_]; exact HB4.out.setCell (p := ⟨b8, 0, none⟩) GE8.out _); have K85 := Aside0.mk (show w5.heap[b8]? = some (.cells #[.slice (some ⟨g, 0, none⟩) n n] 43 (0, 0)) from by rw [hw_]; simpa using blk_set BK4.out 0 (.slice (some ⟨g, 0, none⟩) n n)); have HM5 := Aside0.mk (HM3.out.step HB5.out); have KG5 := Aside0.mk (blk_below KG3.out HB5.out); clear hw_ y8 f8 BK4 HB4 HM4 KG4 GE8 HB5; have z0 : w5.cell? ⟨w.heap.size, 0, none⟩ = some (.int .i64 a0) := (blk_cell HM5.out.blk 0).trans rfl; have z1 : w5.cell? ⟨w.heap.size, 1, none⟩ = some (.slice A1 l1.length c1) := (blk_cell HM5.out.blk 1).trans rfl; have z2 : w5.cell? ⟨w.heap.size, 2, none⟩ = some (.slice A2 l2.length c2) := (blk_cell HM5.out.blk 2).trans rfl; have z3 : w5.cell? ⟨w.heap.size, 3, none⟩ = some (.slice A3 l3.length c3) := (blk_cell HM5.out.blk 3).trans rfl; have z4 : w5.cell? ⟨w.heap.size, 4, none⟩ = some (.slice (some ad4) l4.length c4) := (blk_cell HM5.out.blk 4).trans rfl; have z5 : w5.cell? ⟨w.heap.size, 5, none⟩ = some (.slice A5 l5.length c5) := (blk_cell HM5.out.blk 5).trans rfl; have x4 := (HM5.out.below.cell (World.block_lt_of_cell? w _ X4.out)).trans X4.out) | ((with_reducible refine gate_dst (N := 42) rfl ?_); refine Kd.R_lit (Kd.int .u32) (w0 := w5) w5.heap.size 39 ?hg (N := 42) ?hd (xs := [rd l4 (bd : Int)]) (inner := [.int .u32 (rd l4 (bd : Int))]) (ok := fun _ => True) (okp := fun _ => True) ?hr ?hp (fun _ _ => trivial) trivial (Below.refl _ _) (Nat.le_refl _) (by simp) ?_; (case hd => rfl); (case hg => rfl); (case hr => first | (go_simp; done) | (go_simp; rfl)); (case hp => exact Reps.one (show Kd.M (Kd.int .u32) _ _ _ (rd l4 (bd : Int)) [.int .u32 (rd l4 (bd : Int))] from rfl) (Reps.none _ _)); intro v9 w6 hR hb6 _ _; obtain ⟨A9, c9, hv_⟩ : ∃ A c, v9 = .slice A 1 c := Kd.R_slice hR; subst hv_; have HM6 := Aside0.mk (HM5.out.step hb6); have KG6 := Aside0.mk (blk_below KG5.out hb6); have K86 := Aside0.mk (blk_below K85.out hb6); have HR6 := Aside0.mk (Kd.R_lower hR HM5.out.below.size); clear hR hb6 x4; clear z0 z1 z2 z3 z4 z5) | ((with_reducible refine gate_dst (N := 9) rfl ?_); (try (refine gate_guard (by rfl) ?_; dsimp only)); refine box_event ?hg (N := 9) ?hd (cs := #[.slice none 0 0]) (t := 24) ?hr ?_; (case hd => rfl); (case hg => rfl); (case hr => first | (go_simp; done) | (go_simp; rfl)); intro b9 hg_ w7 bk7 hb7; have G9 := Aside0.mk (show w.heap.size ≤ b9 from by rw [hg_]; exact HM6.out.below.size); have y9 : w7.cell? ⟨b9, 0, none⟩ = some (.slice none 0 0) := (blk_cell bk7 0).trans rfl; have f9 := blk_frozen bk7 0; have GE9 := Aside0.mk (Nat.le_of_eq hg_.symm); have BK7 := Aside0.mk bk7; have HB7 := Aside0.mk hb7; clear hg_ hb7 bk7) | ((with_reducible refine gate_store (t := 24) (p := .tmp 9) (x := .tmp 42) rfl ?_); refine skip_event (W' := w7.setCell ⟨b9, 0, none⟩ (.slice A9 1 c9)) ?hn ?hs ?hr ?_; (case hn => rfl); (case hs => rfl); (case hr => first | (go_simp; done) | (go_simp; rfl)); intro w8 hw_; have HB8 := Aside0.mk (show Below w6.heap.size w6 w8 from by rw [hw_]; exact HB7.out.setCell (p := ⟨b9, 0, none⟩) GE9.out _); have K98 := Aside0.mk (show w8.heap[b9]? = some (.cells #[.slice A9 1 c9] 24 (0, 0)) from by rw [hw_]; simpa using blk_set BK7.out 0 (.slice A9 1 c9)); have HM8 := Aside0.mk (HM6.out.step HB8.out); have KG8 := Aside0.mk (blk_below KG6.out HB8.out); have K88 := Aside0.mk (blk_below K86.out HB8.out); have HR8 := Aside0.mk (Kd.R_below HR6.out HB8.out); clear hw_ y9 f9 BK7 HB7 GE9 HB8; have y8 : w8.cell? ⟨b8, 0, none⟩ = some (.slice (some ⟨g, 0, none⟩) n n) := (blk_cell K88.out 0).trans rfl) | (go_at_call 93; refine (callsIn_wide.1 (back_in Fence.wide 10 trivial rfl _ _ _ _)).mono ?_; rintro e w9 ⟨rfl, hw9⟩; have HW9 := Aside0.mk hw9; clear hw9))
    clear hmk
    clear y8
    have HB9 := Aside0.mk (show Below w8.heap.size w8 w9 from by rw [HW9.out]; exact below_alloc (Below.refl _ _) _)
    have KB9 := Aside0.mk (show w9.heap[w8.heap.size]? = some (.cells #[.slice (some ⟨g, 0, none⟩) n n] 43 (0, 0)) from by rw [HW9.out]; exact blk_new _ _)
    have HM9 := Aside0.mk (HM8.out.step HB9.out)
    have f1 : FrSt a0 A1 c1 l1 A2 c2 l2 A3 c3 l3 (some ad4) c4 l4 A5 c5 l5 w b8 b9 g n (.slice A9 1 c9) (fun _ => []) w9 := ⟨HM9.out.below, HM9.out.blk, G8.out, G9.out, GG.out, blk_below K88.out HB9.out, blk_below K98.out HB9.out, (fun _ => 0), _, blk_below KG8.out HB9.out, by simp [size_madeCells], fun j hj => ⟨.slice none 0 0, by simp [madeCells, Nat.mod_one, hj], Kd.R_nil _ _ _ _ _⟩⟩
    have f2 : FrSt a0 A1 c1 l1 A2 c2 l2 A3 c3 l3 (some ad4) c4 l4 A5 c5 l5 w w8.heap.size b9 g n (.slice A9 1 c9) (fun _ => []) w9 := ⟨HM9.out.below, HM9.out.blk, HM8.out.below.size, G9.out, GG.out, KB9.out, blk_below K98.out HB9.out, (fun _ => 0), _, blk_below KG8.out HB9.out, by simp [size_madeCells], fun j hj => ⟨.slice none 0 0, by simp [madeCells, Nat.mod_one, hj], Kd.R_nil _ _ _ _ _⟩⟩
    have HF1 := Aside0.mk f1
    have HF2 := Aside0.mk f2
    have HR9 := Aside0.mk (Kd.R_below HR8.out HB9.out)
    have HSZ := Aside0.mk HM9.out.below.size
    clear f1 f2 HW9
    generalize w8.heap.size = bb at *
    clear HM HM2 HM3 HM5 HM6 KG3 KG5 K85 KG6 K86 HR6 HR8 KG8 K88 K98 HM8 KB9 HB9
    refine (wpIn_wide (n := 10)).1 (wpIn_rangeFunc_ownF (F := Fence.wide) (n := 10) (α := BackX n) (gf := 145) (lb := #[.pointer (some ⟨bb, 0, none⟩)]) (a₁ := ?a1) (encs := fun x => x.args) (Kp := BackKeeps bb g n n) (w0 := w9) rfl (by omega) rfl trivial (enters_of Try.func145 (by kernel_rfl) rfl)
      (back_stops Fence.wide 9 trivial rfl (by omega) bb g n n (by omega) w9 ((blk_cell HF2.out.k8 0).trans rfl) HF2.out.rowOk) BackKeeps.trans (fun W l o o' _ h hc _ => backKeeps_b W l o o' h hc) (Below.refl _ _) ?hps
      (fun pre W => ∃ v9 rows, Aside0 (FrSt a0 A1 c1 l1 A2 c2 l2 A3 c3 l3 (some ad4) c4 l4 A5 c5 l5 w b8 b9 g n v9 rows W) ∧ Aside0 (FrSt a0 A1 c1 l1 A2 c2 l2 A3 c3 l3 (some ad4) c4 l4 A5 c5 l5 w bb b9 g n v9 rows W) ∧ Aside0 (Lay (rowAt a0 l1 l2 l4 l5 bd) (pre.map (fun x => x.1.1)) rows) ∧ Aside0 (Kd.R (Kd.int .u32) 39 W w.heap.size (fun _ => True) v9 (litsAt a0 l1 l2 l4 l5 bd pre.length)))
      (fun _ _ _ => False) (fun s X Y row hs hg hr => ?own) (fun _ _ _ _ _ hs _ _ => hs) ⟨_, _, HF1, HF2, ⟨.nil⟩, HR9⟩ ?assign ?body ?done ?stop)
    case hps => exact fun _ => rfl
    case assign =>
      intro l x W K hK
      dsimp only [BackX.args]
      gi_wp2
      exact hK
    case own =>
      obtain ⟨v9, rows, h1, h2, h3, h4⟩ := hs
      exact ⟨v9, rows, ⟨h1.out.grown hg (fun r e => ⟨Nat.le_trans HSZ.out (hr r e).1, (hr r e).2⟩)⟩, ⟨h2.out.grown hg (fun r e => ⟨Nat.le_trans HSZ.out (hr r e).1, (hr r e).2⟩)⟩, h3, ⟨R_row h4.out hg (fun r e => (hr r e).2)⟩⟩
    case body =>
      rintro l pre ⟨⟨p, A0, la, ca⟩, hp⟩ W ⟨v9, rows, HF1, HF2, HL, HR⟩ hlt
      replace hp : p < n := hp
      have hpz : (p : Int) < (n : Int) := by omega
      have HOF := Aside0.mk (Frames_of HOK.out.1.1 HOK.out.1.2.1 HOK.out.1.2.2 HOK.out.2 HBD.out pre.length)
      have HVL := Aside0.mk (valid_of_may HOK.out.1.1 HOK.out.2).1
      have HLK := Aside0.mk (litsAt_ok HOK.out.1.1 HOK.out.1.2.1 HOK.out.1.2.2 HVL.out HBD.out pre.length)
      have HRL := Aside0.mk (coneOf_len HOK.out.1.1 HVL.out HLK.out.2.2 false)
      have HNX := Aside0.mk (show litsAt a0 l1 l2 l4 l5 bd (pre.length + 1) = nextsTo a0 (rowAt a0 l1 l2 l4 l5 bd pre.length) l1 l1.length from rfl)
      have HROW := Aside0.mk (show coneOf a0 l1 l2 (litsAt a0 l1 l2 l4 l5 bd pre.length ++ l5) false = rowAt a0 l1 l2 l4 l5 bd pre.length from rfl)
      rw [HROW.out] at HRL
      generalize litsAt a0 l1 l2 l4 l5 bd pre.length = ls at HOF HLK HR
      obtain ⟨le, hle⟩ : ∃ le, ls ++ l5 = le := ⟨_, rfl⟩
      rw [hle] at HOF
      have HLE := Aside0.mk hle
      clear hle
      obtain ⟨row, hrow⟩ : ∃ row, rowAt a0 l1 l2 l4 l5 bd pre.length = row := ⟨_, rfl⟩
      rw [hrow] at HOF HRL HNX
      have HRW := Aside0.mk hrow
      clear hrow HROW
      obtain ⟨A9', c9', hv_⟩ := Kd.R_slice HR.out
      subst hv_
      dsimp only
      gi_wp2_with fail
      refine start_rd l (n' := 13) (S := fun w' => w'.cell? ⟨b8, 0, none⟩ = some (.slice (some ⟨g, 0, none⟩) n n) ∧ w'.cell? ⟨b9, 0, none⟩ = some (.slice A9' ls.length c9') ∧ w'.cell? ⟨w.heap.size, 0, none⟩ = some (.int .i64 a0) ∧ w'.cell? ⟨w.heap.size, 1, none⟩ = some (.slice A1 l1.length c1) ∧ w'.cell? ⟨w.heap.size, 2, none⟩ = some (.slice A2 l2.length c2) ∧ w'.cell? ⟨w.heap.size, 3, none⟩ = some (.slice A3 l3.length c3) ∧ w'.cell? ⟨w.heap.size, 4, none⟩ = some (.slice (some ad4) l4.length c4) ∧ w'.cell? ⟨w.heap.size, 5, none⟩ = some (.slice A5 l5.length c5)) (ds := []) #[false, false, false, false, false, false, false, false, false, false, false, false, false] (by kernel_rfl) (fun ⟨_, _, h⟩ => h) (by kernel_rfl) rfl rfl ⟨(blk_cell HF1.out.k8 0).trans rfl, (blk_cell HF1.out.k9 0).trans rfl, (blk_cell HF1.out.k3 0).trans rfl, (blk_cell HF1.out.k3 1).trans rfl, (blk_cell HF1.out.k3 2).trans rfl, (blk_cell HF1.out.k3 3).trans rfl, (blk_cell HF1.out.k3 4).trans rfl, (blk_cell HF1.out.k3 5).trans rfl⟩ (fun hHeld => ?_)
      have HF1d := Aside0.mk (HF1.out.step (W' := W.drew) (below_drew1 (Below.refl _ _)))
      have HF2d := Aside0.mk (HF2.out.step (W' := W.drew) (below_drew1 (Below.refl _ _)))
      have HRd := Aside0.mk (Kd.R_below HR.out (w1 := W.drew) (below_drew1 (Below.refl _ _)))
      have HKd := Aside0.mk (keepsOthers_below (W' := W.drew) (below_drew1 (Below.refl _ _)))
      clear HF1 HF2 HR
      generalize W.drew = w1 at HF1d HF2d HRd HKd hHeld ⊢
      refine take_ (i := 0) (N := some 48) (v := ?_) (a' := ?_) #[true, false, false, false, false, false, false, false, false, false, false, false, false] rfl rfl (by kernel_rfl) (fun _ _ _ h => h) (Or.inl ⟨by rfl, ?_⟩) hHeld ?_ ?_
      rotate_left
      · rintro w' ⟨s0, s1, s2, s3, s4, s5, s6, s7⟩
        go_simp
        with_reducible rfl
      rotate_left
      · simp only [Act.put, List.setIfInBounds_toArray, List.set_cons_zero, List.set_cons_succ]
        rfl
      refine pure_ (i := 1) (N := some 49) (v := ?_) (a' := ?_) #[true, true, false, false, false, false, false, false, false, false, false, false, false] rfl rfl (by kernel_rfl) (fun _ _ _ h => h) (Or.inl ⟨by rfl, ?_⟩) ?_ ?_
      rotate_left
      · intro w'
        go_simp
        with_reducible rfl
      rotate_left
      · simp only [Act.put, List.setIfInBounds_toArray, List.set_cons_zero, List.set_cons_succ]
        rfl
      refine take_ (i := 2) (N := some 50) (v := ?_) (a' := ?_) #[true, true, true, false, false, false, false, false, false, false, false, false, false] rfl rfl (by kernel_rfl) (fun _ _ _ h => h) (Or.inl ⟨by rfl, ?_⟩) hHeld ?_ ?_
      rotate_left
      · rintro w' ⟨s0, s1, s2, s3, s4, s5, s6, s7⟩
        go_simp
        with_reducible rfl
      rotate_left
      · simp only [Act.put, List.setIfInBounds_toArray, List.set_cons_zero, List.set_cons_succ]
        rfl
      refine take_ (i := 3) (N := some 51) (v := ?_) (a' := ?_) #[true, true, true, true, false, false, false, false, false, false, false, false, false] rfl rfl (by kernel_rfl) (fun _ _ _ h => h) (Or.inl ⟨by rfl, ?_⟩) hHeld ?_ ?_
      rotate_left
      · rintro w' ⟨s0, s1, s2, s3, s4, s5, s6, s7⟩
        go_simp
        with_reducible rfl
      rotate_left
      · simp only [Act.put, List.setIfInBounds_toArray, List.set_cons_zero, List.set_cons_succ]
        rfl
      refine pure_ (i := 4) (N := some 52) (v := ?_) (a' := ?_) #[true, true, true, true, true, false, false, false, false, false, false, false, false] rfl rfl (by kernel_rfl) (fun _ _ _ h => h) (Or.inl ⟨by rfl, ?_⟩) ?_ ?_
      rotate_left
      · intro w'
        go_simp
        with_reducible rfl
      rotate_left
      · simp only [Act.put, List.setIfInBounds_toArray, List.set_cons_zero, List.set_cons_succ]
        rfl
      refine take_ (i := 5) (N := some 53) (v := ?_) (a' := ?_) #[true, true, true, true, true, true, false, false, false, false, false, false, false] rfl rfl (by kernel_rfl) (fun _ _ _ h => h) (Or.inl ⟨by rfl, ?_⟩) hHeld ?_ ?_
      rotate_left
      · rintro w' ⟨s0, s1, s2, s3, s4, s5, s6, s7⟩
        go_simp
        with_reducible rfl
      rotate_left
      · simp only [Act.put, List.setIfInBounds_toArray, List.set_cons_zero, List.set_cons_succ]
        rfl
      refine one_ (i := 6) (N := some 54) #[true, true, true, true, true, true, true, false, false, false, false, false, false] rfl rfl (by kernel_rfl) (by decide) (fun K hK => ?_)
      refine Kd.R_append_rows_step (Kd.int .u32) (w0 := w) w.heap.size (by rfl) (.tmp 51) (.tmp 53) 24 39 (.int .u32 0) 4 rfl Try.underlying24 xinfoU rfl (by decide) (by omega) (.slice A9' ls.length c9') ls l5 A5 l5.length c5 (fun _ => True) (fun _ => False) rfl rfl HRd.out (H0.out _ HF1d.out.below HF1d.out.k3).h5 (fun _ _ h => h) (fun _ h => h.elim) (fun _ _ => trivial) HF1d.out.below HF1d.out.below.size (by have h1 := HLK.out.1; have h2 := HVL.out.le; have h3 := HVL.out.pos; have h4 := HVL.out.cons.1; omega) ?_
      intro v1 w2 hR2 hB2 hg2 _
      rw [HLE.out] at hR2
      have HF1e := Aside0.mk (HF1d.out.appended HRd.out hB2 hg2)
      have HF2e := Aside0.mk (HF2d.out.appended HRd.out hB2 hg2)
      have HKe := Aside0.mk (HKd.out.trans (keepsOthers_R HRd.out hg2))
      obtain ⟨Ae, ce, hv_⟩ := Kd.R_slice hR2
      subst hv_
      have HRe := Aside0.mk hR2
      clear hR2 hB2 hg2 hHeld
      refine hK.out _ _ ⟨(blk_cell HF1e.out.k8 0).trans rfl, (blk_cell HF1e.out.k9 0).trans rfl, (blk_cell HF1e.out.k3 0).trans rfl, (blk_cell HF1e.out.k3 1).trans rfl, (blk_cell HF1e.out.k3 2).trans rfl, (blk_cell HF1e.out.k3 3).trans rfl, (blk_cell HF1e.out.k3 4).trans rfl, (blk_cell HF1e.out.k3 5).trans rfl⟩ (fun hHeld => ?_)
      clear hK K
      refine norm_ (a' := ?_) ?_ ?_
      rotate_left
      · show Act.put _ (some 54) _ = _
        simp only [Act.put, List.setIfInBounds_toArray, List.set_cons_zero, List.set_cons_succ]
        rfl
      refine one_ (i := 7) (N := some 55) #[true, true, true, true, true, true, true, true, false, false, false, false, false] rfl rfl (by kernel_rfl) (by decide) (fun K hK => ?_)
      refine goes_ Try.func90 (by kernel_rfl) rfl #[.agg #[.int .i64 a0, .slice A1 l1.length c1, .slice A2 l2.length c2, .slice A3 l3.length c3, .slice (some ad4) l4.length c4, .slice A5 l5.length c5], .slice Ae le.length ce, .bool false] (by rfl) rfl rfl (by (try simp only [List.map_toArray, List.map_cons, List.map_nil]); first | done | rfl) ?_
      have M2 := H0.out _ HF1e.out.below HF1e.out.k3
      refine (cone_of.calls a0 A1 c1 l1 A2 c2 l2 A3 c3 l3 (some ad4) c4 l4 A5 c5 l5 Ae ce le false row 0 _ M2.h1 hc1 M2.h2 hc2 M2.h3 hc3 M2.h4 hc4 M2.h5 hc5 (Kd.R_reads' HRe.out).2.2 (Kd.R_reads' HRe.out).2.1 HOF.out).mono ?_
      clear M2
      rintro e w3 ⟨vr, rfl, hRr, hb3⟩
      refine ⟨_, rfl, ?_⟩
      obtain ⟨Ar, cr, hv_⟩ := Kd.R_slice hRr
      subst hv_
      have HBS := Aside0.mk (Kd.R_base hRr)
      have HAP := Aside0.mk (show RowsLt g n w2.heap.size w3 from by obtain ⟨_, arr, k, _⟩ := HF1e.out.kg; exact HF1e.out.lt.below k hb3)
      have HRr := Aside0.mk (Kd.R_lower hRr HF1e.out.below.size)
      have HF1f := Aside0.mk (HF1e.out.step hb3)
      have HF2f := Aside0.mk (HF2e.out.step hb3)
      have HKf := Aside0.mk (HKe.out.trans (keepsOthers_below hb3))
      clear hRr hb3 hHeld
      refine hK.out _ _ ⟨(blk_cell HF1f.out.k8 0).trans rfl, (blk_cell HF1f.out.k9 0).trans rfl, (blk_cell HF1f.out.k3 0).trans rfl, (blk_cell HF1f.out.k3 1).trans rfl, (blk_cell HF1f.out.k3 2).trans rfl, (blk_cell HF1f.out.k3 3).trans rfl, (blk_cell HF1f.out.k3 4).trans rfl, (blk_cell HF1f.out.k3 5).trans rfl⟩ (fun hHeld => ?_)
      clear hK K
      refine norm_ (a' := ?_) ?_ ?_
      rotate_left
      · show Act.put _ (some 55) _ = _
        simp only [Act.put, List.setIfInBounds_toArray, List.set_cons_zero, List.set_cons_succ]
        rfl
      refine pure_ (i := 8) (N := some 47) (v := ?_) (a' := ?_) #[true, true, true, true, true, true, true, true, true, false, false, false, false] rfl rfl (by kernel_rfl) (fun _ _ _ h => h) (Or.inl ⟨by rfl, ?_⟩) ?_ ?_
      rotate_left
      · intro w'
        go_simp
        with_reducible rfl
      rotate_left
      · simp only [Act.put, List.setIfInBounds_toArray, List.set_cons_zero, List.set_cons_succ]
        rfl
      refine pure_ (i := 9) (N := some 56) (v := ?_) (a' := ?_) #[true, true, true, true, true, true, true, true, true, true, false, false, false] rfl rfl (by kernel_rfl) (fun _ _ _ h => h) (Or.inl ⟨by rfl, ?_⟩) ?_ ?_
      rotate_left
      · intro w'
        go_simp
        with_reducible rfl
      rotate_left
      · simp only [Act.put, List.setIfInBounds_toArray, List.set_cons_zero, List.set_cons_succ]
        rfl
      refine pure_ (i := 10) (N := some 57) (v := ?_) (a' := ?_) #[true, true, true, true, true, true, true, true, true, true, true, false, false] rfl rfl (by kernel_rfl) (fun _ _ _ h => h) (Or.inl ⟨by rfl, ?_⟩) ?_ ?_
      rotate_left
      · intro w'
        go_simp
        with_reducible rfl
      rotate_left
      · simp only [Act.put, List.setIfInBounds_toArray, List.set_cons_zero, List.set_cons_succ]
        rfl
      refine pure_ (i := 11) (N := some 58) (v := ?_) (a' := ?_) #[true, true, true, true, true, true, true, true, true, true, true, true, false] rfl rfl (by kernel_rfl) (fun _ _ _ h => h) (Or.inl ⟨by rfl, ?_⟩) ?_ ?_
      rotate_left
      · intro w'
        go_simp
        with_reducible rfl
      rotate_left
      · simp only [Act.put, List.setIfInBounds_toArray, List.set_cons_zero, List.set_cons_succ]
        rfl
      refine one_ (i := 12) (N := none) #[true, true, true, true, true, true, true, true, true, true, true, true, true] rfl rfl (by kernel_rfl) (by decide) (fun K hK => ?_)
      obtain ⟨Ag, lg, cg, xg⟩ := HF1f.out.rowOk p hp
      have fg : w3.frozen? ⟨g, p, none⟩ = false := by obtain ⟨_, arr, k, _⟩ := HF1f.out.kg; exact blk_frozen k p
      refine skip_step (w1 := w3.setCell ⟨g, p, none⟩ (.slice Ar row.length cr)) (by rfl) rfl ?hrun ?_
      case hrun => first | (go_simp; done) | (go_simp; rfl)
      have HF1g := Aside0.mk (HF1f.out.putg p (.slice Ar row.length cr) row HRr.out HBS.out HAP.out)
      have HF2g := Aside0.mk (HF2f.out.putg p (.slice Ar row.length cr) row HRr.out HBS.out HAP.out)
      have HKg := Aside0.mk (HKf.out.trans (KeepsOthers.setCell w3 ⟨g, p, none⟩ (.slice Ar row.length cr)))
      have HRg := Aside0.mk (show Kd.R Kd.bool 4 (w3.setCell ⟨g, p, none⟩ (.slice Ar row.length cr)) w.heap.size (fun _ => True) (.slice Ar row.length cr) row from by obtain ⟨_, arr, k, _⟩ := HF1f.out.kg; exact Kd.R_set HRr.out k (by decide) p _)
      refine hK.out _ _ ⟨(blk_cell HF1g.out.k8 0).trans rfl, (blk_cell HF1g.out.k9 0).trans rfl, (blk_cell HF1g.out.k3 0).trans rfl, (blk_cell HF1g.out.k3 1).trans rfl, (blk_cell HF1g.out.k3 2).trans rfl, (blk_cell HF1g.out.k3 3).trans rfl, (blk_cell HF1g.out.k3 4).trans rfl, (blk_cell HF1g.out.k3 5).trans rfl⟩ (fun hHeld => ?_)
      clear hK K hHeld
      refine done_ (by kernel_rfl) ?_
      clear xg fg HF1d HF2d HRd HKd HF1e HF2e HKe HRe
      generalize w3.setCell ⟨g, p, none⟩ (.slice Ar row.length cr) = w4 at HF1g HF2g HKg HRg ⊢
      have y9 : w4.cell? ⟨b9, 0, none⟩ = some (.slice A9' ls.length c9') := (blk_cell HF1g.out.k9 0).trans rfl
      have f9 := blk_frozen HF1g.out.k9 0
      gi_wp2_with ((with_reducible refine gate_store_in (t := 24) (p := .tmp 9) (x := .const (.slice none 0 0)) rfl ?_); refine skip_in l (W' := w4.setCell ⟨b9, 0, none⟩ (.slice none 0 0)) ?hn ?hs ?hd ?hr ?_; (case hn => rfl); (case hs => rfl); (case hd => rfl); (case hr => first | (go_simp; done) | (go_simp; rfl)); intro w5 hw_; have HF1h := Aside0.mk (show FrSt a0 A1 c1 l1 A2 c2 l2 A3 c3 l3 (some ad4) c4 l4 A5 c5 l5 w b8 b9 g n (.slice none 0 0) (fun j => if j = p then row else rows j) w5 from by rw [hw_]; exact HF1g.out.put9 _); have HF2h := Aside0.mk (show FrSt a0 A1 c1 l1 A2 c2 l2 A3 c3 l3 (some ad4) c4 l4 A5 c5 l5 w bb b9 g n (.slice none 0 0) (fun j => if j = p then row else rows j) w5 from by rw [hw_]; exact HF2g.out.put9 _); have HKh := Aside0.mk (show KeepsOthers W w5 from by rw [hw_]; exact HKg.out.trans (KeepsOthers.setCell _ _ _)); clear hw_ y9 f9; have z0 : w5.cell? ⟨w.heap.size, 0, none⟩ = some (.int .i64 a0) := (blk_cell HF1h.out.k3 0).trans rfl; have z1 : w5.cell? ⟨w.heap.size, 1, none⟩ = some (.slice A1 l1.length c1) := (blk_cell HF1h.out.k3 1).trans rfl)
      clear z0 z1
      have HRN := Aside0.mk (show Kd.R (Kd.int .u32) 39 w5 w.heap.size (fun _ => True) (.slice none 0 0) (nextsTo a0 row l1 0) from Kd.R_nil _ _ _ _ _)
      gi_loopw [62] (fun i wr => ∃ (k : Nat) (v9 : Value), k ≤ l1.length ∧ i = .int .i64 k ∧ Aside0 (FrSt a0 A1 c1 l1 A2 c2 l2 A3 c3 l3 (some ad4) c4 l4 A5 c5 l5 w b8 b9 g n v9 (fun j => if j = p then row else rows j) wr) ∧ Aside0 (FrSt a0 A1 c1 l1 A2 c2 l2 A3 c3 l3 (some ad4) c4 l4 A5 c5 l5 w bb b9 g n v9 (fun j => if j = p then row else rows j) wr) ∧ Aside0 (KeepsOthers W wr) ∧ Aside0 (Kd.R (Kd.int .u32) 39 wr w.heap.size (fun _ => True) v9 (nextsTo a0 row l1 k)))
        (fun i _ => (l1.length - intOf i).toNat)
      case atStart => exact ⟨0, _, Nat.zero_le _, by simp, HF1h, HF2h, HKh, HRN⟩
      case round =>
        clear HF1h HF2h HKh HRN HF1f HF2f HKf HRr HF1g HF2g HKg HRg
        obtain ⟨k, v9, hk, rfl, HF1, HF2, HK, HR⟩ := hrel
        by_cases hlt : k < l1.length
        · have hltz : (k : Int) < (l1.length : Int) := by omega
          have M := H0.out _ HF1.out.below HF1.out.k3
          obtain ⟨ad, e, x0, x1⟩ := at_T41 M.h1 (k : Int) (by omega) hltz
          cases e
          have ek : (k : Int).toNat = k := by omega
          rw [ek] at x0 x1
          clear ek M
          have HNXT := Aside0.mk (show nextsTo a0 row l1 (k + 1) = if rdOf false row (1 + a0 + (k : Int)) = true then nextsTo a0 row l1 k ++ [(rd_T41 l1 (k : Int)).f0] else nextsTo a0 row l1 k from rfl)
          generalize rd_T41 l1 (k : Int) = y at x0 x1 HNXT
          gi_wp2_with ((with_reducible refine gate_dst_in (N := 12) rfl ?_); refine list_rd l (fun ⟨_, _, h⟩ => h) _ (by rfl) _ _ ?_)
          go_wp2_with (first | ((with_reducible refine gate_dst (N := 12) rfl ?_); refine box_event ?hg (N := 12) ?hd (cs := #[.int .u32 0, .int .u8 0]) (t := 41) ?hr ?_; (case hd => rfl); (case hg => rfl); (case hr => first | (go_simp; done) | (go_simp; rfl)); intro g7 hg_ wa_ bk_ hb_; have GE_ := Aside0.mk (Nat.le_of_eq hg_.symm); clear hg_; have HB_ := Aside0.mk hb_; have BK_ := Aside0.mk bk_; have qa_ : wa_.cell? ⟨g7, 0, none⟩ = some (.int .u32 0) := (blk_cell bk_ 0).trans rfl; have qb_ : wa_.cell? ⟨g7, 1, none⟩ = some (.int .u8 0) := (blk_cell bk_ 1).trans rfl; have fa_ := blk_frozen bk_ 0; have fb_ := blk_frozen bk_ 1; clear hb_ bk_) | ((with_reducible refine gate_store (t := 41) (p := .tmp 12) (x := .tmp 66) rfl ?_); refine skip_event (W' := (wa_.setCell ⟨g7, 0, none⟩ (.int .u32 y.f0)).setCell ⟨g7, 1, none⟩ (.int .u8 y.f1)) ?hn ?hs ?hr ?_; (case hn => rfl); (case hs => rfl); (case hr => first | (go_simp; done) | (go_simp; rfl)); intro w8 hw_; have BK8 := Aside0.mk (show w8.heap[g7]? = some (.cells #[.int .u32 y.f0, .int .u8 y.f1] 41 (0, 0)) from by rw [hw_]; exact blk_set2 BK_.out _ _); have HB8 := Aside0.mk (show Below wr.heap.size wr w8 from by rw [hw_]; exact below_set2 HB_.out GE_.out _ _); clear hw_ qa_ qb_ fa_ fb_ BK_ HB_ GE_; have qg7_0 : w8.cell? ⟨g7, 0, none⟩ = some (.int .u32 y.f0) := (blk_cell BK8.out 0).trans rfl; have qg7_1 : w8.cell? ⟨g7, 1, none⟩ = some (.int .u8 y.f1) := (blk_cell BK8.out 1).trans rfl; skip))
          have HF1i := Aside0.mk (HF1.out.step HB8.out)
          have HF2i := Aside0.mk (HF2.out.step HB8.out)
          have HKi := Aside0.mk (HK.out.trans (keepsOthers_below HB8.out))
          have HRi := Aside0.mk (Kd.R_below HR.out HB8.out)
          clear HF1 HF2 HK HR x0 x1 qg7_0 qg7_1
          obtain ⟨_, arr, karr, hsz, harr⟩ := HF1i.out.kg
          obtain ⟨vp, ep, hRp0⟩ := harr p hp
          have hRp : Kd.R Kd.bool 4 w8 w.heap.size (fun _ => True) vp row := by simpa using Kd.R_mono hRp0 (ok' := fun _ => True) (fun _ _ => trivial)
          obtain ⟨Ap, cp, hv_, _, hCp⟩ := Kd.R_reads hRp
          subst hv_
          have hpos := HVL.out.pos
          have hvle := HVL.out.le
          have hbd : (0 : Int) ≤ 1 + a0 + (k : Int) := by omega
          have hbl : 1 + a0 + (k : Int) < (row.length : Int) := by have := HRL.out; omega
          have xg : w8.cell? ⟨g, p, none⟩ = some (.slice Ap row.length cp) := (blk_cell karr p).trans ep
          obtain ⟨adp, e, xb⟩ := Kd.at_bool hCp (1 + a0 + (k : Int)) hbd hbl
          cases e
          have es1 : IntKind.i64.wrap (1 + a0) = 1 + a0 := IntWalk.i64_in _ (by omega)
          have es2 : IntKind.i64.wrap (1 + a0 + (k : Int)) = 1 + a0 + (k : Int) := IntWalk.i64_in _ (by omega)
          have HNL := Aside0.mk (nextsTo_len (a0 := a0) (row := row) (l1 := l1) k)
          generalize rdOf false row (1 + a0 + (k : Int)) = bv at xb HNXT
          generalize nextsTo a0 row l1 k = nk at HRi HNXT HNL
          clear hRp hRp0 hCp harr karr ep hsz
          have HF1j := Aside0.mk (HF1i.out.step (W' := w8.drew) (below_drew1 (Below.refl _ _)))
          have HF2j := Aside0.mk (HF2i.out.step (W' := w8.drew) (below_drew1 (Below.refl _ _)))
          have HKj := Aside0.mk (HKi.out.trans (keepsOthers_below (W' := w8.drew) (below_drew1 (Below.refl _ _))))
          have HRj := Aside0.mk (Kd.R_below HRi.out (w1 := w8.drew) (below_drew1 (Below.refl _ _)))
          have BKj := Aside0.mk (blk_below BK8.out (below_drew1 (Below.refl w8.heap.size w8)))
          gi_wp2_with fail
          refine start_rd l (n' := 11) (S := fun w' => w'.cell? ⟨b8, 0, none⟩ = some (.slice (some ⟨g, 0, none⟩) n n) ∧ w'.cell? ⟨g, p, none⟩ = some (.slice (some adp) row.length cp) ∧ w'.cell? ⟨w.heap.size, 0, none⟩ = some (.int .i64 a0) ∧ w'.cell? (adp.add (1 + a0 + (k : Int)).toNat) = some (.bool bv)) (ds := []) #[false, false, false, false, false, false, false, false, false, false, false] (by kernel_rfl) (fun ⟨_, _, h⟩ => h) (by kernel_rfl) rfl rfl ⟨(blk_cell HF1i.out.k8 0).trans rfl, xg, (blk_cell HF1i.out.k3 0).trans rfl, xb⟩ (fun hHeld => ?_)
          clear HF1i HF2i HKi HRi BK8 HB8 xg xb
          generalize w8.drew = w9 at HF1j HF2j HKj HRj BKj hHeld ⊢
          refine take_ (i := 0) (N := some 67) (v := ?_) (a' := ?_) #[true, false, false, false, false, false, false, false, false, false, false] rfl rfl (by kernel_rfl) (fun _ _ _ h => h) (Or.inl ⟨by rfl, ?_⟩) hHeld ?_ ?_
          rotate_left
          · rintro w' ⟨s0, s1, s2, s3⟩
            go_simp
            with_reducible rfl
          rotate_left
          · simp only [Act.put, List.setIfInBounds_toArray, List.set_cons_zero, List.set_cons_succ]
            rfl
          refine pure_ (i := 1) (N := some 68) (v := ?_) (a' := ?_) #[true, true, false, false, false, false, false, false, false, false, false] rfl rfl (by kernel_rfl) (fun _ _ _ h => h) (Or.inl ⟨by rfl, ?_⟩) ?_ ?_
          rotate_left
          · intro w'
            go_simp
            with_reducible rfl
          rotate_left
          · simp only [Act.put, List.setIfInBounds_toArray, List.set_cons_zero, List.set_cons_succ]
            rfl
          refine pure_ (i := 2) (N := some 69) (v := ?_) (a' := ?_) #[true, true, true, false, false, false, false, false, false, false, false] rfl rfl (by kernel_rfl) (fun _ _ _ h => h) (Or.inl ⟨by rfl, ?_⟩) ?_ ?_
          rotate_left
          · intro w'
            go_simp
            with_reducible rfl
          rotate_left
          · simp only [Act.put, List.setIfInBounds_toArray, List.set_cons_zero, List.set_cons_succ]
            rfl
          refine take_ (i := 3) (N := some 70) (v := ?_) (a' := ?_) #[true, true, true, true, false, false, false, false, false, false, false] rfl rfl (by kernel_rfl) (fun _ _ _ h => h) (Or.inl ⟨by rfl, ?_⟩) hHeld ?_ ?_
          rotate_left
          · rintro w' ⟨s0, s1, s2, s3⟩
            go_simp
            with_reducible rfl
          rotate_left
          · simp only [Act.put, List.setIfInBounds_toArray, List.set_cons_zero, List.set_cons_succ]
            rfl
          refine pure_ (i := 4) (N := some 71) (v := ?_) (a' := ?_) #[true, true, true, true, true, false, false, false, false, false, false] rfl rfl (by kernel_rfl) (fun _ _ _ h => h) (Or.inl ⟨by rfl, ?_⟩) ?_ ?_
          rotate_left
          · intro w'
            go_simp
            with_reducible rfl
          rotate_left
          · simp only [Act.put, List.setIfInBounds_toArray, List.set_cons_zero, List.set_cons_succ]
            rfl
          refine take_ (i := 5) (N := some 72) (v := ?_) (a' := ?_) #[true, true, true, true, true, true, false, false, false, false, false] rfl rfl (by kernel_rfl) (fun _ _ _ h => h) (Or.inl ⟨by rfl, ?_⟩) hHeld ?_ ?_
          rotate_left
          · rintro w' ⟨s0, s1, s2, s3⟩
            go_simp
            with_reducible rfl
          rotate_left
          · simp only [Act.put, List.setIfInBounds_toArray, List.set_cons_zero, List.set_cons_succ]
            rfl
          refine pure_ (i := 6) (N := some 73) (v := ?_) (a' := ?_) #[true, true, true, true, true, true, true, false, false, false, false] rfl rfl (by kernel_rfl) (fun _ _ _ h => h) (Or.inl ⟨by rfl, ?_⟩) ?_ ?_
          rotate_left
          · intro w'
            go_simp
            with_reducible rfl
          rotate_left
          · simp only [Act.put, List.setIfInBounds_toArray, List.set_cons_zero, List.set_cons_succ]
            rfl
          refine pure_ (i := 7) (N := some 74) (v := ?_) (a' := ?_) #[true, true, true, true, true, true, true, true, false, false, false] rfl rfl (by kernel_rfl) (fun _ _ _ h => h) (Or.inl ⟨by rfl, ?_⟩) ?_ ?_
          rotate_left
          · intro w'
            go_simp
            with_reducible rfl
          rotate_left
          · simp only [Act.put, List.setIfInBounds_toArray, List.set_cons_zero, List.set_cons_succ]
            rfl
          refine pure_ (i := 8) (N := some 75) (v := ?_) (a' := ?_) #[true, true, true, true, true, true, true, true, true, false, false] rfl rfl (by kernel_rfl) (fun _ _ _ h => h) (Or.inl ⟨by rfl, ?_⟩) ?_ ?_
          rotate_left
          · intro w'
            go_simp
            with_reducible rfl
          rotate_left
          · simp only [Act.put, List.setIfInBounds_toArray, List.set_cons_zero, List.set_cons_succ]
            rfl
          refine pure_ (i := 9) (N := some 76) (v := ?_) (a' := ?_) #[true, true, true, true, true, true, true, true, true, true, false] rfl rfl (by kernel_rfl) (fun _ _ _ h => h) (Or.inl ⟨by rfl, ?_⟩) ?_ ?_
          rotate_left
          · intro w'
            go_simp
            with_reducible rfl
          rotate_left
          · simp only [Act.put, List.setIfInBounds_toArray, List.set_cons_zero, List.set_cons_succ]
            rfl
          refine take_ (i := 10) (N := some 77) (v := ?_) (a' := ?_) #[true, true, true, true, true, true, true, true, true, true, true] rfl rfl (by kernel_rfl) (fun _ _ _ h => h) (Or.inl ⟨by rfl, ?_⟩) hHeld ?_ ?_
          rotate_left
          · rintro w' ⟨s0, s1, s2, s3⟩
            go_simp
            with_reducible rfl
          rotate_left
          · simp only [Act.put, List.setIfInBounds_toArray, List.set_cons_zero, List.set_cons_succ]
            rfl
          
          refine done_ (by kernel_rfl) ?_
          clear es1 es2 hbd hbl hpos hvle hHeld
          have y9 : w9.cell? ⟨b9, 0, none⟩ = some v9 := (blk_cell HF1j.out.k9 0).trans rfl
          have q0 : w9.cell? ⟨g7, 0, none⟩ = some (.int .u32 y.f0) := (blk_cell BKj.out 0).trans rfl
          cases bv with
          | true =>
            gi_wp2_with ((with_reducible refine gate_dst_in (N := 78) rfl ?_); refine list_rd l (fun ⟨_, _, h⟩ => h) _ (by rfl) _ _ ?_)
            go_wp2_with (first | ((with_reducible refine gate_builtin (b := .append) (xs := #[.tmp 78, .tmp 81]) rfl ?_); at_builtin; refine Kd.R_append (Kd.int .u32) (w0 := w) w.heap.size rfl (.tmp 78) (.tmp 81) 24 39 (.int .u32 0) 4 rfl Try.underlying24 xinfoU rfl (by decide) (by omega) v9 nk y.f0 [.int .u32 y.f0] (fun _ => True) (fun _ => False) rfl (by first | (go_simp; done) | (go_simp; rfl)) ?aP (fun _ hk => hk.elim) ?aF ?aO ?aB ?aS ?aL ?_; (case aP => exact rfl); (case aB => exact HF1j.out.below); (case aF => exact (fun _ _ => trivial)); (case aO => exact HRj.out); (case aS => exact HF1j.out.below.size); (case aL => have := HNL.out; have h2 := HVL.out.le; have h3 := HVL.out.pos; omega); intro v1 w10 hR hbl hgr hat; have HF1k := Aside0.mk (HF1j.out.appended HRj.out hbl hgr); have HF2k := Aside0.mk (HF2j.out.appended HRj.out hbl hgr); have HKk := Aside0.mk (HKj.out.trans (keepsOthers_R HRj.out hgr)); obtain ⟨Av, cv, hv_⟩ := Kd.R_slice hR; subst hv_; have HRk := Aside0.mk hR; have y9 : w10.cell? ⟨b9, 0, none⟩ = some v9 := (blk_cell HF1k.out.k9 0).trans rfl; have f9 := blk_frozen HF1k.out.k9 0; clear hR hbl hgr hat) | ((with_reducible refine gate_store (t := 24) (p := .tmp 9) (x := .tmp 82) rfl ?_); refine skip_event (W' := w10.setCell ⟨b9, 0, none⟩ (.slice Av (nk ++ [y.f0]).length cv)) ?hn ?hs ?hr ?_; (case hn => rfl); (case hs => rfl); (case hr => first | (go_simp; done) | (go_simp; rfl)); intro w11 hw_; have HF1l := Aside0.mk (show FrSt a0 (some ad) c1 l1 A2 c2 l2 A3 c3 l3 (some ad4) c4 l4 A5 c5 l5 w b8 b9 g n (.slice Av (nk ++ [y.f0]).length cv) (fun j => if j = p then row else rows j) w11 from by rw [hw_]; exact HF1k.out.put9 _); have HF2l := Aside0.mk (show FrSt a0 (some ad) c1 l1 A2 c2 l2 A3 c3 l3 (some ad4) c4 l4 A5 c5 l5 w bb b9 g n (.slice Av (nk ++ [y.f0]).length cv) (fun j => if j = p then row else rows j) w11 from by rw [hw_]; exact HF2k.out.put9 _); have HKl := Aside0.mk (show KeepsOthers W w11 from by rw [hw_]; exact HKk.out.trans (KeepsOthers.setCell _ _ _)); have HRl := Aside0.mk (show Kd.R (Kd.int .u32) 39 w11 w.heap.size (fun _ => True) (.slice Av (nk ++ [y.f0]).length cv) (nk ++ [y.f0]) from by rw [hw_]; exact Kd.R_set HRk.out HF1k.out.k9 (by decide) 0 _); clear hw_ y9 f9))
            gi_wp2
            have HKL : Aside0 (k + 1 ≤ l1.length) := ⟨hlt⟩
            have HEW : Aside0 (wrap64 ((k : Int) + 1) = ((k + 1 : Nat) : Int)) := ⟨wrap_succ HVL.out.le HVL.out.pos hlt⟩
            go_roundw
            case rel => exact ⟨k + 1, _, HKL.out, int_succ HEW, HF1l, HF2l, HKl, ⟨by rw [HNXT.out, if_pos trivial]; exact HRl.out⟩⟩
            case measure =>
              exact meas_int HEW hlt
          | false =>
            clear y9 q0
            gi_wp2
            have HKL : Aside0 (k + 1 ≤ l1.length) := ⟨hlt⟩
            have HEW : Aside0 (wrap64 ((k : Int) + 1) = ((k + 1 : Nat) : Int)) := ⟨wrap_succ HVL.out.le HVL.out.pos hlt⟩
            go_roundw
            case rel => exact ⟨k + 1, _, HKL.out, int_succ HEW, HF1j, HF2j, HKj, ⟨by rw [HNXT.out, if_neg (by simp)]; exact HRj.out⟩⟩
            case measure =>
              exact meas_int HEW hlt
        · obtain rfl : k = l1.length := by omega
          have hltz : ¬ ((l1.length : Nat) : Int) < (l1.length : Int) := by omega
          gi_wp2
          refine ⟨HK.out, HF2.out.backKeeps, v9, _, HF1, HF2, ⟨?_⟩, ⟨?_⟩⟩
          · have h := Lay.snoc p HL.out
            rw [List.length_map, HRW.out] at h
            rw [List.map_append]
            exact h
          · rw [List.length_append]
            show Kd.R (Kd.int .u32) 39 wr w.heap.size (fun _ => True) v9 (litsAt a0 l1 l2 l4 l5 bd (pre.length + 1))
            rw [HNX.out]
            exact HR.out
    case done =>
      rintro D xs W hD hS ⟨v9, rows, HF1, HF2, HL, HR⟩ hK
      have y8 : W.cell? ⟨b8, 0, none⟩ = some (.slice (some ⟨g, 0, none⟩) n n) := (blk_cell HF1.out.k8 0).trans rfl
      go_wp2
      refine ⟨by simp, .inl ⟨_, _, rfl, run_takeDeferred hK, ?_⟩⟩
      have hg : W.grownBy (W.putObj D (.deferred none)) (some D) := grownBy_putObj' W D (.deferred none)
      have f3 := HF1.out.grown hg (fun r e => by cases e; exact ⟨Nat.le_trans HSZ.out hD, _, hK, rfl⟩)
      have hS' : xs.map (fun x => x.1.1) = backPlaces n n := hS
      rw [hS'] at HL
      refine ⟨.tuple #[.slice (some ⟨g, 0, none⟩) n n, .int .i64 0], by simp [results, Try.f30, go_sem], _, rfl, ?_, f3.below⟩
      · refine f3.owns _ (by simp) (by omega) (fun j hj => ?_)
        have hj' : j < n := by simpa using hj
        rw [HL.out.at_ n rows (Nat.le_refl _) j (by omega) hj']
        simp
    case stop => exact fun D c pre W _ _ h _ => h.elim
  · rw [if_neg hc] at h
    obtain ⟨rfl, rfl⟩ := Prod.mk.inj (Option.some.inj h)
    exact (cone_Frames.bad a0 A1 c1 l1 A2 c2 l2 A3 c3 l3 A4 c4 l4 A5 c5 l5 bad frames w hr1 hc1 hr2 hc2 hr3 hc3 hr4 hc4 hr5 hc5 hc).mono (fun e w' ⟨h1, h3⟩ => ⟨_, h1, Kd.S_nil _ _ _ _ _, h3⟩)
end Go.Proofs.Yteiiodlgdbiimaa.F
